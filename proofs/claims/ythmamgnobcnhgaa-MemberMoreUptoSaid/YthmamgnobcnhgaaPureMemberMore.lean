/- MemberMore: what the law's function answers, where the lists are no longer than 10^12. -/
import Derived.Test.YthmamgnobcnhgaaMember1
import Derived.Test.YthmamgnobcnhgaaPMx22
import Derived.Test.YthmamgnobcnhgaaKindsM
namespace Go.Proofs.Ythmamgnobcnhgaa.Pure
open Go.RowKit Go.Proofs.Ythmamgnobcnhgaa.PM Go.Proofs.YthmamgnobcnhgaaW.PrintWords Go.Proofs.YthmamgnobcnhgaaW.PrintLast
theorem more_mono (V L Y Z : List Int) (h : quorumB V L Y = true) : quorumB V L (Y ++ Z) = true := by
  unfold quorumB at *
  simp only [Bool.and_eq_true, decide_eq_true_eq] at *
  refine ⟨h.1, Nat.lt_of_le_of_lt (Nat.mul_le_mul_left 2 ?_) h.2⟩
  have : (V.filter fun x => !(Y ++ Z).contains x) = (V.filter fun x => !Y.contains x).filter fun x => !Z.contains x := by
    rw [List.filter_filter]
    refine List.filter_congr fun x _ => ?_
    have e : (Y ++ Z).contains x = (Y.contains x || Z.contains x) := by rw [Bool.eq_iff_iff]; simp
    rw [e, Bool.not_or, Bool.and_comm]
  rw [this]
  exact List.length_filter_le _ _
theorem more_swap (V L Y Z : List Int) : quorumB V L (Y ++ Z) = quorumB V L (Z ++ Y) := by
  unfold quorumB
  have : (fun x => !(Y ++ Z).contains x) = fun x => !(Z ++ Y).contains x := by
    funext x
    congr 1
    rw [Bool.eq_iff_iff]
    simp [or_comm]
  rw [this]
theorem i64s_app {a b : List Int} (ha : i64s a = true) (hb : i64s b = true) : i64s (a ++ b) = true := by unfold i64s at *; rw [List.all_append, ha, hb]; rfl
theorem MemberMore_small (V L Y Z : List Int) (hV : V.length ≤ 17592186043904) (hL : L.length ≤ 17592186043904) (hY : Y.length ≤ 1000000000000) (hZ : Z.length ≤ 1000000000000) (iY : i64s Y = true) (iZ : i64s Z = true) : ∃ k, tollgatelaw03_MemberMore.f k V L Y Z = some true := by
  refine ⟨64, ?_⟩
  unfold tollgatelaw03_MemberMore.f
  simp only [Option.bind_some, List.length_nil, List.nil_append]
  rw [if_pos (by omega), if_pos (by omega), if_pos (by omega), if_pos (by omega), live_f (by omega), Quorum_f (Y := Y) (by omega) (by omega) (by omega) iY, Quorum_f (Y := Y ++ Z) (by omega) (by omega) (by simp; omega) (i64s_app iY iZ), Quorum_f (Y := Z ++ Y) (by omega) (by omega) (by simp; omega) (i64s_app iZ iY), ← more_swap V L Y Z]
  simp only [Option.bind_some]
  cases h : quorumB V L Y
  · simp
  · rw [more_mono V L Y Z h]; simp
theorem MemberMore_pure (x0 : S24) (x1 x2 : List Int) (g0 : Good24 x0) (_ : Small24 1048576 x0) (g1 : x1.length * 8 ≤ reachBytes ∧ x1.length ≤ maxLen ∧ ∀ y ∈ x1, (Lit.int .i64 y).wf = true) (s1 : x1.length ≤ 1048576 ∧ ∀ y ∈ x1, True)
    (g2 : x2.length * 8 ≤ reachBytes ∧ x2.length ≤ maxLen ∧ ∀ y ∈ x2, (Lit.int .i64 y).wf = true) (s2 : x2.length ≤ 1048576 ∧ ∀ y ∈ x2, True) : ∃ k, tollgatelaw03_MemberMore.f k x0.f0 x0.f1 x1 x2 = some true :=
  MemberMore_small _ _ _ _ (reach8 g0.1.1) (reach8 g0.2.1) (by have := s1.1; omega) (by have := s2.1; omega) (i64s_of g1.2.2) (i64s_of g2.2.2)
end Go.Proofs.Ythmamgnobcnhgaa.Pure
