/- MemberQuorums: what the law's function answers. -/
import Derived.Test.YthmamgnobcnhgaaMember1
import Derived.Test.YthmamgnobcnhgaaPMx17
import Derived.Test.YthmamgnobcnhgaaKindsM
namespace Go.Proofs.Ythmamgnobcnhgaa.Pure
open Go.RowKit Go.Proofs.Ythmamgnobcnhgaa.PM Go.Proofs.YthmamgnobcnhgaaW.PrintWords Go.Proofs.YthmamgnobcnhgaaW.PrintLast
theorem MemberQuorums_pure (x0 : S24) (x1 : List Int) (g0 : Good24 x0) (g1 : x1.length * 8 ≤ reachBytes ∧ x1.length ≤ maxLen ∧ ∀ y ∈ x1, (Lit.int .i64 y).wf = true) : ∃ k, tollgatelaw03_MemberQuorums.f k x0.f0 x0.f1 x1 = some true := by
  obtain ⟨V, L⟩ := x0
  have hV := reach8 g0.1.1
  have hL := reach8 g0.2.1
  have hY := reach8 g1.1
  have hi := i64s_of g1.2.2
  simp only at hV hL
  refine ⟨2 * V.length + L.length + x1.length + 100, ?_⟩
  unfold tollgatelaw03_MemberQuorums.f
  simp only [Copy_f V L hV hL, Option.bind_some, List.length_nil, List.nil_append]
  rw [if_pos (by omega), Quorum_f (by omega) (by omega) (by omega) hi, live_f (by omega), refQuorum_f V L x1 (by omega) (by omega) (by omega) (by omega), Same_f V L V L (by omega) (by omega) (by omega) (by omega), SameInts_f x1 x1 (by omega) (by omega)]
  simp
end Go.Proofs.Ythmamgnobcnhgaa.Pure
