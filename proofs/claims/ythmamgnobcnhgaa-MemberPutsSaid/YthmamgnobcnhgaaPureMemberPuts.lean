/- MemberPuts: what the law's function answers. -/
import Derived.Test.YthmamgnobcnhgaaMember5
import Derived.Test.YthmamgnobcnhgaaPMx31
import Derived.Test.YthmamgnobcnhgaaKindsM
namespace Go.Proofs.Ythmamgnobcnhgaa.Pure
open Go.RowKit Go.Proofs.Ythmamgnobcnhgaa.PM Go.Proofs.YthmamgnobcnhgaaW.PrintWords Go.Proofs.YthmamgnobcnhgaaW.PrintLast
theorem MemberPuts_pure (x0 : S24) (x1 : S55) (g0 : Good24 x0) (_ : Good55 x1) : ∃ k, tollgatelaw03_MemberPuts.f k x0.f0 x0.f1 x1.f0 x1.f1 = some true := by
  obtain ⟨V, L⟩ := x0
  have hV := reach8 g0.1.1
  have hL := reach8 g0.2.1
  simp only at hV hL
  refine ⟨V.length + L.length + 400, ?_⟩
  unfold tollgatelaw03_MemberPuts.f
  rw [Put_f V L (by omega) (by omega) (by omega), refPut_f V L (by omega) (by omega) (by omega), PutChange_f _ _ (by omega), refPutChange_f _ _ (by omega), live_f (by omega)]
  simp
end Go.Proofs.Ythmamgnobcnhgaa.Pure
