/- MemberApplies: what the law's function answers. -/
import Derived.Test.YthmamgnobcnhgaaMember9
import Derived.Test.YthmamgnobcnhgaaPMx42
import Derived.Test.YthmamgnobcnhgaaKindsM
namespace Go.Proofs.Ythmamgnobcnhgaa.Pure
open Go.RowKit Go.Proofs.Ythmamgnobcnhgaa.PM Go.Proofs.YthmamgnobcnhgaaW.PrintWords Go.Proofs.YthmamgnobcnhgaaW.PrintLast
theorem MemberApplies_pure (x0 : S24) (x1 : S55) (g0 : Good24 x0) (_ : Good55 x1) : ∃ k, tollgatelaw03_MemberApplies.f k x0.f0 x0.f1 x1.f0 x1.f1 = some true := by
  obtain ⟨V, L⟩ := x0
  obtain ⟨d, n⟩ := x1
  have hV := reach8 g0.1.1
  have hL := reach8 g0.2.1
  simp only at hV hL
  refine ⟨V.length + L.length + 400, ?_⟩
  show tollgatelaw03_MemberApplies.f (V.length + L.length + 400) V L d n = some true
  have hl := applyB_len V L d n
  unfold tollgatelaw03_MemberApplies.f
  rw [Copy_f V L hV hL]
  simp only [Option.bind_some]
  rw [Apply_f V L hV hL d n (by omega), refApply_f V L hV hL d n (by omega), live_f (by omega)]
  simp only [Option.bind_some]
  rw [Same_f _ _ _ _ (by omega) (by omega) (by omega) (by omega), Same_f V L V L (by omega) (by omega) (by omega) (by omega)]
  simp
end Go.Proofs.Ythmamgnobcnhgaa.Pure
