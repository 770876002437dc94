/- MemberUndoes: what the law's function answers. -/
import Derived.Test.YthmamgnobcnhgaaEUndoes
import Derived.Test.YthmamgnobcnhgaaKindsM
namespace Go.Proofs.Ythmamgnobcnhgaa.Pure
open Go.RowKit Go.Proofs.Ythmamgnobcnhgaa.PM Go.Proofs.YthmamgnobcnhgaaW.PrintWords Go.Proofs.YthmamgnobcnhgaaW.PrintLast
theorem MemberUndoes_pure (x0 : S24) (x1 : Int) (g0 : Good24 x0) (_ : (Lit.int .i64 x1).wf = true) : tollgatelaw03_MemberUndoes.f x0.f0 x0.f1 x1 = some true := by
  unfold tollgatelaw03_MemberUndoes.f
  rw [if_pos ⟨by have := reach8 g0.1.1; omega, by have := reach8 g0.2.1; omega⟩]
end Go.Proofs.Ythmamgnobcnhgaa.Pure
