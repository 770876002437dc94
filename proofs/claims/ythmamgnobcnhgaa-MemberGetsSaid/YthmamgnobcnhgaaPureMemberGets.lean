/- MemberGets: what the law's function answers. -/
import Derived.Test.YthmamgnobcnhgaaMember7
import Derived.Test.YthmamgnobcnhgaaPMx52
import Derived.Test.YthmamgnobcnhgaaKindsM
namespace Go.Proofs.Ythmamgnobcnhgaa.Pure
open Go.RowKit Go.Proofs.Ythmamgnobcnhgaa.PM Go.Proofs.YthmamgnobcnhgaaW.PrintWords Go.Proofs.YthmamgnobcnhgaaW.PrintLast
theorem okBytes_of {l : List Int} (h : ∀ y ∈ l, (Lit.int .u8 y).wf = true) : okBytes l = true := by
  refine List.all_eq_true.2 fun y hy => ?_
  have := h y hy
  have e1 : IntKind.u8.min = 0 := by decide
  have e2 : IntKind.u8.max = 255 := by decide
  simp only [Lit.wf, e1, e2] at this
  simp at this ⊢
  omega
theorem getB_len (l : List Int) : (getB l).1.length ≤ 9 ∧ (getB l).2.1.length ≤ 9 := by
  have l1 := listB_len l 0
  have l2 := listB_len l (listB l 0).2.1
  unfold getB
  repeat' split
  all_goals first | exact ⟨l1, l2⟩ | simp
theorem MemberGets_pure (x0 : List Int) (g0 : x0.length * 1 ≤ reachBytes ∧ x0.length ≤ maxLen ∧ ∀ y ∈ x0, (Lit.int .u8 y).wf = true) : ∃ k, tollgatelaw03_MemberGets.f k x0 = some true := by
  have hok := okBytes_of g0.2.2
  have hl : x0.length ≤ 200000000000000 := by have h := g0.1; have : reachBytes = 140737488351232 := rfl; omega
  obtain ⟨k0, hk0⟩ := refGet_f hok hl
  refine ⟨k0 + 200, ?_⟩
  have hln := getB_len x0
  unfold tollgatelaw03_MemberGets.f
  rw [Get_f hok hl (by omega), hk0 _ (by omega), GetChange_f hok hl, refGetChange_f hok hl (by omega), live_f (by omega)]
  simp only [Option.bind_some]
  rw [Same_f _ _ _ _ (by omega) (by omega) (by omega) (by omega)]
  simp
end Go.Proofs.Ythmamgnobcnhgaa.Pure
