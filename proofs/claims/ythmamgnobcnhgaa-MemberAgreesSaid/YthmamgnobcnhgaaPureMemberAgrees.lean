/- MemberAgrees: what the law's function answers. -/
import Derived.Test.YthmamgnobcnhgaaMember2
import Derived.Test.YthmamgnobcnhgaaPMx20
import Derived.Test.YthmamgnobcnhgaaKindsM
namespace Go.Proofs.Ythmamgnobcnhgaa.Pure
open Go.RowKit Go.Proofs.Ythmamgnobcnhgaa.PM Go.Proofs.YthmamgnobcnhgaaW.PrintWords Go.Proofs.YthmamgnobcnhgaaW.PrintLast
theorem agrees_l0 (V L : List Int) (l : List S33) (r : Int) (hl : l.length ≤ 4611686018427387904) (k : Nat) (hk : 64 ≤ k) (hr : tollgateref03_Agreed.f k V L l = some r) : ∀ (m : Nat) (i : Int), 0 ≤ i → i + m = l.length →
    tollgatelaw03_MemberAgrees.l0 (m + 1 + k) l l r i V L = some true
  | 0, i, h0, h1 => by
    rw [show 0 + 1 + k = k + 1 by omega, tollgatelaw03_MemberAgrees.l0, if_neg (by omega), live_f hk, hr]
    simp
  | m + 1, i, h0, h1 => by
    rw [show m + 1 + 1 + k = (m + 1 + k) + 1 by omega, tollgatelaw03_MemberAgrees.l0, if_pos (by omega), if_pos h0, if_pos (by omega), wrap64_in (n := i + 1) (by omega), agrees_l0 V L l r hl k hk hr m (i + 1) (by omega) (by omega)]
    simp
theorem MemberAgrees_pure (x0 : S24) (x1 : List S33) (g0 : Good24 x0) (g1 : x1.length * 16 ≤ reachBytes ∧ x1.length ≤ maxLen ∧ ∀ y ∈ x1, Good33 y) : ∃ k, tollgatelaw03_MemberAgrees.f k x0.f0 x0.f1 x1 = some true := by
  obtain ⟨V, L⟩ := x0
  have hV := reach8 g0.1.1
  have hL := reach8 g0.2.1
  have hY : x1.length ≤ 8796093021952 := by have h := g1.1; have : reachBytes = 140737488351232 := rfl; omega
  simp only at hV hL
  obtain ⟨k0, hk0⟩ := refAgreed_f x1 V L (by omega) (by omega) (by omega)
  refine ⟨x1.length + 1 + (k0 + 64), ?_⟩
  unfold tollgatelaw03_MemberAgrees.f
  simp only [Option.bind_some, List.length_nil, List.nil_append]
  rw [if_pos (by omega)]
  have hA : member_Agreed.f V L x1 = some (agreedB V L x1) := by unfold member_Agreed.f; rw [if_pos ⟨by omega, by omega, by omega⟩]
  rw [hA]
  simp only [Option.bind_some]
  exact agrees_l0 V L x1 _ (by omega) (k0 + 64) (by omega) (hk0 _ (by omega)) x1.length 0 (by omega) (by omega)
end Go.Proofs.Ythmamgnobcnhgaa.Pure
