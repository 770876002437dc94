/- A message's bytes that are cut short are ErrShort; with bytes behind they are ErrForm. -/
import Derived.Test.YtlbioffpcoikaaaECuts
import Derived.Test.YtlbioffpcoikaaaKindsW
namespace Go.Proofs.Ytlbioffpcoikaaa.Pure
open Go.RowKit Go.Proofs.Ytlbioffpcoikaaa.PW Go.Proofs.YtlbioffpcoikaaaW.PrintWords Go.Proofs.YtlbioffpcoikaaaW.PrintLast
theorem WireCuts_pure (x : S40) (x1 : Int) (x2 : List Int) (g : Good40 x) (g1 : (Lit.int .i64 x1).wf = true) (g2 : x2.length * 1 ≤ reachBytes ∧ x2.length ≤ maxLen ∧ ∀ y ∈ x2, (Lit.int .u8 y).wf = true) :
    tollgatelaw02_WireCuts.f x.f0 x.f1 x.f2 x.f3 x.f4 x.f5 x.f6 x.f7 x.f8 x.f9 x.f10 x.f11 x1 x2 = some true := by
  have L := lens_good g
  have hL := L.le
  have h1 := g1
  simp [Lit.wf, IntKind.min, IntKind.max, IntKind.signed, IntKind.bits] at h1
  have h2 := g2.1
  simp only [reachBytes] at h2
  unfold tollgatelaw02_WireCuts.f
  rw [if_pos]
  simp only [cutsOk, Bool.and_eq_true, decide_eq_true_eq, List.all_eq_true]
  exact ⟨⟨⟨⟨⟨⟨by omega, by omega⟩, by omega⟩, okBytes_wf g2.2.2⟩, by omega⟩, okBytes_wf g.2.2.2.2.2.2.2.2.2.2.2.2.2⟩, fun e he => okBytes_wf (g.2.2.2.2.2.2.2.2.2.2.1.2.2 e he).2.2.2.2.2⟩
end Go.Proofs.Ytlbioffpcoikaaa.Pure
