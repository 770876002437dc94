/- The message that wire.GetMsg answers for bytes, and its error, are those of the document's reference. -/
import Derived.Test.YtlbioffpcoikaaaWire8
import Derived.Test.YtlbioffpcoikaaaKindsW
import Derived.Test.YtlbioffpcoikaaaPWx34
namespace Go.Proofs.Ytlbioffpcoikaaa.Pure
open Go.RowKit Go.Proofs.Ytlbioffpcoikaaa.PW Go.Proofs.YtlbioffpcoikaaaW.PrintWords Go.Proofs.YtlbioffpcoikaaaW.PrintLast
theorem WireReadsMsg_pure (x0 : List Int) (g0 : x0.length * 1 ≤ reachBytes ∧ x0.length ≤ maxLen ∧ ∀ y ∈ x0, (Lit.int .u8 y).wf = true) : ∃ k, tollgatelaw02_WireReadsMsg.f k x0 = some true := by
  have hok := okBytes_wf g0.2.2
  have hl : x0.length ≤ 140737488355328 := by have := g0.1; simp only [reachBytes] at this; omega
  refine ⟨10, ?_⟩
  unfold tollgatelaw02_WireReadsMsg.f wire_GetMsg.f tollgateref02_GetMsg.f
  rw [if_pos ⟨hok, hl⟩]
  simp only [Option.bind_some, tollgatelaw02_live.f, if_true]
  rcases refMsg_cases hok with ⟨x, _, hr⟩ | ⟨a0, a1, a2, a3, a4, a5, a6, a7, a8, a9, es, d, hr, hA, hL, _⟩
  · rw [hr]
    simp only [msgZ]
    rw [SameMsg_f lens_nil (by decide)]
    simp
  · rw [hr]
    have h := lens_lim hL
    simp only
    rw [SameMsg_f h.1 (by omega)]
    simp
end Go.Proofs.Ytlbioffpcoikaaa.Pure
