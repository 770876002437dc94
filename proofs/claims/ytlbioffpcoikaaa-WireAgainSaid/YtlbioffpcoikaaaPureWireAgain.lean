/- Bytes that are taken for a message are just its bytes: no other row is. -/
import Derived.Test.YtlbioffpcoikaaaWire8
import Derived.Test.YtlbioffpcoikaaaKindsW
import Derived.Test.YtlbioffpcoikaaaPWx36
namespace Go.Proofs.Ytlbioffpcoikaaa.Pure
open Go.RowKit Go.Proofs.Ytlbioffpcoikaaa.PW Go.Proofs.YtlbioffpcoikaaaW.PrintWords Go.Proofs.YtlbioffpcoikaaaW.PrintLast
theorem WireAgain_pure (x0 : List Int) (g0 : x0.length * 1 ≤ reachBytes ∧ x0.length ≤ maxLen ∧ ∀ y ∈ x0, (Lit.int .u8 y).wf = true) : ∃ k, tollgatelaw02_WireAgain.f k x0 = some true := by
  have hok := okBytes_wf g0.2.2
  have hl : x0.length ≤ 140737488355328 := by have := g0.1; simp only [reachBytes] at this; omega
  refine ⟨10, ?_⟩
  unfold tollgatelaw02_WireAgain.f wire_GetMsg.f
  rw [if_pos ⟨hok, hl⟩]
  simp only [Option.bind_some]
  rcases refMsg_cases hok with ⟨x, hx, hr⟩ | ⟨a0, a1, a2, a3, a4, a5, a6, a7, a8, a9, es, d, hr, hA, hL, he⟩
  · rw [hr]
    simp only [msgZ, hx, if_false, SameMsg_f lens_nil (k := 10) (by decide)]
    simp [tollgatelaw02_live.f]
  · rw [hr]
    have h := lens_lim hL
    simp only [if_true]
    unfold wire_PutMsg.f
    rw [if_pos (by omega), putMsg, if_pos (msgErr_zero.2 ⟨hA, hL⟩), ← he]
    simp [tollgatelaw02_live.f]
end Go.Proofs.Ytlbioffpcoikaaa.Pure
