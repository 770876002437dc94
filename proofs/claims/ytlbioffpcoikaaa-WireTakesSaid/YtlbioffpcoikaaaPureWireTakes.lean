/- The number that wire.TakeNumber answers at a place of bytes, where it ends, and the error, are those of the document's reference, at all bytes and places. -/
import Derived.Test.YtlbioffpcoikaaaWire2
import Derived.Test.YtlbioffpcoikaaaPWx9
namespace Go.Proofs.Ytlbioffpcoikaaa.Pure
open Go.RowKit Go.Proofs.Ytlbioffpcoikaaa.PW Go.Proofs.YtlbioffpcoikaaaW.PrintWords Go.Proofs.YtlbioffpcoikaaaW.PrintLast
theorem okBytes_wf {l : List Int} (h : ∀ x ∈ l, (Lit.int .u8 x).wf = true) : okBytes l = true := by
  refine List.all_eq_true.2 (fun x hx => ?_)
  have := h x hx
  simp [Lit.wf, IntKind.min, IntKind.max, IntKind.signed, IntKind.bits] at this
  simp; omega
theorem WireTakes : tollgatelaw02_WireTakes.Pure := by
  intro l a1 _ hl hb _
  refine ⟨21, ?_⟩
  have hok := okBytes_wf hb
  have ht : wire_TakeNumber.f l a1 = some (takeNum l a1) := if_pos ⟨hok, by omega⟩
  unfold tollgatelaw02_WireTakes.f
  rw [ht, refTake_f hok (by omega) (by omega)]
  simp [tollgatelaw02_live.f]
end Go.Proofs.Ytlbioffpcoikaaa.Pure
