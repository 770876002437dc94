/- The bytes that wire.Number answers for a number, and its error, are those of the document's reference, at every number. -/
import Derived.Test.YtlbioffpcoikaaaWire2
import Derived.Test.YtlbioffpcoikaaaPWx6
namespace Go.Proofs.Ytlbioffpcoikaaa.Pure
open Go.RowKit Go.Proofs.Ytlbioffpcoikaaa.PW Go.Proofs.YtlbioffpcoikaaaW.PrintWords Go.Proofs.YtlbioffpcoikaaaW.PrintLast
theorem WireNumbers : tollgatelaw02_WireNumbers.Pure := by
  intro a0 _
  refine ⟨11, ?_⟩
  unfold tollgatelaw02_WireNumbers.f
  rw [Number_f (by omega), refNumber_f (by omega)]
  simp [tollgatelaw02_live.f]
end Go.Proofs.Ytlbioffpcoikaaa.Pure
