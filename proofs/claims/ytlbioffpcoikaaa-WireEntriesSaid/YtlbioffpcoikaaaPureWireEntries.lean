/- The bytes that wire.PutEntry answers for an entry, and its error, are those of the document's reference, at every entry. -/
import Derived.Test.YtlbioffpcoikaaaWire3
import Derived.Test.YtlbioffpcoikaaaKindsW
import Derived.Test.YtlbioffpcoikaaaPWx18
namespace Go.Proofs.Ytlbioffpcoikaaa.Pure
open Go.RowKit Go.Proofs.Ytlbioffpcoikaaa.PW Go.Proofs.YtlbioffpcoikaaaW.PrintWords Go.Proofs.YtlbioffpcoikaaaW.PrintLast
theorem WireEntries_pure (x : S34) (_ : Good34 x) : ∃ k, tollgatelaw02_WireEntries.f k x.f0 x.f1 x.f2 x.f3 = some true := by
  refine ⟨11, ?_⟩
  unfold tollgatelaw02_WireEntries.f
  rw [PutEntry_f (by omega), refPutEntry_f (by omega)]
  simp [tollgatelaw02_live.f]
end Go.Proofs.Ytlbioffpcoikaaa.Pure
