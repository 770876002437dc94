/- The bytes that wire.PutMsg answers for a message, and its error, are those of the document's reference; the message stays. -/
import Derived.Test.YtlbioffpcoikaaaWire6
import Derived.Test.YtlbioffpcoikaaaPWx27
namespace Go.Proofs.Ytlbioffpcoikaaa.Pure
open Go.RowKit Go.Proofs.Ytlbioffpcoikaaa.PW Go.Proofs.YtlbioffpcoikaaaW.PrintWords Go.Proofs.YtlbioffpcoikaaaW.PrintLast
theorem WireMsgs_pure (x : S40) (g : Good40 x) : ∃ k, tollgatelaw02_WireMsgs.f k x.f0 x.f1 x.f2 x.f3 x.f4 x.f5 x.f6 x.f7 x.f8 x.f9 x.f10 x.f11 = some true := by
  have L := lens_good g
  have hL := L.le
  refine ⟨x.f10.length + 21, ?_⟩
  unfold tollgatelaw02_WireMsgs.f
  rw [CopyMsg_f L (by omega)]
  simp only [Option.bind_some]
  rw [refPutMsg_f L.le _ _ _ _ _ _ _ _ _ _ _ (by omega), SameMsg_f L (by omega)]
  unfold wire_PutMsg.f
  rw [if_pos (by omega)]
  simp [tollgatelaw02_live.f]
end Go.Proofs.Ytlbioffpcoikaaa.Pure
