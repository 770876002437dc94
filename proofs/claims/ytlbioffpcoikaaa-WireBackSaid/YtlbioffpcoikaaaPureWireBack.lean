/- A message that is put is got as it was. -/
import Derived.Test.YtlbioffpcoikaaaWire8
import Derived.Test.YtlbioffpcoikaaaKindsW
import Derived.Test.YtlbioffpcoikaaaPWx35
namespace Go.Proofs.Ytlbioffpcoikaaa.Pure
open Go.RowKit Go.Proofs.Ytlbioffpcoikaaa.PW Go.Proofs.YtlbioffpcoikaaaW.PrintWords Go.Proofs.YtlbioffpcoikaaaW.PrintLast
theorem wfB {l : List Int} (h : ∀ y ∈ l, (Lit.int .u8 y).wf = true) : ∀ x ∈ l, 0 ≤ x ∧ x < 256 := okBytes_mem (okBytes_wf h)
theorem WireBack_pure (x : S40) (g : Good40 x) : ∃ k, tollgatelaw02_WireBack.f k x.f0 x.f1 x.f2 x.f3 x.f4 x.f5 x.f6 x.f7 x.f8 x.f9 x.f10 x.f11 = some true := by
  have L := lens_good g
  have hL := L.le
  refine ⟨x.f10.length + 21, ?_⟩
  unfold tollgatelaw02_WireBack.f wire_PutMsg.f
  rw [if_pos (by omega)]
  simp only [Option.bind_some]
  by_cases h : msgErr x.f0 x.f1 x.f2 x.f3 x.f4 x.f5 x.f6 x.f7 x.f8 x.f10 x.f11 = 0
  · obtain ⟨hA, hM⟩ := msgErr_zero.1 h
    have hlen := msgBytes_len (a9 := x.f9) hA hM
    have hb := msgBytes_ok (a9 := x.f9) hA hM (wfB g.2.2.2.2.2.2.2.2.2.2.2.2.2) (fun e he => wfB (g.2.2.2.2.2.2.2.2.2.2.1.2.2 e he).2.2.2.2.2)
    have hp := refMsg_put (a9 := x.f9) [] hA hM
    rw [List.append_nil, if_pos rfl] at hp
    rw [putMsg, if_pos h]
    simp only [if_true]
    unfold wire_GetMsg.f
    rw [if_pos ⟨hb, by omega⟩, hp]
    simp only [Option.bind_some, tollgatelaw02_live.f, if_true]
    rw [SameMsg_f L (by omega)]
    simp
  · rw [putMsg, if_neg h]
    simp only
    rw [if_neg h]
    simp only [Option.bind_some, tollgatelaw02_live.f, if_true, List.length_nil]
    by_cases h2 : msgErr x.f0 x.f1 x.f2 x.f3 x.f4 x.f5 x.f6 x.f7 x.f8 x.f10 x.f11 = 2
    · simp [h2]
    · have h6 : msgErr x.f0 x.f1 x.f2 x.f3 x.f4 x.f5 x.f6 x.f7 x.f8 x.f10 x.f11 = 6 := by
        unfold msgErr at h h2 ⊢
        by_cases p : msgArg x.f0 x.f1 x.f2 x.f3 x.f4 x.f5 x.f6 x.f7 x.f8 x.f10 = true
        · rw [if_pos p] at h2; exact absurd rfl h2
        · rw [if_neg p] at h ⊢
          by_cases q : msgLim x.f10 x.f11 = true
          · rw [if_pos q]
          · rw [if_neg q] at h; exact absurd rfl h
      simp [h6]
end Go.Proofs.Ytlbioffpcoikaaa.Pure
