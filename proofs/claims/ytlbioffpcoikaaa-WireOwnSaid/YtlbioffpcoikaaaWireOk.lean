import Derived.Test.YtlbioffpcoikaaaWire2
import Derived.Test.YtlbioffpcoikaaaOpen
namespace Go.Proofs.Ytlbioffpcoikaaa.PW
open Go.RowKit Go.Proofs.YtlbioffpcoikaaaW.PrintWords Go.Proofs.YtlbioffpcoikaaaW.PrintLast
theorem okBytes_wf {l : List Int} (h : ∀ x ∈ l, (Lit.int .u8 x).wf = true) : okBytes l = true := by
  refine List.all_eq_true.2 (fun x hx => ?_)
  have := h x hx
  simp [Lit.wf, IntKind.min, IntKind.max, IntKind.signed, IntKind.bits] at this
  simp; omega
theorem okBytes_of {l : List Int} (h : ∀ x ∈ l, 0 ≤ x ∧ x < 256) : okBytes l = true := by
  refine List.all_eq_true.2 (fun x hx => ?_)
  have := h x hx
  simp; omega
theorem okBytes_mem {l : List Int} (h : okBytes l = true) : ∀ x ∈ l, 0 ≤ x ∧ x < 256 := fun x hx => by
  have := List.all_eq_true.1 h x hx
  simp at this; omega
theorem okBytes_append {a b : List Int} (ha : okBytes a = true) (hb : okBytes b = true) : okBytes (a ++ b) = true := by
  unfold okBytes at *; rw [List.all_append, ha, hb]; rfl
end Go.Proofs.Ytlbioffpcoikaaa.PW
