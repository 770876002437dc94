import Derived.Test.YtlbioffpcoikaaaWireOk
import Derived.Test.YtlbioffpcoikaaaPWx26
import Derived.Test.YtlbioffpcoikaaaWire3
import Derived.Test.YtlbioffpcoikaaaKindsW
namespace Go.Proofs.Ytlbioffpcoikaaa.PW
open Go.RowKit Go.Proofs.YtlbioffpcoikaaaW.PrintWords Go.Proofs.YtlbioffpcoikaaaW.PrintLast Go.Proofs.YtlbioffpcoikaaaW.PrintMore
set_option linter.unusedVariables false
set_option linter.unusedSimpArgs false

/-- Lengths that a message of memory has. -/
structure Lens (es : List S34) (d : List Int) : Prop where
  le : es.length < 2932031007402
  ld : d.length < 140737488355328
  lx : ∀ x ∈ es, x.f3.length < 140737488355328
theorem SameEntries_l0 {es : List S34} (he : es.length < 2932031007402) : ∀ (m k : Nat) (i : Int), 0 ≤ i → i + m = es.length → m < k → tollgateref02_SameEntries.l0 k es es i = some true
  | 0, k + 1, i, h0, h1, _ => by rw [tollgateref02_SameEntries.l0, if_neg (by omega)]
  | m + 1, k + 1, i, h0, h1, hk => by
    rw [tollgateref02_SameEntries.l0, if_pos (by omega), if_pos h0, if_pos (by omega)]
    simp only [tollgateref02_SameEntry.f, if_true, beq_self_eq_true, Option.bind_some]
    rw [wrap64_in (by omega)]
    exact SameEntries_l0 he m k (i + 1) (by omega) (by omega) (by omega)
theorem SameMsg_f {es : List S34} {d : List Int} (L : Lens es d) {k : Nat} (hk : es.length < k) (a0 a1 a2 a3 a4 a5 a6 a7 a8 : Int) (a9 : Bool) :
    tollgateref02_SameMsg.f k a0 a1 a2 a3 a4 a5 a6 a7 a8 a9 es d a0 a1 a2 a3 a4 a5 a6 a7 a8 a9 es d = some true := by
  unfold tollgateref02_SameMsg.f tollgateref02_SameEntries.f
  simp only [if_true, bne_self_eq_false, Bool.false_eq_true, if_false, SameEntries_l0 L.le es.length k 0 (by omega) (by omega) hk, Option.bind_some, beq_self_eq_true]
theorem lens_good {x : S40} (g : Good40 x) : Lens x.f10 x.f11 := by
  obtain ⟨_, _, _, _, _, _, _, _, _, _, g10, g11⟩ := g
  refine ⟨?_, ?_, fun y hy => ?_⟩
  · have := g10.1; simp only [reachBytes] at this; omega
  · have := g11.1; simp only [reachBytes] at this; omega
  · have := (g10.2.2 y hy).2.2.2.1; simp only [reachBytes] at this; omega
end Go.Proofs.Ytlbioffpcoikaaa.PW
