import Derived.Test.YtlbioffpcoikaaaEScan4
namespace Go.Proofs.Ytlbioffpcoikaaa.PW
open Go.RowKit Go.Proofs.YtlbioffpcoikaaaW.PrintWords Go.Proofs.YtlbioffpcoikaaaW.PrintLast Go.Proofs.YtlbioffpcoikaaaW.PrintMore
set_option linter.unusedVariables false
set_option linter.unusedSimpArgs false
def tollgateref02_GetMsg.f (l0 : List Int) : Option (Int × Int × Int × Int × Int × Int × Int × Int × Int × Bool × (List (S34)) × List Int × Int) := if okBytes l0 = true ∧ l0.length ≤ 200000000000000 then some (refMsg l0) else none
theorem tollgateref02_GetMsg.calls (A0 : Option Addr) (c0 : Nat) (l0 : List Int) (r1 : Int) (r2 : Int) (r3 : Int) (r4 : Int) (r5 : Int) (r6 : Int) (r7 : Int) (r8 : Int) (r9 : Int) (r10 : Bool) (r11 : List (S34)) (r12 : List Int) (r13 : Int) (w : World) (hr0 : Kd.C (Kd.int .u8) w A0 l0.length l0) (hc0 : l0.length ≤ c0) (h : tollgateref02_GetMsg.f l0 = some (r1, r2, r3, r4, r5, r6, r7, r8, r9, r10, r11, r12, r13)) :
    Calls Try.prog 30 #[.slice A0 l0.length c0] w fun e w' => ∃ v10_ v11_ : Value, e = .returned (.tuple #[.agg #[.int .i64 r1, .int .i64 r2, .int .i64 r3, .int .i64 r4, .int .i64 r5, .int .i64 r6, .int .i64 r7, .int .i64 r8, .int .i64 r9, .bool r10, v10_, v11_], .int .i64 r13]) ∧ Kd.S k34 34 w' w.heap.size (fun k_ => some k_ ≠ (v11_ : Value).ownBlock) v10_ r11 ∧ Kd.R (Kd.int .u8) 5 w' w.heap.size (fun _ => True) v11_ r12 ∧ Below w.heap.size w w' := by
  unfold tollgateref02_GetMsg.f at h
  by_cases hc : okBytes l0 = true ∧ l0.length ≤ 200000000000000
  · rw [if_pos hc] at h
    exact (refGet_core A0 c0 l0 w hr0 hc0 hc _ (Option.some.inj h)).mono fun _ _ h => h
  · rw [if_neg hc] at h
    cases h
end Go.Proofs.Ytlbioffpcoikaaa.PW
