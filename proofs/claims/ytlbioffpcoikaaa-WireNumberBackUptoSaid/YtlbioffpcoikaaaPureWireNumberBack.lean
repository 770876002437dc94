/- A number that wire.Number puts is taken by wire.TakeNumber as it was, whatever bytes stand ahead and behind, where the arguments hold together at most 1048576 values. -/
import Derived.Test.YtlbioffpcoikaaaWireOk
import Derived.Test.YtlbioffpcoikaaaPWx10
namespace Go.Proofs.Ytlbioffpcoikaaa.Pure
open Go.RowKit Go.Proofs.Ytlbioffpcoikaaa.PW Go.Proofs.YtlbioffpcoikaaaW.PrintWords Go.Proofs.YtlbioffpcoikaaaW.PrintLast
theorem WireNumberBack_pure (n : Int) (a b : List Int) (_ : (Lit.int .i64 n).wf = true) (ga : a.length * 1 ≤ reachBytes ∧ a.length ≤ maxLen ∧ ∀ y ∈ a, (Lit.int .u8 y).wf = true) (sa : a.length ≤ 1048576 ∧ ∀ y ∈ a, True)
    (gb : b.length * 1 ≤ reachBytes ∧ b.length ≤ maxLen ∧ ∀ y ∈ b, (Lit.int .u8 y).wf = true) (sb : b.length ≤ 1048576 ∧ ∀ y ∈ b, True) : ∃ k, tollgatelaw02_WireNumberBack.f k n a b = some true := by
  refine ⟨11, ?_⟩
  obtain ⟨_, _, wa⟩ := ga
  obtain ⟨_, _, wb⟩ := gb
  obtain ⟨sa, _⟩ := sa
  obtain ⟨sb, _⟩ := sb
  unfold tollgatelaw02_WireNumberBack.f
  rw [Number_f (by omega)]
  simp only [Option.bind_some]
  by_cases h : n < 0 ∨ n > 1099511627776
  · rw [if_pos h]
    simp [tollgatelaw02_live.f]
    omega
  · rw [if_neg h]
    have hl := enc_len (n := n) (by omega) (by omega)
    have hlb : okBytes (a ++ enc n ++ b) = true := okBytes_append (okBytes_append (okBytes_wf wa) (okBytes_of (enc_bytes (by omega) (by omega)))) (okBytes_wf wb)
    have ht : wire_TakeNumber.f (a ++ enc n ++ b) a.length = some (n, (a.length : Int) + (enc n).length, 0) := by
      rw [wire_TakeNumber.f, if_pos ⟨hlb, by simp; omega⟩, takeNum_enc a b n (by omega) (by omega)]
    have hw : wrap64 ((a.length : Int) + ((enc n).length : Int)) = (a.length : Int) + (enc n).length := wrap64_in (by omega)
    simp only [List.nil_append, List.length_nil, Nat.zero_add, if_true]
    rw [if_pos (by omega), if_pos (by omega), if_pos (by simp; omega), ht]
    simp only [Option.bind_some, tollgatelaw02_live.f, if_true, hw]
    rw [decide_eq_true (by omega)]
end Go.Proofs.Ytlbioffpcoikaaa.Pure
