import Derived.Test.YtlbioffpcoikaaaWire7
import Derived.Test.YtlbioffpcoikaaaEGetMsg
import Derived.Test.YtlbioffpcoikaaaERefGetMsg
namespace Go.Proofs.Ytlbioffpcoikaaa.PW
open Go.RowKit Go.Proofs.YtlbioffpcoikaaaW.PrintWords Go.Proofs.YtlbioffpcoikaaaW.PrintLast Go.Proofs.YtlbioffpcoikaaaW.PrintMore
set_option linter.unusedVariables false
set_option linter.unusedSimpArgs false
theorem lens_nil : Lens [] [] := ⟨by decide, by decide, by simp⟩
theorem lens_lim {es : List S34} {d : List Int} (h : ¬ msgLim es d = true) : Lens es d ∧ es.length ≤ 8 := by
  obtain ⟨h1, h2, h3⟩ := msgLim_ok h
  exact ⟨⟨by omega, by omega, fun x hx => by have := h3 x hx; omega⟩, h1⟩
theorem msgErr_zero {a0 a1 a2 a3 a4 a5 a6 a7 a8 : Int} {es : List S34} {d : List Int} : msgErr a0 a1 a2 a3 a4 a5 a6 a7 a8 es d = 0 ↔ (¬ msgArg a0 a1 a2 a3 a4 a5 a6 a7 a8 es = true ∧ ¬ msgLim es d = true) := by
  unfold msgErr
  constructor
  · intro h
    by_cases h1 : msgArg a0 a1 a2 a3 a4 a5 a6 a7 a8 es = true
    · rw [if_pos h1] at h; cases h
    · rw [if_neg h1] at h
      by_cases h2 : msgLim es d = true
      · rw [if_pos h2] at h; cases h
      · exact ⟨h1, h2⟩
  · rintro ⟨h1, h2⟩
    rw [if_neg h1, if_neg h2]
theorem msgBytes_len {a0 a1 a2 a3 a4 a5 a6 a7 a8 : Int} {a9 : Bool} {es : List S34} {d : List Int} (hA : ¬ msgArg a0 a1 a2 a3 a4 a5 a6 a7 a8 es = true) (hL : ¬ msgLim es d = true) : 4 ≤ (msgBytes a0 a1 a2 a3 a4 a5 a6 a7 a8 a9 es d).length ∧ (msgBytes a0 a1 a2 a3 a4 a5 a6 a7 a8 a9 es d).length ≤ 100000 := by
  obtain ⟨k0, k1, k2, k3, k4, k5, k6, k7, k8, k9⟩ := msgArg_ok hA
  obtain ⟨l1, l2, l3⟩ := msgLim_ok hL
  have e3 := enc_len (n := a3) (by omega) (by omega)
  have e4 := enc_len (n := a4) (by omega) (by omega)
  have e5 := enc_len (n := a5) (by omega) (by omega)
  have e6 := enc_len (n := a6) (by omega) (by omega)
  have e7 := enc_len (n := a7) (by omega) (by omega)
  have e8 := enc_len (n := a8) (by omega) (by omega)
  have e9 := enc_len (n := (es.length : Int)) (by omega) (by omega)
  have e10 := enc_len (n := (d.length : Int)) (by omega) (by omega)
  have e11 := entsUpto_len k9 l3 l1 es.length
  rw [entsUpto_all] at e11
  simp only [msgBytes, msgHead, List.length_append, List.flatMap_cons, List.flatMap_nil, List.length_cons, List.length_nil]
  omega
theorem msgBytes_ok {a0 a1 a2 a3 a4 a5 a6 a7 a8 : Int} {a9 : Bool} {es : List S34} {d : List Int} (hA : ¬ msgArg a0 a1 a2 a3 a4 a5 a6 a7 a8 es = true) (hL : ¬ msgLim es d = true) (hd : ∀ x ∈ d, 0 ≤ x ∧ x < 256) (he : ∀ e ∈ es, ∀ x ∈ e.f3, 0 ≤ x ∧ x < 256) : okBytes (msgBytes a0 a1 a2 a3 a4 a5 a6 a7 a8 a9 es d) = true := by
  obtain ⟨k0, k1, k2, k3, k4, k5, k6, k7, k8, k9⟩ := msgArg_ok hA
  obtain ⟨l1, l2, l3⟩ := msgLim_ok hL
  refine okBytes_of ?_
  intro x hx
  simp only [msgBytes, msgHead, List.mem_append, List.mem_flatMap, List.mem_cons, List.not_mem_nil, or_false] at hx
  rcases hx with ((((hx | ⟨n, hn, hx⟩) | hx) | ⟨e, hm, hx⟩) | hx) | hx
  · rcases hx with rfl | rfl | rfl | rfl
    · omega
    · omega
    · omega
    · split <;> omega
  · rcases hn with rfl | rfl | rfl | rfl | rfl | rfl
    · exact enc_bytes (by omega) (by omega) x hx
    · exact enc_bytes (by omega) (by omega) x hx
    · exact enc_bytes (by omega) (by omega) x hx
    · exact enc_bytes (by omega) (by omega) x hx
    · exact enc_bytes (by omega) (by omega) x hx
    · exact enc_bytes (by omega) (by omega) x hx
  · exact enc_bytes (by omega) (by omega) x hx
  · exact entBytes_bytes (k9 e hm) (l3 e hm) (he e hm) x hx
  · exact enc_bytes (by omega) (by omega) x hx
  · exact hd x hx
end Go.Proofs.Ytlbioffpcoikaaa.PW
