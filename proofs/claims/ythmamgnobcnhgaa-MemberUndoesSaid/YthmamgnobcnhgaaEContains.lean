import Derived.Test.YthmamgnobcnhgaaPMx0
import Derived.Test.YthmamgnobcnhgaaShelf
namespace Go.Proofs.Ythmamgnobcnhgaa.PM
open Go.RowKit Go.Proofs.YthmamgnobcnhgaaW.PrintWords Go.Proofs.YthmamgnobcnhgaaW.PrintLast Go.Proofs.YthmamgnobcnhgaaW.PrintMore
set_option linter.unusedVariables false
set_option linter.unusedSimpArgs false
/-- The cells of a row of numbers. -/
theorem ints_cell {w : World} {A : Option Addr} {l : List Int} (h : Kd.C (Kd.int .i64) w A l.length l) (hp : 0 < l.length) : ∃ ad, A = some ad ∧ ∀ j, j < l.length → w.cell? (ad.add j) = some (.int .i64 (l.getD j 0)) := by
  obtain ⟨ad, e, hc⟩ := h.2.2 hp
  refine ⟨ad, e, fun j hj => ?_⟩
  obtain ⟨cs, hcl, hK, hcc⟩ := hc j l[j] (List.getElem?_eq_getElem hj)
  have hK' : cs = [.int .i64 l[j]] := hK
  subst hK'
  have h1 := hcc 0 _ rfl
  have h3 : (Kd.int .i64).sz = 1 := rfl
  rw [h3, Nat.mul_one, Nat.add_zero] at h1
  rw [h1, List.getD_eq_getElem?_getD, List.getElem?_eq_getElem hj]
  rfl
theorem spot_none {w : World} {a : Addr} {v : Value} (h : w.cell? a = some v) : a.spot = none := by
  unfold World.cell? at h
  cases hs : a.spot with
  | none => rfl
  | some x =>
    rw [hs] at h
    split at h
    · simp at h
    · cases h
theorem ints_at {w : World} {A : Option Addr} {l : List Int} (h : Kd.C (Kd.int .i64) w A l.length l) (hp : 0 < l.length) : ∃ b off, A = some ⟨b, off, none⟩ ∧ ∀ j, j < l.length → w.cell? ⟨b, off + j, none⟩ = some (.int .i64 (l.getD j 0)) := by
  obtain ⟨ad, rfl, hc⟩ := ints_cell h hp
  have h0 := hc 0 hp
  have hs : ad.spot = none := by simpa [Addr.add] using spot_none h0
  obtain ⟨b, off, sp⟩ := ad
  cases hs
  refine ⟨b, off, rfl, fun j hj => ?_⟩
  have := hc j hj
  by_cases hz : j = 0
  · subst hz; simpa [Addr.add] using this
  · simpa [Addr.add, hz] using this
def slices_Contains_int_int.f (l0 : List Int) (a1 : Int) : Option (Bool) := some (l0.contains a1)
theorem contains_same (A0 : Option Addr) (c0 : Nat) (l0 : List Int) (a1 : Int) (w : World) (hr0 : Kd.C (Kd.int .i64) w A0 l0.length l0) :
    Calls Try.prog 53 #[.slice A0 l0.length c0, .int .i64 a1] w fun e w' => e = .returned (.bool (l0.contains a1)) ∧ w' = w := by
  by_cases h : l0.length = 0
  · have : l0 = [] := List.length_eq_zero_iff.1 h
    subst this
    exact Try.slices_Contains_int_empty A0 c0 a1 w
  · obtain ⟨b, off, rfl, hc⟩ := ints_at hr0 (by omega)
    have := Try.slices_Contains_int b off l0.length c0 l0 a1 w (Nat.le_refl _) hr0.2.1 hc
    rwa [List.take_length] at this
theorem slices_Contains_int_int.calls (A0 : Option Addr) (c0 : Nat) (l0 : List Int) (a1 : Int) (r : Bool) (w : World) (hr0 : Kd.C (Kd.int .i64) w A0 l0.length l0) (hc0 : l0.length ≤ c0) (h : slices_Contains_int_int.f l0 a1 = some r) :
    Calls Try.prog 53 #[.slice A0 l0.length c0, .int .i64 a1] w fun e w' => e = .returned (.bool r) ∧ Drawn0 w w' := by
  obtain rfl := Option.some.inj h
  refine (contains_same A0 c0 l0 a1 w hr0).mono ?_
  rintro e w' ⟨rfl, rfl⟩
  exact ⟨rfl, ⟨0, rfl⟩⟩
end Go.Proofs.Ythmamgnobcnhgaa.PM
