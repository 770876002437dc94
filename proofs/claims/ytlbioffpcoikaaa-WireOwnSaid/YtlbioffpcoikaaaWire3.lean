import Derived.Test.YtlbioffpcoikaaaWire2
import Derived.Test.YtlbioffpcoikaaaPWx14
import Derived.Test.YtlbioffpcoikaaaPWx29
import Derived.Test.YtlbioffpcoikaaaPWx17
namespace Go.Proofs.Ytlbioffpcoikaaa.PW
open Go.RowKit Go.Proofs.YtlbioffpcoikaaaW.PrintWords Go.Proofs.YtlbioffpcoikaaaW.PrintLast Go.Proofs.YtlbioffpcoikaaaW.PrintMore
set_option linter.unusedVariables false
set_option linter.unusedSimpArgs false

def entBad (k t i : Int) (d : List Int) : Prop := k < 1 ∨ 3 < k ∨ t < 1 ∨ 1099511627776 < t ∨ i < 1 ∨ 1099511627776 < i ∨ k = 1 ∧ 0 < d.length
instance (k t i : Int) (d : List Int) : Decidable (entBad k t i d) := by unfold entBad; infer_instance
def entErr (k t i : Int) (d : List Int) : Int := if entBad k t i d then 2 else if 2048 < d.length then 6 else 0
def entBytes (k t i : Int) (d : List Int) : List Int := k :: (enc t ++ enc i ++ enc d.length ++ d)
theorem in_f (a b c : Int) : wire_in.f a b c = some (decide (b ≤ a ∧ a ≤ c)) := by
  unfold wire_in.f
  by_cases h : b ≤ a
  · rw [if_pos h]; simp [h]
  · rw [if_neg (by omega)]; simp [h]
theorem entry_f (k t i : Int) (d : List Int) : wire_entry.f k t i d = some (decide (entBad k t i d), decide (2048 < d.length)) := by
  unfold wire_entry.f
  have e1 : decide ((d.length : Int) > 2048) = decide (2048 < d.length) := by rw [decide_eq_decide]; omega
  have e2 : (!((d.length : Int) == 0)) = decide (0 < d.length) := by
    rcases Nat.eq_zero_or_pos d.length with h | h
    · simp [h]
    · have h1 : ((d.length : Int) == 0) = false := beq_eq_false_iff_ne.mpr (by omega)
      rw [h1, decide_eq_true h]; rfl
  simp only [in_f, Option.bind_some, e1, e2, decide_eq_true_eq, Bool.not_true, Bool.not_false]
  split
  · split
    · split
      · split
        · exact congrArg (fun b => some (b, _)) (decide_eq_decide.2 (by unfold entBad; omega))
        · exact congrArg (fun b => some (b, _)) (decide_eq_false (by unfold entBad; omega)).symm
      · exact congrArg (fun b => some (b, _)) (decide_eq_true (by unfold entBad; omega)).symm
    · exact congrArg (fun b => some (b, _)) (decide_eq_true (by unfold entBad; omega)).symm
  · exact congrArg (fun b => some (b, _)) (decide_eq_true (by unfold entBad; omega)).symm
theorem encd {d : List Int} {kk : Nat} {b : List Int} (hk : 9 < kk) (hd : d.length ≤ 140737488355328) (hb : b.length + 9 < 140737488355328) : wire_number.f kk b d.length = some (b ++ enc d.length) := number_f (by omega) (by omega) hk hb
theorem lay_f {kk : Nat} {b : List Int} {k t i : Int} {d : List Int} (hk : 9 < kk) (hb : b.length ≤ 1000000) (h : ¬ entBad k t i d) (hd : d.length ≤ 2048) : wire_lay.f kk b k t i d = some (b ++ entBytes k t i d) := by
  unfold entBad at h
  have ht := enc_len (n := t) (by omega) (by omega)
  have hi := enc_len (n := i) (by omega) (by omega)
  have hl := enc_len (n := (d.length : Int)) (by omega) (by omega)
  unfold wire_lay.f
  rw [if_pos (by omega), show k % 256 = k by omega, number_f (by omega) (by omega) hk (by simp; omega)]
  simp only [Option.bind_some]
  rw [number_f (by omega) (by omega) hk (by simp; omega)]
  simp only [Option.bind_some]
  rw [encd hk (by omega) (by simp; omega)]
  simp only [Option.bind_some]
  rw [if_pos (by simp; omega)]
  simp [entBytes]
theorem PutEntry_f {kk : Nat} (hk : 9 < kk) (k t i : Int) (d : List Int) : wire_PutEntry.f kk k t i d = some (if entErr k t i d = 0 then (entBytes k t i d, 0) else ([], entErr k t i d)) := by
  unfold wire_PutEntry.f entErr
  rw [entry_f]
  simp only [Option.bind_some, decide_eq_true_eq]
  by_cases h : entBad k t i d
  · simp [h]
  · by_cases h2 : 2048 < d.length
    · simp [h, h2]
    · rw [lay_f hk (by simp) h (by omega)]
      simp [h, h2]
theorem add_f {kk : Nat} (hk : 10 < kk) {b : List Int} {n : Int} (h0 : 0 ≤ n) (h1 : n ≤ 1099511627776) (hb : b.length ≤ 1000000) : tollgateref02_add.f kk b n = some (b ++ enc n) := by
  have := enc_len h0 h1
  unfold tollgateref02_add.f
  rw [refNumber_f hk, if_neg (by omega)]
  simp only [Option.bind_some]
  rw [if_pos (by omega)]
theorem RightEntry_f {kk : Nat} (hk : 0 < kk) (k t i : Int) (d : List Int) : tollgateref02_RightEntry.f kk k t i d = some (entErr k t i d) := by
  obtain ⟨kk, rfl⟩ : ∃ j, kk = j + 1 := ⟨kk - 1, by omega⟩
  unfold tollgateref02_RightEntry.f entErr
  simp only [tollgateref02_RightEntry.j0, if_true]
  have bad : (k < 1 ∨ 3 < k ∨ t < 1 ∨ 1099511627776 < t ∨ i < 1 ∨ 1099511627776 < i ∨ k = 1 ∧ 0 < d.length) → (some (if entBad k t i d then (2 : Int) else if 2048 < d.length then 6 else 0) = some 2) := fun h => by rw [if_pos (show entBad k t i d from h)]
  by_cases h1 : k < 1
  · rw [if_pos h1, bad (by omega)]
  · rw [if_neg h1]
    by_cases h2 : k > 3
    · rw [if_pos h2, bad (by omega)]
    · rw [if_neg h2]
      by_cases h3 : t < 1
      · rw [if_pos h3, bad (by omega)]
      · rw [if_neg h3]
        by_cases h4 : t > 1099511627776
        · rw [if_pos h4, bad (by omega)]
        · rw [if_neg h4]
          by_cases h5 : i < 1
          · rw [if_pos h5, bad (by omega)]
          · rw [if_neg h5]
            by_cases h6 : i > 1099511627776
            · rw [if_pos h6, bad (by omega)]
            · rw [if_neg h6]
              have hl : ∀ x : Bool, x = decide (k = 1 ∧ 0 < d.length) → (if x = true then some (2 : Int) else if (d.length : Int) > 2048 then some 6 else some 0) = some (if entBad k t i d then (2 : Int) else if 2048 < d.length then 6 else 0) := by
                intro x hx
                subst hx
                by_cases h7 : k = 1 ∧ 0 < d.length
                · rw [if_pos (decide_eq_true h7), bad (by omega)]
                · rw [if_neg (by rw [decide_eq_true_eq]; exact h7), if_neg (show ¬ entBad k t i d by unfold entBad; omega)]
                  by_cases h8 : 2048 < d.length
                  · rw [if_pos (by omega), if_pos h8]
                  · rw [if_neg (by omega), if_neg h8]
              by_cases h7 : k = 1
              · rw [if_pos h7]
                exact hl _ (decide_eq_decide.2 (by omega))
              · rw [if_neg h7]
                exact hl _ (decide_eq_false (by omega)).symm
theorem refPutEntry_f {kk : Nat} (hk : 10 < kk) (k t i : Int) (d : List Int) : tollgateref02_PutEntry.f kk k t i d = some (if entErr k t i d = 0 then (entBytes k t i d, 0) else ([], entErr k t i d)) := by
  unfold tollgateref02_PutEntry.f
  rw [RightEntry_f (by omega)]
  simp only [Option.bind_some]
  by_cases he : entErr k t i d = 0
  · rw [if_pos he, if_pos he]
    have hb : ¬ entBad k t i d := by intro h; simp [entErr, h] at he
    have hd : d.length ≤ 2048 := by
      unfold entErr at he
      rw [if_neg hb] at he
      rcases Nat.lt_or_ge 2048 d.length with h | h
      · rw [if_pos h] at he; omega
      · exact h
    unfold entBad at hb
    have ht := enc_len (n := t) (by omega) (by omega)
    have hi := enc_len (n := i) (by omega) (by omega)
    have hl := enc_len (n := (d.length : Int)) (by omega) (by omega)
    rw [show k % 256 = k by omega, add_f hk (by omega) (by omega) (by simp)]
    simp only [Option.bind_some]
    rw [add_f hk (by omega) (by omega) (by simp; omega)]
    simp only [Option.bind_some]
    rw [add_f hk (by omega) (by omega) (by simp; omega)]
    simp only [Option.bind_some]
    rw [if_pos (by simp; omega)]
    simp [entBytes]
  · rw [if_neg he, if_neg he]
def hardErr (t v : Int) : Int := if t < 0 ∨ 1099511627776 < t ∨ v < 0 ∨ 9 < v then 2 else 0
theorem PutHard_f {kk : Nat} (hk : 10 < kk) (t v : Int) : wire_PutHard.f kk t v = some (if hardErr t v = 0 then (enc t ++ enc v, 0) else ([], 2)) := by
  obtain ⟨kk, rfl⟩ : ∃ j, kk = j + 1 := ⟨kk - 1, by omega⟩
  unfold wire_PutHard.f
  simp only [in_f, Option.bind_some, decide_eq_true_eq, wire_PutHard.j0, if_true]
  by_cases h1 : 0 ≤ t ∧ t ≤ 1099511627776
  · rw [if_pos h1]
    by_cases h2 : 0 ≤ v ∧ v ≤ 9
    · have ht := enc_len (n := t) (by omega) (by omega)
      have he : hardErr t v = 0 := if_neg (by omega)
      rw [if_neg (by simp [h2]), he, number_f (by omega) (by omega) (by omega) (by simp)]
      simp only [Option.bind_some, List.nil_append]
      rw [number_f (by omega) (by omega) (by omega) (by omega)]
      simp
    · have he : hardErr t v = 2 := if_pos (by omega)
      rw [if_pos (by simp; omega), he]; simp
  · have he : hardErr t v = 2 := if_pos (by omega)
    rw [if_neg h1, he]; simp
end Go.Proofs.Ytlbioffpcoikaaa.PW
