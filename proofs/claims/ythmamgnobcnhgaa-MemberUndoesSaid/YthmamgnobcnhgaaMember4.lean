import Derived.Test.YthmamgnobcnhgaaMember3
import Derived.Test.YthmamgnobcnhgaaPMx8
import Derived.Test.YthmamgnobcnhgaaPMx24
import Derived.Test.YthmamgnobcnhgaaPMx48
import Derived.Test.YthmamgnobcnhgaaERight
namespace Go.Proofs.Ythmamgnobcnhgaa.PM
open Go.RowKit Go.Proofs.YthmamgnobcnhgaaW.PrintWords Go.Proofs.YthmamgnobcnhgaaW.PrintLast Go.Proofs.YthmamgnobcnhgaaW.PrintMore
set_option linter.unusedVariables false
set_option linter.unusedSimpArgs false

theorem number_l0 : ∀ (m k : Nat) (b : List Int) (n : Int), 0 ≤ n → n < 128 ^ (m + 1) → n ≤ 9223372036854775807 → m < k → b.length + m < 140737488355328 → wire_number.l0 k b n = some (b ++ encN m n) := by
  intro m
  induction m with
  | zero =>
    intro k b n h0 h1 h2 hk hb
    obtain ⟨k, rfl⟩ : ∃ j, k = j + 1 := ⟨k - 1, by omega⟩
    simp only [wire_number.l0, encN]
    rw [if_neg (by omega), if_pos (by omega), show n % 256 = n by omega]
  | succ m ih =>
    intro k b n h0 h1 h2 hk hb
    obtain ⟨k, rfl⟩ : ∃ j, k = j + 1 := ⟨k - 1, by omega⟩
    simp only [wire_number.l0, encN]
    by_cases h : n < 128
    · rw [if_neg (by omega), if_pos (by omega), if_pos h, show n % 256 = n by omega]
    · rw [if_pos (by omega), if_pos (by omega), if_neg h, or128 n h0 h2, ih k _ (n / 128) (by omega) (by rw [Int.pow_succ] at h1; omega) (by omega) (by omega) (by simp; omega)]
      simp
theorem number_f {k : Nat} {b : List Int} {n : Int} (h0 : 0 ≤ n) (h1 : n ≤ 9223372036854775807) (hk : 9 < k) (hb : b.length + 9 < 140737488355328) : wire_number.f k b n = some (b ++ enc n) :=
  number_l0 9 k b n h0 (by omega) h1 hk hb
theorem Number_f {k : Nat} {n : Int} (hk : 9 < k) : wire_Number.f k n = some (if n < 0 ∨ n > 1099511627776 then ([], 2) else (enc n, 0)) := by
  unfold wire_Number.f
  by_cases h0 : n < 0
  · rw [if_pos h0, if_pos (.inl h0)]
  · rw [if_neg h0]
    by_cases h1 : n > 1099511627776
    · rw [if_pos h1, if_pos (.inr h1)]
    · rw [if_neg h1, if_neg (by omega), number_f (by omega) (by omega) hk (by simp)]
      simp
theorem refNumber_l0 : ∀ (m k : Nat) (b : List Int) (n : Int), 0 ≤ n → n < 128 ^ (m + 1) → n ≤ 9223372036854775807 → m < k → b.length + m < 140737488355328 → tollgateref02_Number.l0 k n b = some (b ++ encN m n, 0) := by
  intro m
  induction m with
  | zero =>
    intro k b n h0 h1 h2 hk hb
    obtain ⟨k, rfl⟩ : ∃ j, k = j + 1 := ⟨k - 1, by omega⟩
    simp only [tollgateref02_Number.l0, encN]
    rw [Int.tdiv_eq_ediv_of_nonneg h0, Int.tmod_eq_emod_of_nonneg h0, wrap64_in (by omega), if_pos (by omega), if_pos (by omega), show n % 128 % 256 = n by omega]
  | succ m ih =>
    intro k b n h0 h1 h2 hk hb
    obtain ⟨k, rfl⟩ : ∃ j, k = j + 1 := ⟨k - 1, by omega⟩
    simp only [tollgateref02_Number.l0, encN]
    rw [Int.tdiv_eq_ediv_of_nonneg h0, Int.tmod_eq_emod_of_nonneg h0, wrap64_in (n := n / 128) (by omega), wrap64_in (n := n % 128 + 128) (by omega)]
    by_cases h : n < 128
    · rw [if_pos (by omega), if_pos (by omega), if_pos h, show n % 128 % 256 = n by omega]
    · rw [if_neg (by omega), if_pos (by omega), if_neg h, ih k _ (n / 128) (by omega) (by rw [Int.pow_succ] at h1; omega) (by omega) (by omega) (by simp; omega)]
      simp; omega
theorem refNumber_f {k : Nat} {n : Int} (hk : 10 < k) : tollgateref02_Number.f k n = some (if n < 0 ∨ n > 1099511627776 then ([], 2) else (enc n, 0)) := by
  obtain ⟨k, rfl⟩ : ∃ j, k = j + 1 := ⟨k - 1, by omega⟩
  unfold tollgateref02_Number.f
  by_cases h0 : n < 0
  · rw [if_pos h0, if_pos (.inl h0)]; simp [tollgateref02_Number.j0]
  · rw [if_neg h0]
    by_cases h1 : n > 1099511627776
    · rw [if_pos (.inr h1)]; simp [tollgateref02_Number.j0, h1]
    · rw [if_neg (by omega)]
      simp only [tollgateref02_Number.j0, decide_eq_true_eq]
      rw [if_neg h1, refNumber_l0 9 k [] n (by omega) (by omega) (by omega) (by omega) (by simp)]
      simp [enc]

theorem p128 {j : Nat} (h : j ≤ 5) : 0 < (128 : Int) ^ j ∧ (128 : Int) ^ j ≤ 34359738368 := by
  have : j = 0 ∨ j = 1 ∨ j = 2 ∨ j = 3 ∨ j = 4 ∨ j = 5 := by omega
  rcases this with rfl | rfl | rfl | rfl | rfl | rfl <;> decide
theorem refTake_l0 (l : List Int) (at_ : Int) (hb : ∀ i, 0 ≤ rd l i ∧ rd l i ≤ 255) (h0 : 0 ≤ at_) (hl : l.length ≤ 200000000000000) : ∀ (m k j : Nat) (n : Int), j + m = 6 → 2 * m + 2 < k → at_ + j ≤ l.length → 0 ≤ n → n < 128 ^ j →
    tollgateref02_TakeNumber.l0 k l at_ n (128 ^ j) j = some (takeGo l at_ m j n) := by
  intro m
  induction m with
  | zero =>
    intro k j n hj hk ha hn0 hn1
    obtain ⟨k, rfl⟩ : ∃ i, k = i + 1 := ⟨k - 1, by omega⟩
    simp only [tollgateref02_TakeNumber.l0, takeGo]
    rw [if_neg (by omega)]
  | succ m ih =>
    intro k j n hj hk ha hn0 hn1
    obtain ⟨k, rfl⟩ : ∃ i, k = i + 1 := ⟨k - 1, by omega⟩
    obtain ⟨k, rfl⟩ : ∃ i, k = i + 1 := ⟨k - 1, by omega⟩
    obtain ⟨c, hcc⟩ : ∃ c, rd l (at_ + j) = c := ⟨_, rfl⟩
    have hc := hb (at_ + j)
    rw [hcc] at hc
    have hpp := p128 (j := j) (by omega)
    have hih : ∀ n', 0 ≤ n' → n' < 128 ^ j * 128 → at_ + (j : Int) + 1 ≤ l.length → tollgateref02_TakeNumber.l0 (k + 1) l at_ n' (128 ^ j * 128) ((j : Int) + 1) = some (takeGo l at_ m ((j : Int) + 1) n') := by
      intro n' h1 h2 h3
      have := ih (k + 1) (j + 1) n' (by omega) (by omega) (by omega) h1 (by rw [Int.pow_succ]; exact h2)
      rw [Int.pow_succ] at this
      exact this
    clear ih
    have ec : ((j : Int)).toNat = j := by omega
    have hshort := Aside0.mk (tg_short (l := l) (at_ := at_) (k := j) (m := m) (n := n))
    have hmore := Aside0.mk (tg_more (l := l) (at_ := at_) (k := j) (m := m) (n := n) (c := c))
    have hfull := Aside0.mk (tg_full (l := l) (at_ := at_) (k := j) (m := m) (n := n) (c := c))
    have hform := Aside0.mk (tg_form (l := l) (at_ := at_) (k := j) (m := m) (n := n) (c := c))
    have hlimit := Aside0.mk (tg_limit (l := l) (at_ := at_) (k := j) (m := m) (n := n) (c := c))
    have hok := Aside0.mk (tg_ok (l := l) (at_ := at_) (k := j) (m := m) (n := n) (c := c))
    rw [ec] at hmore hlimit hok
    generalize (128 : Int) ^ j = p at *
    have hp2 : (0 : Int) ≤ c % 128 * p := Int.mul_nonneg (by omega) (by omega)
    have hp3 : c % 128 * p ≤ 127 * p := Int.mul_le_mul_of_nonneg_right (by omega) (by omega)
    have ew : wrap64 (at_ + j) = at_ + j := wrap64_in (by omega)
    have er : wrap64 c = c := wrap64_in (by omega)
    have et : Int.tmod c 128 = c % 128 := Int.tmod_eq_emod_of_nonneg hc.1
    have e1 : wrap64 (at_ + j + 1) = at_ + j + 1 := wrap64_in (by omega)
    have eu : wrap64 (p * 128) = p * 128 := wrap64_in (by omega)
    have ej : wrap64 ((j : Int) + 1) = (j : Int) + 1 := wrap64_in (by omega)
    rw [tollgateref02_TakeNumber.l0]
    simp only [ew, hcc, er, et]
    generalize c % 128 * p = q at *
    have em : wrap64 q = q := wrap64_in (by omega)
    have ea : wrap64 (n + q) = n + q := wrap64_in (by omega)
    simp only [em, ea, eu, ej]
    have j2f : ∀ b, tollgateref02_TakeNumber.j2 (k + 1) at_ (n + q) j b = if b = true then some (0, 0, 4) else if n + q > 1099511627776 then some (0, 0, 6) else some (n + q, at_ + j + 1, 0) := by
      intro b; rw [tollgateref02_TakeNumber.j2, ew, e1]
    clear ew er et e1 eu ej em ea
    rw [if_pos (by omega)]
    rcases (show at_ + (j : Int) = l.length ∨ at_ + (j : Int) < l.length by omega) with hlen | hlt
    · rw [if_pos (by omega), hshort.out hlen]
    · have hlen : ¬ at_ + (j : Int) = l.length := by omega
      rw [if_neg (by omega), if_pos (by omega), if_pos (by omega)]
      rcases (show c < 128 ∨ 128 ≤ c by omega) with h128 | h128
      · rw [if_pos h128]
        rcases (show c = 0 ∧ (0 : Int) < j ∨ c = 0 ∧ (j : Int) = 0 ∨ 0 < c by omega) with hz | hz | hz
        · rw [if_pos hz.1, j2f, if_pos (by simpa using hz.2), hform.out hlen hcc hz.1 hz.2]
        · rw [if_pos hz.1, j2f, if_neg (by simp [hz.2])]
          rcases (show n + q > 1099511627776 ∨ n + q ≤ 1099511627776 by omega) with hm | hm
          · rw [if_pos hm, hlimit.out hlen hcc h128 (by omega) hm]
          · rw [if_neg (by omega), hok.out hlen hcc h128 (by omega) hm]
        · rw [if_neg (by omega), j2f, if_neg (by simp)]
          rcases (show n + q > 1099511627776 ∨ n + q ≤ 1099511627776 by omega) with hm | hm
          · rw [if_pos hm, hlimit.out hlen hcc h128 (by omega) hm]
          · rw [if_neg (by omega), hok.out hlen hcc h128 (by omega) hm]
      · rw [if_neg (by omega), hih (n + q) (by omega) (by omega) (by omega)]
        rcases (show j = 5 ∨ j < 5 by omega) with h6 | h6
        · obtain rfl : m = 0 := by omega
          rw [hfull.out hlen hcc h128 (by omega), takeGo]
        · rw [hmore.out hlen hcc h128 (by omega)]
theorem refTake_f {k : Nat} {l : List Int} {at_ : Int} (hok : okBytes l = true) (hl : l.length ≤ 200000000000000) (hk : 20 < k) : tollgateref02_TakeNumber.f k l at_ = some (takeNum l at_) := by
  obtain ⟨k, rfl⟩ : ∃ j, k = j + 1 := ⟨k - 1, by omega⟩
  unfold tollgateref02_TakeNumber.f takeNum
  by_cases h0 : at_ < 0
  · rw [if_pos h0, if_pos h0]; simp [tollgateref02_TakeNumber.j0]
  · rw [if_neg h0, if_neg h0]
    by_cases h1 : at_ > l.length
    · rw [if_pos h1]; simp [tollgateref02_TakeNumber.j0, h1]
    · rw [if_neg h1]
      simp only [tollgateref02_TakeNumber.j0, decide_eq_true_eq]
      rw [if_neg h1]
      have := refTake_l0 l at_ (okBytes_rd hok) (by omega) hl 6 k 0 0 (by omega) (by omega) (by omega) (by omega) (by omega)
      simpa using this
end Go.Proofs.Ythmamgnobcnhgaa.PM
