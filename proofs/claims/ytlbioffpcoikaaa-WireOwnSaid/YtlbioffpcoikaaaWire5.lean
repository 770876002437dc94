import Derived.Test.YtlbioffpcoikaaaWire4
namespace Go.Proofs.Ytlbioffpcoikaaa.PW
open Go.RowKit Go.Proofs.YtlbioffpcoikaaaW.PrintWords Go.Proofs.YtlbioffpcoikaaaW.PrintLast Go.Proofs.YtlbioffpcoikaaaW.PrintMore
set_option linter.unusedVariables false
set_option linter.unusedSimpArgs false

theorem entBytes_bytes {k t i : Int} {d : List Int} (h : ¬ entBad k t i d) (hd : d.length ≤ 2048) (hb : ∀ x ∈ d, 0 ≤ x ∧ x < 256) : ∀ x ∈ entBytes k t i d, 0 ≤ x ∧ x < 256 := by
  unfold entBad at h
  intro x hx
  simp only [entBytes, List.mem_cons, List.mem_append] at hx
  rcases hx with rfl | ((hx | hx) | hx) | hx
  · omega
  · exact enc_bytes (by omega) (by omega) x hx
  · exact enc_bytes (by omega) (by omega) x hx
  · exact enc_bytes (by omega) (by omega) x hx
  · exact hb x hx
theorem entBytes_len {k t i : Int} {d : List Int} (h : ¬ entBad k t i d) (hd : d.length ≤ 2048) : 4 ≤ (entBytes k t i d).length ∧ (entBytes k t i d).length ≤ 2067 := by
  unfold entBad at h
  have ht := enc_len (n := t) (by omega) (by omega)
  have hi := enc_len (n := i) (by omega) (by omega)
  have hl := enc_len (n := (d.length : Int)) (by omega) (by omega)
  simp only [entBytes, List.length_cons, List.length_append]
  omega
theorem rdEntry_from {l c d : List Int} {at_ k t i : Int} (h0 : 0 ≤ at_) (h1 : at_ ≤ l.length) (h : from_ l at_ = entBytes k t i d ++ c) (hb : ¬ entBad k t i d) (hd : d.length ≤ 2048) :
    rdEntry l at_ = .ok ((k, t, i, d), at_ + (entBytes k t i d).length) := by
  have hbb := hb
  unfold entBad at hbb
  have e0 : from_ l at_ = k :: (enc t ++ (enc i ++ (enc d.length ++ (d ++ c)))) := by rw [h]; simp [entBytes]
  have hlt := from_lt h0 e0
  have e1 : from_ l (at_ + 1) = enc t ++ (enc i ++ (enc d.length ++ (d ++ c))) := from_app (a := [k]) h0 e0
  have len1 := from_len (l := l) (at_ := at_ + 1) (by omega) (by omega)
  rw [e1] at len1
  simp only [List.length_append] at len1
  have e2 := from_app (by omega) e1
  have e3 := from_app (by omega) e2
  unfold rdEntry
  rw [rdByte_from h0 e0 (by omega) (by omega)]
  simp only
  rw [rdNum_from (by omega) (by omega) e1 (by omega) (by omega) (by omega)]
  simp only
  rw [rdNum_from (by omega) (by omega) e2 (by omega) (by omega) (by omega)]
  simp only
  have hlen : (at_ + ((entBytes k t i d).length : Int)) = at_ + 1 + (enc t).length + (enc i).length + (enc d.length).length + d.length := by
    simp only [entBytes, List.length_cons, List.length_append]; omega
  rw [hlen]
  by_cases hk : k = 1
  · have hd0 : d = [] := List.length_eq_zero_iff.1 (by omega)
    subst hd0
    rw [if_pos hk, rdNum_from (n := 0) (by omega) (by omega) e3 (by omega) (by omega) (by omega)]
    simp only
    rw [if_neg (by omega)]
    simp
  · rw [if_neg hk, rdData_from (by omega) (by omega) e3 (by omega) (by omega)]
theorem rdEntry_back {l d : List Int} {at_ k t i at' : Int} (hok : okBytes l = true) (h0 : 0 ≤ at_) (h1 : at_ ≤ l.length) (h : rdEntry l at_ = .ok ((k, t, i, d), at')) :
    ¬ entBad k t i d ∧ d.length ≤ 2048 ∧ from_ l at_ = entBytes k t i d ++ from_ l at' ∧ at' = at_ + (entBytes k t i d).length ∧ at' ≤ l.length := by
  unfold rdEntry at h
  cases hk : rdByte l at_ 1 3 with
  | error x => rw [hk] at h; cases h
  | ok p =>
  obtain ⟨k', a1⟩ := p
  rw [hk] at h
  obtain ⟨k0, k1, fk, ak, lk⟩ := rdByte_back h0 h1 hk
  simp only at h
  cases ht : rdNum l a1 1 with
  | error x => rw [ht] at h; cases h
  | ok p =>
  obtain ⟨t', a2⟩ := p
  rw [ht] at h
  obtain ⟨_, _, t0, _, t1, ft, at2, lt⟩ := rdNum_back hok ht
  simp only at h
  cases hi : rdNum l a2 1 with
  | error x => rw [hi] at h; cases h
  | ok p =>
  obtain ⟨i', a3⟩ := p
  rw [hi] at h
  obtain ⟨_, _, i0, _, i1, fi, at3, li⟩ := rdNum_back hok hi
  simp only at h
  by_cases hk1 : k' = 1
  · rw [if_pos hk1] at h
    cases hn : rdNum l a3 0 with
    | error x => rw [hn] at h; cases h
    | ok p =>
    obtain ⟨n, a4⟩ := p
    rw [hn] at h
    obtain ⟨_, _, n0, _, n1, fn, at4, ln⟩ := rdNum_back hok hn
    simp only at h
    by_cases hn0 : 0 < n
    · rw [if_pos hn0] at h; cases h
    · rw [if_neg hn0] at h
      simp only [Except.ok.injEq, Prod.mk.injEq] at h
      obtain ⟨⟨rfl, rfl, rfl, rfl⟩, rfl⟩ := h
      have hz : n = 0 := by omega
      subst hz
      refine ⟨by unfold entBad; simp only [List.length_nil]; omega, by simp, ?_, ?_, ln⟩
      · rw [fk, ft, fi, fn]; simp [entBytes]
      · simp only [entBytes, List.length_cons, List.length_append, List.length_nil]
        have : ((0 : Nat) : Int) = 0 := rfl
        rw [this]
        omega
  · rw [if_neg hk1] at h
    cases hd : rdData l a3 2048 with
    | error x => rw [hd] at h; cases h
    | ok p =>
    obtain ⟨d', a4⟩ := p
    rw [hd] at h
    obtain ⟨_, _, dl, fd, at4, ld⟩ := rdData_back hok hd
    simp only at h
    simp only [Except.ok.injEq, Prod.mk.injEq] at h
    obtain ⟨⟨rfl, rfl, rfl, rfl⟩, rfl⟩ := h
    refine ⟨by unfold entBad; omega, by omega, ?_, ?_, ld⟩
    · rw [fk, ft, fi, fd]; simp [entBytes]
    · simp only [entBytes, List.length_cons, List.length_append]
      omega
theorem rdNum_ne0 {l : List Int} {a b x : Int} (h : rdNum l a b = .error x) : x ≠ 0 := by
  unfold rdNum at h
  split at h
  · rename_i h1; simp only [Except.error.injEq] at h; omega
  · split at h
    · simp only [Except.error.injEq] at h; omega
    · cases h
theorem rdByte_ne0 {l : List Int} {a b c x : Int} (h : rdByte l a b c = .error x) : x ≠ 0 := by
  unfold rdByte at h
  split at h
  · simp only [Except.error.injEq] at h; omega
  · split at h
    · simp only [Except.error.injEq] at h; omega
    · split at h
      · simp only [Except.error.injEq] at h; omega
      · cases h
theorem rdData_ne0 {l : List Int} {a b x : Int} (h : rdData l a b = .error x) : x ≠ 0 := by
  unfold rdData at h
  split at h
  · rename_i hn; simp only [Except.error.injEq] at h; subst h; exact rdNum_ne0 hn
  · split at h
    · simp only [Except.error.injEq] at h; omega
    · split at h
      · simp only [Except.error.injEq] at h; omega
      · cases h
theorem rdEntry_ne0 {l : List Int} {a x : Int} (h : rdEntry l a = .error x) : x ≠ 0 := by
  unfold rdEntry at h
  split at h
  · rename_i hn; simp only [Except.error.injEq] at h; subst h; exact rdByte_ne0 hn
  · split at h
    · rename_i hn; simp only [Except.error.injEq] at h; subst h; exact rdNum_ne0 hn
    · split at h
      · rename_i hn; simp only [Except.error.injEq] at h; subst h; exact rdNum_ne0 hn
      · split at h
        · split at h
          · rename_i hn; simp only [Except.error.injEq] at h; subst h; exact rdNum_ne0 hn
          · split at h
            · simp only [Except.error.injEq] at h; omega
            · cases h
        · split at h
          · rename_i hn; simp only [Except.error.injEq] at h; subst h; exact rdData_ne0 hn
          · cases h
theorem from_zero (l : List Int) : from_ l 0 = l := rfl
theorem from_end {l : List Int} {at_ : Int} (h : ¬ at_ < l.length) : from_ l at_ = [] := List.drop_eq_nil_of_le (by omega)
theorem getEntry_put {k t i : Int} {d : List Int} (hb : ¬ entBad k t i d) (hd : d.length ≤ 2048) : getEntry (entBytes k t i d) = (k, t, i, d, 0) := by
  unfold getEntry
  rw [rdEntry_from (c := []) (by omega) (by omega) (by simp [from_zero]) hb hd]
  simp only
  rw [if_neg (by omega)]
theorem getEntry_back {l d : List Int} {k t i : Int} (hok : okBytes l = true) (h : getEntry l = (k, t, i, d, 0)) : ¬ entBad k t i d ∧ d.length ≤ 2048 ∧ l = entBytes k t i d := by
  unfold getEntry at h
  cases hr : rdEntry l 0 with
  | error x =>
    rw [hr] at h
    simp only [Prod.mk.injEq] at h
    obtain ⟨_, _, _, _, rfl⟩ := h
    exact absurd rfl (rdEntry_ne0 hr)
  | ok p =>
    obtain ⟨⟨k', t', i', d'⟩, a⟩ := p
    rw [hr] at h
    simp only at h
    by_cases ha : a < l.length
    · rw [if_pos ha] at h; simp at h
    · rw [if_neg ha] at h
      simp only [Prod.mk.injEq] at h
      obtain ⟨rfl, rfl, rfl, rfl, _⟩ := h
      obtain ⟨b1, b2, b3, b4, b5⟩ := rdEntry_back hok (by omega) (by omega) hr
      refine ⟨b1, b2, ?_⟩
      rw [from_zero, from_end ha, List.append_nil] at b3
      exact b3
theorem getHard_put {t v : Int} (h : hardErr t v = 0) : getHard (enc t ++ enc v) = (t, v, 0) := by
  unfold hardErr at h
  have hh : ¬ (t < 0 ∨ 1099511627776 < t ∨ v < 0 ∨ 9 < v) := fun hh => by rw [if_pos hh] at h; cases h
  unfold getHard
  have e0 : from_ (enc t ++ enc v) 0 = enc t ++ (enc v ++ []) := by simp [from_zero]
  have ht := enc_len (n := t) (by omega) (by omega)
  have hv := enc_len (n := v) (by omega) (by omega)
  rw [rdNum_from (by omega) (by simp; omega) e0 (by omega) (by omega) (by omega)]
  simp only
  rw [rdNum_from (by omega) (by simp only [List.length_append]; omega) (from_app (by omega) e0) (by omega) (by omega) (by omega)]
  simp only
  rw [if_neg (by omega), if_neg (by simp only [List.length_append]; omega)]
end Go.Proofs.Ytlbioffpcoikaaa.PW
