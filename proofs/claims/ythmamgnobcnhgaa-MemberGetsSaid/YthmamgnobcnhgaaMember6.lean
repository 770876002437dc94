/- Taking numbers back (lines of this work's wire texts). -/
import Derived.Test.YthmamgnobcnhgaaMember4
namespace Go.Proofs.Ythmamgnobcnhgaa.PM
open Go.RowKit Go.Proofs.YthmamgnobcnhgaaW.PrintWords Go.Proofs.YthmamgnobcnhgaaW.PrintLast Go.Proofs.YthmamgnobcnhgaaW.PrintMore
set_option linter.unusedVariables false
set_option linter.unusedSimpArgs false
def from_ (l : List Int) (at_ : Int) : List Int := l.drop at_.toNat
theorem from_cons {l : List Int} {at_ : Int} (h0 : 0 ≤ at_) (h1 : at_ < l.length) : from_ l at_ = rd l at_ :: from_ l (at_ + 1) := by
  unfold from_ rd
  have h : at_.toNat < l.length := by omega
  rw [List.drop_eq_getElem_cons h, List.getD_eq_getElem?_getD, List.getElem?_eq_getElem h, show (at_ + 1).toNat = at_.toNat + 1 by omega]
  rfl
theorem from_split {a c l : List Int} {at_ : Int} (h : l = a ++ c) (ha : at_ = a.length) : from_ l at_ = c := by subst h ha; simp [from_]
theorem from_len {l : List Int} {at_ : Int} (h0 : 0 ≤ at_) (h1 : at_ ≤ l.length) : ((from_ l at_).length : Int) = l.length - at_ := by unfold from_; rw [List.length_drop]; omega
theorem from_app {l a c : List Int} {at_ : Int} (h0 : 0 ≤ at_) (h : from_ l at_ = a ++ c) : from_ l (at_ + a.length) = c := by
  unfold from_ at *
  rw [show (at_ + (a.length : Int)).toNat = at_.toNat + a.length by omega, ← List.drop_drop, h]; simp
theorem rd_from {l c : List Int} {at_ x : Int} (h : from_ l at_ = x :: c) : rd l at_ = x := by
  unfold from_ at h; unfold rd
  rw [List.getD_eq_getElem?_getD]
  have h2 : (l.drop at_.toNat)[0]? = some x := by rw [h]; rfl
  rw [List.getElem?_drop, Nat.add_zero] at h2
  rw [h2]; rfl
theorem from_lt {l c : List Int} {at_ x : Int} (h0 : 0 ≤ at_) (h : from_ l at_ = x :: c) : at_ < l.length := by
  unfold from_ at h
  rcases Nat.lt_or_ge at_.toNat l.length with h2 | h2
  · omega
  · rw [List.drop_eq_nil_of_le h2] at h; cases h
theorem takeNum_from {l c : List Int} {at_ n : Int} (h0 : 0 ≤ at_) (h1 : at_ ≤ l.length) (h : from_ l at_ = enc n ++ c) (hn0 : 0 ≤ n) (hn1 : n ≤ 1099511627776) : takeNum l at_ = (n, at_ + (enc n).length, 0) := by
  have hl : l = l.take at_.toNat ++ enc n ++ c := by rw [List.append_assoc, ← h]; exact (List.take_append_drop at_.toNat l).symm
  have ha : ((l.take at_.toNat).length : Int) = at_ := by rw [List.length_take]; omega
  have := takeNum_enc (l.take at_.toNat) c n hn0 hn1
  rw [← hl, ha] at this
  exact this
theorem okBytes_mem {l : List Int} (h : okBytes l = true) : ∀ x ∈ l, 0 ≤ x ∧ x < 256 := fun x hx => by
  have := List.all_eq_true.1 h x hx
  simp at this; omega
theorem okBytes_append {a b : List Int} (ha : okBytes a = true) (hb : okBytes b = true) : okBytes (a ++ b) = true := by
  unfold okBytes at *; rw [List.all_append, ha, hb]; rfl
theorem takeGo_ok (l : List Int) (at_ : Int) (h0 : 0 ≤ at_) : ∀ (m : Nat) (k n r1 r2 : Int), 0 ≤ k → 0 ≤ n → (∀ i, 0 ≤ rd l i ∧ rd l i ≤ 255) → at_ + k ≤ l.length → takeGo l at_ m k n = (r1, r2, 0) → at_ + k < r2 ∧ r2 ≤ l.length ∧ 0 ≤ r1 ∧ r1 ≤ 1099511627776 := by
  intro m
  induction m with
  | zero => intro k n r1 r2 _ _ _ _ h; simp [takeGo] at h
  | succ m ih =>
    intro k n r1 r2 hk hn hb hkl h
    have hc := hb (at_ + k)
    have hp : 0 ≤ rd l (at_ + k) % 128 * 128 ^ k.toNat := Int.mul_nonneg (by omega) (Int.pow_nonneg (by omega))
    simp only [takeGo] at h
    split at h
    · simp at h
    · split at h
      · split at h
        · simp at h
        · have := ih _ _ _ _ (by omega) (by omega) hb (by omega) h
          omega
      · split at h
        · simp at h
        · split at h
          · simp at h
          · simp only [Prod.mk.injEq] at h
            omega
theorem takeNum_ok {l : List Int} {at_ r1 r2 : Int} (hb : okBytes l = true) (h : takeNum l at_ = (r1, r2, 0)) : at_ < r2 ∧ 0 ≤ r2 ∧ r2 ≤ l.length ∧ 0 ≤ r1 ∧ r1 ≤ 1099511627776 := by
  unfold takeNum at h
  split at h
  · simp at h
  · split at h
    · simp at h
    · have := takeGo_ok l at_ (by omega) 6 0 0 r1 r2 (by omega) (by omega) (okBytes_rd hb) (by omega) h
      omega
theorem takeGo_back (l : List Int) (at_ : Int) (hat : 0 ≤ at_) (hb : ∀ i, 0 ≤ rd l i ∧ rd l i ≤ 255) : ∀ (m : Nat) (k acc n at' : Int), at_ + k ≤ l.length → 0 ≤ k → k + m = 5 → 0 ≤ acc → takeGo l at_ (m + 1) k acc = (n, at', 0) →
    ∃ v, 0 ≤ v ∧ v < 128 ^ (m + 1) ∧ n = acc + v * 128 ^ k.toNat ∧ (k = 0 ∨ 0 < v) ∧ from_ l (at_ + k) = encN m v ++ from_ l at' ∧ at' = at_ + k + (encN m v).length ∧ n ≤ 1099511627776 := by
  intro m
  induction m with
  | zero =>
    intro k acc n at' hle hk hkm hacc h
    have hc := hb (at_ + k)
    rcases (show at_ + k = l.length ∨ at_ + k < l.length by omega) with hlen | hlt
    · rw [tg_short hlen] at h; simp at h
    · have hfc := from_cons (l := l) (at_ := at_ + k) (by omega) hlt
      have hne : ¬ at_ + k = l.length := by omega
      obtain ⟨c, hcc⟩ : ∃ c, rd l (at_ + k) = c := ⟨_, rfl⟩
      rw [hcc] at hc hfc
      rcases (show c < 128 ∨ 128 ≤ c by omega) with h128 | h128
      · by_cases hz : c = 0 ∧ 0 < k
        · rw [tg_form hne hcc hz.1 hz.2] at h; simp at h
        · rcases (show acc + c % 128 * 128 ^ k.toNat > 1099511627776 ∨ acc + c % 128 * 128 ^ k.toNat ≤ 1099511627776 by omega) with hm | hm
          · rw [tg_limit hne hcc h128 hz hm] at h; simp at h
          · rw [tg_ok hne hcc h128 hz hm] at h
            simp only [Prod.mk.injEq, and_true] at h
            have e : c % 128 = c := by omega
            rw [e] at h hm
            refine ⟨c, hc.1, by omega, h.1.symm, by omega, ?_, by simp only [encN, List.length_singleton]; omega, by omega⟩
            rw [hfc, ← h.2]; rfl
      · rw [tg_full hne hcc h128 (by omega)] at h; simp at h
  | succ m ih =>
    intro k acc n at' hle hk hkm hacc h
    have hc := hb (at_ + k)
    rcases (show at_ + k = l.length ∨ at_ + k < l.length by omega) with hlen | hlt
    · rw [tg_short hlen] at h; simp at h
    · have hfc := from_cons (l := l) (at_ := at_ + k) (by omega) hlt
      have hne : ¬ at_ + k = l.length := by omega
      obtain ⟨c, hcc⟩ : ∃ c, rd l (at_ + k) = c := ⟨_, rfl⟩
      rw [hcc] at hc hfc
      rcases (show c < 128 ∨ 128 ≤ c by omega) with h128 | h128
      · by_cases hz : c = 0 ∧ 0 < k
        · rw [tg_form hne hcc hz.1 hz.2] at h; simp at h
        · rcases (show acc + c % 128 * 128 ^ k.toNat > 1099511627776 ∨ acc + c % 128 * 128 ^ k.toNat ≤ 1099511627776 by omega) with hm | hm
          · rw [tg_limit hne hcc h128 hz hm] at h; simp at h
          · rw [tg_ok hne hcc h128 hz hm] at h
            simp only [Prod.mk.injEq, and_true] at h
            have e : c % 128 = c := by omega
            rw [e] at h hm
            refine ⟨c, hc.1, ?_, h.1.symm, by omega, ?_, ?_, by omega⟩
            · have hq : (0 : Int) < 128 ^ (m + 1) := Int.pow_pos (by omega)
              have hq2 : (128 : Int) ^ (m + 1 + 1) = 128 ^ (m + 1) * 128 := Int.pow_succ ..
              omega
            · rw [encN, if_pos h128, hfc, ← h.2]; rfl
            · rw [encN, if_pos h128]; simp only [List.length_singleton]; omega
      · rw [tg_more hne hcc h128 (by omega)] at h
        have hp : 0 ≤ c % 128 * 128 ^ k.toNat := Int.mul_nonneg (by omega) (Int.pow_nonneg (by omega))
        obtain ⟨v, v0, v1, hn, hv, hf, ha, hmax⟩ := ih (k + 1) _ n at' (by omega) (by omega) (by omega) (by omega) h
        have e2 : (k + 1).toNat = k.toNat + 1 := by omega
        rw [e2, Int.pow_succ] at hn
        refine ⟨c % 128 + v * 128, by omega, by rw [Int.pow_succ]; omega, ?_, by omega, ?_, ?_, hmax⟩
        · rw [hn, Int.add_mul, Int.mul_assoc, Int.mul_comm (128 ^ k.toNat) 128]; omega
        · rw [encN, if_neg (by omega), hfc, show at_ + k + 1 = at_ + (k + 1) by omega, hf, show (c % 128 + v * 128) % 128 + 128 = c by omega, show (c % 128 + v * 128) / 128 = v by omega]; rfl
        · rw [encN, if_neg (by omega), show (c % 128 + v * 128) / 128 = v by omega, List.length_cons]; omega
theorem takeNum_back {l : List Int} {at_ n at' : Int} (hok : okBytes l = true) (h : takeNum l at_ = (n, at', 0)) : 0 ≤ at_ ∧ at_ ≤ l.length ∧ 0 ≤ n ∧ n ≤ 1099511627776 ∧ from_ l at_ = enc n ++ from_ l at' ∧ at' = at_ + (enc n).length ∧ at' ≤ l.length := by
  unfold takeNum at h
  by_cases h0 : at_ < 0
  · rw [if_pos h0] at h; simp at h
  · by_cases h1 : at_ > l.length
    · rw [if_neg h0, if_pos h1] at h; simp at h
    · rw [if_neg h0, if_neg h1] at h
      obtain ⟨v, v0, v1, hn, _, hf, ha, hmax⟩ := takeGo_back l at_ (by omega) (okBytes_rd hok) 5 0 0 n at' (by omega) (by omega) (by omega) (by omega) h
      have e : n = v := by rw [hn]; simp
      subst e
      rw [Int.add_zero] at hf ha
      have he : encN 5 n = enc n := (enc_six v0 (by omega)).symm
      rw [he] at hf ha
      refine ⟨by omega, by omega, v0, hmax, hf, ha, ?_⟩
      have := from_len (l := l) (at_ := at_) (by omega) (by omega)
      rw [hf, List.length_append] at this
      omega
end Go.Proofs.Ythmamgnobcnhgaa.PM
