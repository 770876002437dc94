import Derived.Test.YthmamgnobcnhgaaETake
namespace Go.Proofs.Ythmamgnobcnhgaa.PM
open Go.RowKit Go.Proofs.YthmamgnobcnhgaaW.PrintWords Go.Proofs.YthmamgnobcnhgaaW.PrintLast Go.Proofs.YthmamgnobcnhgaaW.PrintMore
set_option linter.unusedVariables false
set_option linter.unusedSimpArgs false

/-- A number's bytes: m + 1 of them at most. -/
def encN : Nat → Int → List Int
  | 0, n => [n]
  | m + 1, n => if n < 128 then [n] else (n % 128 + 128) :: encN m (n / 128)
/-- A number's bytes (of numbers up to 2^70). -/
def enc (n : Int) : List Int := encN 9 n
theorem or128 (x : Int) (h0 : 0 ≤ x) (h1 : x ≤ 9223372036854775807) : (bits .or .i64 (bits .and .i64 x 127) 128) % 256 = x % 128 + 128 := by
  rw [and127 x h0 h1]
  obtain ⟨d, hd⟩ : ∃ d : Nat, x % 128 = d := ⟨(x % 128).toNat, by omega⟩
  rw [hd, show (128 : Int) = ((128 : Nat) : Int) from rfl, i64_or_nat d 128 (by omega) (by omega)]
  have : d ||| 128 = d + 128 := by
    have := Nat.two_pow_add_eq_or_of_lt (i := 7) (b := d) (by omega) 1
    rw [show 2 ^ 7 * 1 = 128 from rfl] at this
    rw [Nat.or_comm]; omega
  rw [this]; omega
theorem encN_more (m : Nat) : ∀ n, 0 ≤ n → n < 128 ^ (m + 1) → encN (m + 1) n = encN m n := by
  induction m with
  | zero => intro n h0 h1; simp only [encN]; rw [if_pos (by omega)]
  | succ m ih =>
    intro n h0 h1
    rw [encN]
    conv => rhs; rw [encN]
    split
    · rfl
    · rw [ih (n / 128) (by omega) (by rw [Int.pow_succ] at h1; omega)]
theorem encN_len (m : Nat) (n : Int) : 1 ≤ (encN m n).length ∧ (encN m n).length ≤ m + 1 := by
  induction m generalizing n with
  | zero => simp [encN]
  | succ m ih =>
    rw [encN]
    split
    · simp
    · have := ih (n / 128); simp only [List.length_cons]; omega
theorem enc_six {n : Int} (h0 : 0 ≤ n) (h1 : n < 4398046511104) : enc n = encN 5 n := by
  unfold enc
  rw [encN_more 8 n h0 (by omega), encN_more 7 n h0 (by omega), encN_more 6 n h0 (by omega), encN_more 5 n h0 (by omega)]
theorem enc_len {n : Int} (h0 : 0 ≤ n) (h1 : n ≤ 1099511627776) : 1 ≤ (enc n).length ∧ (enc n).length ≤ 6 := by
  rw [enc_six h0 (by omega)]; exact encN_len 5 n
theorem encN_bytes (m : Nat) : ∀ n, 0 ≤ n → n < 128 ^ (m + 1) → ∀ x ∈ encN m n, 0 ≤ x ∧ x < 256 := by
  induction m with
  | zero => intro n h0 h1 x hx; simp [encN] at hx; omega
  | succ m ih =>
    intro n h0 h1 x hx
    rw [encN] at hx
    split at hx
    · simp at hx; omega
    · rcases List.mem_cons.1 hx with rfl | hx
      · omega
      · exact ih (n / 128) (by omega) (by rw [Int.pow_succ] at h1; omega) x hx
theorem enc_bytes {n : Int} (h0 : 0 ≤ n) (h1 : n ≤ 1099511627776) : ∀ x ∈ enc n, 0 ≤ x ∧ x < 256 := by
  rw [enc_six h0 (by omega)]; exact encN_bytes 5 n h0 (by omega)
theorem rd_append_right (a b : List Int) (i : Int) (h : (a.length : Int) ≤ i) : rd (a ++ b) i = rd b (i - a.length) := by
  unfold rd
  rw [List.getD_eq_getElem?_getD, List.getD_eq_getElem?_getD, List.getElem?_append_right (by omega)]
  congr 2; omega
theorem rd_append_left (a b : List Int) (i : Int) (h0 : 0 ≤ i) (h : i < a.length) : rd (a ++ b) i = rd a i := by
  unfold rd
  rw [List.getD_eq_getElem?_getD, List.getD_eq_getElem?_getD, List.getElem?_append_left (by omega)]
theorem rd_cons_zero (x : Int) (l : List Int) : rd (x :: l) 0 = x := by simp [rd]
/-- What is put is taken, from any byte of it on. -/
theorem takeGo_enc (l : List Int) (at_ : Int) : ∀ (m : Nat) (k acc n : Int) (ahead behind : List Int), l = ahead ++ encN m n ++ behind → at_ + k = ahead.length → 0 ≤ k → k + m = 5 → 0 ≤ n → n < 128 ^ (m + 1) → (k = 0 ∨ 0 < n) →
    0 ≤ acc → acc + n * 128 ^ k.toNat ≤ 1099511627776 → takeGo l at_ (m + 1) k acc = (acc + n * 128 ^ k.toNat, at_ + k + (encN m n).length, 0) := by
  intro m
  induction m with
  | zero =>
    intro k acc n ahead behind hl hk h0 hm hn0 hn1 hz ha hM
    have hlen : ¬ at_ + k = l.length := by rw [hl, hk]; simp [encN]; omega
    have hr : rd l (at_ + k) = n := by
      rw [hl, List.append_assoc, hk, rd_append_right _ _ _ (by omega), Int.sub_self, encN]; exact rd_cons_zero _ _
    have e : n % 128 = n := by omega
    rw [tg_ok hlen hr (by omega) (by omega) (by rw [e]; exact hM), e]
    simp [encN]
  | succ m ih =>
    intro k acc n ahead behind hl hk h0 hm hn0 hn1 hz ha hM
    rw [encN] at hl
    by_cases h : n < 128
    · rw [if_pos h] at hl
      have hlen : ¬ at_ + k = l.length := by rw [hl, hk]; simp; omega
      have hr : rd l (at_ + k) = n := by
        rw [hl, List.append_assoc, hk, rd_append_right _ _ _ (by omega), Int.sub_self]; exact rd_cons_zero _ _
      have e : n % 128 = n := by omega
      rw [tg_ok hlen hr (by omega) (by omega) (by rw [e]; exact hM), e, encN, if_pos h]
      simp
    · rw [if_neg h] at hl
      have hlen : ¬ at_ + k = l.length := by rw [hl, hk]; simp; omega
      have hr : rd l (at_ + k) = n % 128 + 128 := by
        rw [hl, List.append_assoc, hk, rd_append_right _ _ _ (by omega), Int.sub_self]; exact rd_cons_zero _ _
      rw [tg_more hlen hr (by omega) (by omega)]
      have e1 : (n % 128 + 128) % 128 = n % 128 := by omega
      have e2 : (k + 1).toNat = k.toNat + 1 := by omega
      have e3 : acc + n % 128 * 128 ^ k.toNat + n / 128 * 128 ^ (k + 1).toNat = acc + n * 128 ^ k.toNat := by
        rw [e2, Int.pow_succ]
        have : n = n % 128 + n / 128 * 128 := by omega
        conv => rhs; rw [this]
        rw [Int.add_mul, Int.mul_assoc, Int.mul_comm (128 ^ k.toNat) 128]
        omega
      have hp : 0 ≤ n % 128 * 128 ^ k.toNat := Int.mul_nonneg (by omega) (Int.pow_nonneg (by omega))
      rw [e1, ih (k + 1) (acc + n % 128 * 128 ^ k.toNat) (n / 128) (ahead ++ [n % 128 + 128]) behind (by rw [hl]; simp) (by simp; omega) (by omega) (by omega) (by omega) (by rw [Int.pow_succ] at hn1; omega) (by omega) (by omega) (by rw [e3]; exact hM), e3]
      rw [encN, if_neg h]
      simp
      omega
theorem takeNum_enc (ahead behind : List Int) (n : Int) (h0 : 0 ≤ n) (h1 : n ≤ 1099511627776) : takeNum (ahead ++ enc n ++ behind) ahead.length = (n, (ahead.length : Int) + (enc n).length, 0) := by
  unfold takeNum
  rw [if_neg (by omega), if_neg (by simp; omega), enc_six h0 (by omega)]
  have := takeGo_enc (ahead ++ encN 5 n ++ behind) ahead.length 5 0 0 n ahead behind rfl (by omega) (by omega) (by omega) h0 (by omega) (by omega) (by omega) (by simpa using h1)
  rw [this]; simp
end Go.Proofs.Ythmamgnobcnhgaa.PM
