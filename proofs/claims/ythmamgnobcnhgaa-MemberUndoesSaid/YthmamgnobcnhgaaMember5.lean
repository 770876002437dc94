/- Members' and changes' bytes. -/
import Derived.Test.YthmamgnobcnhgaaMember1
import Derived.Test.YthmamgnobcnhgaaMember4
import Derived.Test.YthmamgnobcnhgaaPMx26
import Derived.Test.YthmamgnobcnhgaaPMx28
import Derived.Test.YthmamgnobcnhgaaPMx30
namespace Go.Proofs.Ythmamgnobcnhgaa.Pure
open Go.RowKit Go.Proofs.Ythmamgnobcnhgaa.PM Go.Proofs.YthmamgnobcnhgaaW.PrintWords Go.Proofs.YthmamgnobcnhgaaW.PrintLast
theorem enc_small {n : Int} (h1 : n < 128) : enc n = [n] := by
  unfold enc
  rw [encN, if_pos h1]
theorem Number_small {n : Int} (h0 : 0 ≤ n) (h1 : n < 128) {k : Nat} (hk : 9 < k) : wire_Number.f k n = some ([n], 0) := by
  rw [Number_f hk, if_neg (by omega), enc_small h1]
theorem add_small {n : Int} (h0 : 0 ≤ n) (h1 : n < 128) {k : Nat} (hk : 10 < k) (b : List Int) (hb : b.length ≤ 1000) : tollgateref03_add.f k b n = some (b ++ [n]) := by
  unfold tollgateref03_add.f
  rw [refNumber_f hk, if_neg (by omega), enc_small h1]
  simp only [Option.bind_some]
  rw [if_pos (by simp; omega)]
theorem rd_mem {l : List Int} {i : Int} (h0 : 0 ≤ i) (h1 : i < l.length) : rd l i ∈ l := by
  have h : i.toNat < l.length := by omega
  unfold rd
  rw [List.getD_eq_getElem?_getD, List.getElem?_eq_getElem h]
  exact List.getElem_mem h
theorem put_l0 (l : List Int) (hl : ∀ x ∈ l, 0 ≤ x ∧ x < 128) (hll : l.length ≤ 100) : ∀ (m k : Nat) (i : Int) (b : List Int), 0 ≤ i → i + m = l.length → m + 10 < k → b.length + m ≤ 1000 → member_put.l0 k b l l.length i = some (b ++ l.drop i.toNat)
  | 0, k + 1, i, b, h0, h1, _, _ => by
    rw [member_put.l0, if_neg (by omega), List.drop_eq_nil_of_le (by omega), List.append_nil]
  | m + 1, k + 1, i, b, h0, h1, hk, hb => by
    have hi : i < l.length := by omega
    have hx := hl _ (rd_mem h0 hi)
    rw [member_put.l0, if_pos hi, if_pos h0, if_pos hi, Number_small hx.1 hx.2 (by omega)]
    simp only [Option.bind_some]
    rw [if_pos (by simp; omega), wrap64_in (n := i + 1) (by omega), put_l0 l hl hll m k (i + 1) _ (by omega) (by omega) (by omega) (by simp; omega), rd_at h0 hi]
    simp
theorem put_f (l b : List Int) (hl : ∀ x ∈ l, 0 ≤ x ∧ x < 128) (hll : l.length ≤ 100) (hb : b.length ≤ 500) {k : Nat} (hk : 111 < k) : member_put.f k b l = some (b ++ l) := by
  unfold member_put.f
  rw [put_l0 l hl hll l.length k 0 b (by omega) (by omega) (by omega) (by omega)]; rfl
/-- Members' bytes. -/
def putB (V L : List Int) : List Int := ((V.length : Int) :: V) ++ ((L.length : Int) :: L)
theorem right_parts {V L : List Int} (h : rightB V L = true) : ups 0 V = true ∧ ups 0 L = true ∧ 0 < V.length ∧ V.length ≤ 9 ∧ L.length ≤ 9 ∧ (∀ x ∈ V, 1 ≤ x ∧ x ≤ 9) ∧ (∀ x ∈ L, 1 ≤ x ∧ x ≤ 9) ∧ ∀ x ∈ L, ¬ x ∈ V := by
  unfold rightB at h
  simp only [Bool.and_eq_true, Bool.not_eq_true'] at h
  obtain ⟨⟨⟨h1, h2⟩, h3⟩, h4⟩ := h
  have l1 := ups_len V 0 (by omega) h2
  have l2 := ups_len L 0 (by omega) h3
  refine ⟨h2, h3, ?_, by omega, by omega, fun x hx => by have := ups_lt V 0 h2 x hx; omega, fun x hx => by have := ups_lt L 0 h3 x hx; omega, fun x hx hv => ?_⟩
  · simp at h1; exact List.length_pos_iff.2 h1
  · have := List.any_eq_false.1 h4 x hx
    exact this (List.contains_iff_mem.2 hv)
theorem Right_f {V L : List Int} (hV : V.length ≤ 140737488355328) (hL : L.length ≤ 140737488355328) : member_Right.f V L = some (rightB V L) := by
  unfold member_Right.f; rw [if_pos ⟨hV, hL⟩]
theorem Put_f (V L : List Int) (hV : V.length ≤ 140737488355328) (hL : L.length ≤ 140737488355328) {k : Nat} (hk : 111 < k) : member_Put.f k V L = some (if rightB V L then (putB V L, 0) else ([], 2)) := by
  unfold member_Put.f
  rw [Right_f hV hL]
  simp only [Option.bind_some]
  cases hR : rightB V L
  · simp
  · obtain ⟨_, _, _, h4, h5, h6, h7, _⟩ := right_parts hR
    rw [if_pos rfl, put_f _ _ (by intro x hx; simp at hx; omega) (by simp) (by simp) hk]
    simp only [Option.bind_some]
    rw [put_f V _ (fun x hx => by have := h6 x hx; omega) (by omega) (by simp) hk]
    simp only [Option.bind_some]
    rw [put_f _ _ (by intro x hx; simp at hx; omega) (by simp) (by simp; omega) hk]
    simp only [Option.bind_some]
    rw [put_f L _ (fun x hx => by have := h7 x hx; omega) (by omega) (by simp; omega) hk]
    simp [putB]
theorem rput_l1 (V l : List Int) (hl : ∀ x ∈ l, 0 ≤ x ∧ x < 128) (hll : l.length ≤ 100) : ∀ (m k : Nat) (i : Int) (b : List Int), 0 ≤ i → i + m = l.length → m + 12 < k → b.length + m ≤ 1000 → tollgateref03_Put.l1 k b i V l = some (b ++ l.drop i.toNat, 0)
  | 0, k + 1, i, b, h0, h1, _, _ => by
    rw [tollgateref03_Put.l1, if_neg (by omega), List.drop_eq_nil_of_le (by omega), List.append_nil]
  | m + 1, k + 1, i, b, h0, h1, hk, hb => by
    have hi : i < l.length := by omega
    have hx := hl _ (rd_mem h0 hi)
    rw [tollgateref03_Put.l1, if_pos hi, if_pos h0, add_small hx.1 hx.2 (by omega) b (by omega)]
    simp only [Option.bind_some]
    rw [wrap64_in (n := i + 1) (by omega), rput_l1 V l hl hll m k (i + 1) _ (by omega) (by omega) (by omega) (by simp; omega), rd_at h0 hi]
    simp
theorem rput_l0 (l L : List Int) (hl : ∀ x ∈ l, 0 ≤ x ∧ x < 128) (hL : ∀ x ∈ L, 0 ≤ x ∧ x < 128) (hll : l.length ≤ 100) (hLl : L.length ≤ 100) : ∀ (m k : Nat) (i : Int) (b : List Int), 0 ≤ i → i + m = l.length → m + L.length + 14 < k → b.length + m ≤ 500 →
    tollgateref03_Put.l0 k b i l L = some (b ++ l.drop i.toNat ++ ((L.length : Int) :: L), 0)
  | 0, k + 1, i, b, h0, h1, hk, hb => by
    rw [tollgateref03_Put.l0, if_neg (by omega), List.drop_eq_nil_of_le (by omega), List.append_nil, add_small (by omega) (by omega) (by omega) b (by omega)]
    simp only [Option.bind_some]
    rw [rput_l1 l L hL hLl L.length k 0 _ (by omega) (by omega) (by omega) (by simp; omega)]
    simp
  | m + 1, k + 1, i, b, h0, h1, hk, hb => by
    have hi : i < l.length := by omega
    have hx := hl _ (rd_mem h0 hi)
    rw [tollgateref03_Put.l0, if_pos hi, if_pos h0, add_small hx.1 hx.2 (by omega) b (by omega)]
    simp only [Option.bind_some]
    rw [wrap64_in (n := i + 1) (by omega), rput_l0 l L hl hL hll hLl m k (i + 1) _ (by omega) (by omega) (by omega) (by simp; omega), rd_at h0 hi]
    simp
theorem refPut_f (V L : List Int) (hV : V.length ≤ 140737488355328) (hL : L.length ≤ 140737488355328) {k : Nat} (hk : V.length + L.length + 300 < k) : tollgateref03_Put.f k V L = some (if rightB V L then (putB V L, 0) else ([], 2)) := by
  unfold tollgateref03_Put.f
  rw [refRight_f V L (by omega) (by omega) (by omega)]
  simp only [Option.bind_some]
  cases hR : rightB V L
  · simp
  · obtain ⟨_, _, _, h4, h5, h6, h7, _⟩ := right_parts hR
    rw [if_pos rfl, add_small (by omega) (by omega) (by omega) [] (by simp)]
    simp only [Option.bind_some]
    rw [rput_l0 V L (fun x hx => by have := h6 x hx; omega) (fun x hx => by have := h7 x hx; omega) (by omega) (by omega) V.length k 0 _ (by omega) (by omega) (by omega) (by simp; omega)]
    simp [putB]
/-- May a change be? -/
def validB (d n : Int) : Bool := decide (1 ≤ d) && decide (d ≤ 4) && decide (1 ≤ n) && decide (n ≤ 9)
theorem valid_f (d n : Int) : member_valid.f d n = some (validB d n) := by
  unfold member_valid.f validB
  by_cases h1 : d ≥ 1
  · by_cases h2 : d ≤ 4
    · by_cases h3 : n ≥ 1
      · simp [h1, h2, h3]
      · rw [if_pos h1, if_pos h2, if_neg h3]; simp; omega
    · rw [if_pos h1, if_neg h2]; simp; omega
  · rw [if_neg h1]; simp; omega
theorem rvalid_f (d n : Int) : tollgateref03_RightChange.f d n = some (validB d n) := by
  have : tollgateref03_RightChange.f d n = member_valid.f d n := rfl
  rw [this, valid_f]
theorem validB_parts {d n : Int} (h : validB d n = true) : 1 ≤ d ∧ d ≤ 4 ∧ 1 ≤ n ∧ n ≤ 9 := by
  unfold validB at h
  simp only [Bool.and_eq_true, decide_eq_true_eq] at h
  omega
theorem PutChange_f (d n : Int) {k : Nat} (hk : 111 < k) : member_PutChange.f k d n = some (if validB d n then ([d, n], 0) else ([], 2)) := by
  unfold member_PutChange.f
  rw [valid_f]
  simp only [Option.bind_some]
  cases hv : validB d n
  · simp
  · have := validB_parts hv
    rw [if_pos rfl, put_f _ _ (by intro x hx; simp at hx; omega) (by simp) (by simp) hk]
    simp
theorem refPutChange_f (d n : Int) {k : Nat} (hk : 111 < k) : tollgateref03_PutChange.f k d n = some (if validB d n then ([d, n], 0) else ([], 2)) := by
  unfold tollgateref03_PutChange.f
  rw [rvalid_f]
  simp only [Option.bind_some]
  cases hv : validB d n
  · simp
  · have := validB_parts hv
    rw [if_pos rfl, add_small (by omega) (by omega) (by omega) [] (by simp)]
    simp only [Option.bind_some]
    rw [add_small (by omega) (by omega) (by omega) _ (by simp)]
    simp
end Go.Proofs.Ythmamgnobcnhgaa.Pure
