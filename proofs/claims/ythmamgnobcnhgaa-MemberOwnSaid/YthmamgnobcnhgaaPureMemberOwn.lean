/- MemberOwn: what the law's function answers. -/
import Derived.Test.YthmamgnobcnhgaaMember9
import Derived.Test.YthmamgnobcnhgaaPMx54
import Derived.Test.YthmamgnobcnhgaaKindsM
namespace Go.Proofs.Ythmamgnobcnhgaa.Pure
open Go.RowKit Go.Proofs.Ythmamgnobcnhgaa.PM Go.Proofs.YthmamgnobcnhgaaW.PrintWords Go.Proofs.YthmamgnobcnhgaaW.PrintLast
theorem rd_set_same {l : List Int} {i x : Int} (h0 : 0 ≤ i) (h1 : i < l.length) : rd (l.set i.toNat x) i = x := by
  have h : i.toNat < l.length := by omega
  unfold rd
  rw [List.getD_eq_getElem?_getD, List.getElem?_set_self h]; rfl
theorem rd_set_other {l : List Int} {i j x : Int} (h0 : 0 ≤ i) (h1 : 0 ≤ j) (h : j ≠ i) : rd (l.set i.toNat x) j = rd l j := by
  unfold rd
  rw [List.getD_eq_getElem?_getD, List.getD_eq_getElem?_getD, List.getElem?_set_ne (by omega)]
theorem own_l3 (V L W X : List Int) (hV : V.length ≤ 17592186043904) (hL : L.length ≤ 17592186043904) (hW : W.length ≤ 1000) (h : ∀ j : Int, 0 ≤ j → j < W.length → rd W j = 78) : ∀ (m : Nat) (i : Int), 0 ≤ i → i + m = W.length → ∃ k, tollgatelaw03_MemberOwn.l3 k i V L V L W X = some true
  | 0, i, h0, h1 => by
    refine ⟨V.length + L.length + 100 + 1, ?_⟩
    rw [tollgatelaw03_MemberOwn.l3, if_neg (by omega), live_f (by omega), Same_f V L V L (by omega) (by omega) (by omega) (by omega)]
    simp
  | m + 1, i, h0, h1 => by
    obtain ⟨k, ih⟩ := own_l3 V L W X hV hL hW h m (i + 1) (by omega) (by omega)
    refine ⟨k + 1, ?_⟩
    rw [tollgatelaw03_MemberOwn.l3, if_pos (by omega), if_pos h0, if_pos (h i h0 (by omega)), wrap64_in (n := i + 1) (by omega)]
    exact ih
theorem own_l2 (V L W : List Int) (h3 : ∀ X, ∃ k, tollgatelaw03_MemberOwn.l3 k 0 V L V L W X = some true) : ∀ (m : Nat) (i : Int) (X : List Int), X.length ≤ 1000 → 0 ≤ i → i + m = X.length → ∃ k, tollgatelaw03_MemberOwn.l2 k i V L V L W X = some true
  | 0, i, X, hX, h0, h1 => by
    obtain ⟨k, h⟩ := h3 X
    refine ⟨k + 1, ?_⟩
    rw [tollgatelaw03_MemberOwn.l2, if_neg (by omega)]
    exact h
  | m + 1, i, X, hX, h0, h1 => by
    obtain ⟨k, ih⟩ := own_l2 V L W h3 m (i + 1) (X.set i.toNat 79) (by rw [List.length_set]; omega) (by omega) (by rw [List.length_set]; omega)
    refine ⟨k + 1, ?_⟩
    rw [tollgatelaw03_MemberOwn.l2, if_pos (by omega), if_pos h0, wrap64_in (n := i + 1) (by omega)]
    exact ih
theorem own_l1 (V L X : List Int) (hV : V.length ≤ 17592186043904) (hL : L.length ≤ 17592186043904) (hX : X.length ≤ 900) : ∀ (m : Nat) (i : Int) (W : List Int), W.length ≤ 1000 → 0 ≤ i → i + m = W.length → (∀ j : Int, 0 ≤ j → j < i → rd W j = 78) → ∃ k, tollgatelaw03_MemberOwn.l1 k i V L V L W X = some true
  | 0, i, W, hW, h0, h1, h => by
    obtain ⟨k, h⟩ := own_l2 V L W (fun X => own_l3 V L W X hV hL hW (fun j a b => h j a (by omega)) W.length 0 (by omega) (by omega)) (X ++ [79]).length 0 (X ++ [79]) (by simp; omega) (by omega) (by omega)
    refine ⟨k + 1, ?_⟩
    rw [tollgatelaw03_MemberOwn.l1, if_neg (by omega), if_pos (by omega)]
    exact h
  | m + 1, i, W, hW, h0, h1, h => by
    obtain ⟨k, ih⟩ := own_l1 V L X hV hL hX m (i + 1) (W.set i.toNat 78) (by rw [List.length_set]; omega) (by omega) (by rw [List.length_set]; omega) (fun j a b => by
      by_cases e : j = i
      · subst e; exact rd_set_same h0 (by omega)
      · rw [rd_set_other h0 a e]; exact h j a (by omega))
    refine ⟨k + 1, ?_⟩
    rw [tollgatelaw03_MemberOwn.l1, if_pos (by omega), if_pos h0, wrap64_in (n := i + 1) (by omega)]
    exact ih
theorem own_l0 (V L W X : List Int) (e : Int) (hV : V.length ≤ 17592186043904) (hL : L.length ≤ 17592186043904) (hW : W.length ≤ 100) (hX : X.length ≤ 900) : ∀ (m : Nat) (i : Int) (A : List Int), A.length ≤ 1000 → 0 ≤ i → i + m = A.length → ∃ k, tollgatelaw03_MemberOwn.l0 k e A i V L V L W X = some true
  | 0, i, A, hA, h0, h1 => by
    by_cases he : e = 0
    · obtain ⟨k, h⟩ := own_l1 V L X hV hL hX (W ++ [78]).length 0 (W ++ [78]) (by simp; omega) (by omega) (by omega) (fun j a b => by omega)
      refine ⟨k + 1, ?_⟩
      rw [tollgatelaw03_MemberOwn.l0, if_neg (by omega), if_pos he, if_pos (by omega)]
      exact h
    · refine ⟨V.length + L.length + 100 + 1, ?_⟩
      rw [tollgatelaw03_MemberOwn.l0, if_neg (by omega), if_neg he, live_f (by omega), Same_f V L V L (by omega) (by omega) (by omega) (by omega)]
      simp
  | m + 1, i, A, hA, h0, h1 => by
    obtain ⟨k, ih⟩ := own_l0 V L W X e hV hL hW hX m (i + 1) (A.set i.toNat 77) (by rw [List.length_set]; omega) (by omega) (by rw [List.length_set]; omega)
    refine ⟨k + 1, ?_⟩
    rw [tollgatelaw03_MemberOwn.l0, if_pos (by omega), if_pos h0, wrap64_in (n := i + 1) (by omega)]
    exact ih
theorem MemberOwn_pure (x0 : S24) (x1 : S55) (g0 : Good24 x0) (_ : Good55 x1) : ∃ k, tollgatelaw03_MemberOwn.f k x0.f0 x0.f1 x1.f0 x1.f1 = some true := by
  obtain ⟨V, L⟩ := x0
  obtain ⟨d, n⟩ := x1
  have hV := reach8 g0.1.1
  have hL := reach8 g0.2.1
  simp only at hV hL
  have hl := applyB_len V L d n
  have hA : (if rightB V L then sortI (V ++ L) else []).length ≤ 1000 := by
    cases hR : rightB V L
    · simp
    · obtain ⟨_, _, _, h4, h5, _⟩ := right_parts hR
      rw [if_pos rfl, sortI_length, List.length_append]; omega
  obtain ⟨A, hAe⟩ : ∃ A, (if rightB V L then sortI (V ++ L) else []) = A := ⟨_, rfl⟩
  rw [hAe] at hA
  obtain ⟨k0, hk0⟩ := own_l0 V L (applyB V L d n).1 (applyB V L d n).2.1 (applyB V L d n).2.2 hV hL (by omega) (by omega) A.length 0 A hA (by omega) (by omega)
  have hall : member_All.f V L = some A := by unfold member_All.f; rw [if_pos ⟨by omega, by omega⟩, hAe]
  suffices h : ∃ k, k0 ≤ k ∧ 20 < k ∧ tollgatelaw03_MemberOwn.l0 k (applyB V L d n).2.2 A 0 V L V L (applyB V L d n).1 (applyB V L d n).2.1 = some true by
    obtain ⟨k, _, hk, h⟩ := h
    refine ⟨k, ?_⟩
    show tollgatelaw03_MemberOwn.f k V L d n = some true
    unfold tollgatelaw03_MemberOwn.f
    rw [Copy_f V L hV hL]
    simp only [Option.bind_some]
    rw [Apply_f V L hV hL d n hk, hall]
    exact h
  exact ⟨k0 + 21, by omega, by omega, fuel_up (fun k => (tollgatelaw03_MemberOwn.mono_l k).1 _ _ _ _ _ _ _ _ _) hk0 _ (by omega)⟩
end Go.Proofs.Ythmamgnobcnhgaa.Pure
