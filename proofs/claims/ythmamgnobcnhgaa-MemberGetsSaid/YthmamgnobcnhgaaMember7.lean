/- Members and changes of bytes. -/
import Derived.Test.YthmamgnobcnhgaaMember5
import Derived.Test.YthmamgnobcnhgaaMember6
import Derived.Test.YthmamgnobcnhgaaPMx47
import Derived.Test.YthmamgnobcnhgaaPMx49
import Derived.Test.YthmamgnobcnhgaaPMx50
import Derived.Test.YthmamgnobcnhgaaPMx51
namespace Go.Proofs.Ythmamgnobcnhgaa.Pure
open Go.RowKit Go.Proofs.Ythmamgnobcnhgaa.PM Go.Proofs.YthmamgnobcnhgaaW.PrintWords Go.Proofs.YthmamgnobcnhgaaW.PrintLast
theorem Take_f {l : List Int} (hok : okBytes l = true) (hl : l.length ≤ 200000000000000) (a : Int) : wire_TakeNumber.f l a = some (takeNum l a) := by
  unfold wire_TakeNumber.f; rw [if_pos ⟨hok, hl⟩]
/-- m numbers from a place on. -/
def goList (l : List Int) : Nat → Int → List Int → List Int × Int × Int
  | 0, at_, acc => (acc, at_, 0)
  | m + 1, at_, acc => if (takeNum l at_).2.2 = 0 then goList l m (takeNum l at_).2.1 (acc ++ [(takeNum l at_).1]) else (acc ++ [(takeNum l at_).1], (takeNum l at_).2.1, (takeNum l at_).2.2)
/-- member.list -/
def listB (l : List Int) (at_ : Int) : List Int × Int × Int :=
  if (takeNum l at_).2.2 = 0 then (if (takeNum l at_).1 > 9 then ([], (takeNum l at_).2.1, 4) else goList l (takeNum l at_).1.toNat (takeNum l at_).2.1 []) else ([], (takeNum l at_).2.1, (takeNum l at_).2.2)
theorem list_l0 {l : List Int} (hok : okBytes l = true) (hl : l.length ≤ 200000000000000) (n : Int) (hn : n ≤ 9) : ∀ (m k : Nat) (at_ i : Int) (acc : List Int), 0 ≤ i → i + m = n → m + 1 < k → acc.length + m ≤ 100 →
    member_list.l0 k l at_ n 0 acc i = some (goList l m at_ acc)
  | 0, k + 1, at_, i, acc, h0, h1, hk, ha => by
    rw [member_list.l0, if_pos rfl, if_neg (by omega)]; rfl
  | m + 1, k + 1, at_, i, acc, h0, h1, hk, ha => by
    rw [member_list.l0, if_pos rfl, if_pos (by omega), Take_f hok hl]
    simp only [Option.bind_some]
    rw [if_pos (by omega), wrap64_in (n := i + 1) (by omega), goList]
    by_cases hz : (takeNum l at_).2.2 = 0
    · rw [if_pos hz, hz]
      exact list_l0 hok hl n hn m k _ (i + 1) _ (by omega) (by omega) (by omega) (by simp; omega)
    · rw [if_neg hz]
      cases k with
      | zero => omega
      | succ k => rw [member_list.l0, if_neg hz]
theorem list_f {l : List Int} (hok : okBytes l = true) (hl : l.length ≤ 200000000000000) (at_ : Int) {k : Nat} (hk : 20 < k) : member_list.f k l at_ = some (listB l at_) := by
  unfold member_list.f listB
  rw [Take_f hok hl]
  simp only [Option.bind_some]
  obtain ⟨k, rfl⟩ : ∃ j, k = j + 3 := ⟨k - 3, by omega⟩
  by_cases hz : (takeNum l at_).2.2 = 0
  · rw [if_pos hz, if_pos hz]
    obtain ⟨n, a', e⟩ : ∃ n a', takeNum l at_ = (n, a', 0) := ⟨_, _, Prod.ext rfl (Prod.ext rfl hz)⟩
    have ok := takeNum_ok hok e
    rw [e]
    simp only
    by_cases h9 : n > 9
    · rw [decide_eq_true h9, if_pos h9, member_list.j0, if_pos rfl, member_list.j1, member_list.l0, if_neg (by decide)]
    · rw [decide_eq_false h9, if_neg h9, member_list.j0, if_neg (by decide), member_list.j1]
      exact list_l0 hok hl n (by omega) n.toNat _ a' 0 [] (by omega) (by omega) (by omega) (by simp; omega)
  · rw [if_neg hz, if_neg hz, member_list.j0, if_neg (by decide), member_list.j1, member_list.l0, if_neg hz]
/-- member.Get -/
def getB (l : List Int) : List Int × List Int × Int :=
  if (listB l 0).2.2 = 0 then (if (listB l (listB l 0).2.1).2.2 = 0 then (if (listB l (listB l 0).2.1).2.1 < l.length then ([], [], 4) else if rightB (listB l 0).1 (listB l (listB l 0).2.1).1 then ((listB l 0).1, (listB l (listB l 0).2.1).1, 0) else ([], [], 4)) else ([], [], (listB l (listB l 0).2.1).2.2)) else ([], [], (listB l 0).2.2)
theorem goList_len (l : List Int) : ∀ (m : Nat) (at_ : Int) (acc : List Int), (goList l m at_ acc).1.length ≤ acc.length + m
  | 0, _, _ => Nat.le_refl _
  | m + 1, at_, acc => by
    rw [goList]
    split
    · have := goList_len l m (takeNum l at_).2.1 (acc ++ [(takeNum l at_).1])
      simp only [List.length_append, List.length_singleton] at this
      omega
    · simp only [List.length_append, List.length_singleton]; omega
theorem listB_len (l : List Int) (at_ : Int) : (listB l at_).1.length ≤ 9 := by
  unfold listB
  split
  · split
    · simp
    · have := goList_len l (takeNum l at_).1.toNat (takeNum l at_).2.1 []
      simp only [List.length_nil] at this
      omega
  · simp
theorem Get_f {l : List Int} (hok : okBytes l = true) (hl : l.length ≤ 200000000000000) {k : Nat} (hk : 20 < k) : member_Get.f k l = some (getB l) := by
  unfold member_Get.f getB
  rw [list_f hok hl 0 hk]
  simp only [Option.bind_some]
  rw [list_f hok hl _ hk]
  simp only [Option.bind_some]
  have l1 := listB_len l 0
  have l2 := listB_len l (listB l 0).2.1
  rw [Right_f (by omega) (by omega)]
  simp only [Option.bind_some]
  by_cases h1 : (listB l 0).2.2 = 0
  · rw [if_pos h1, if_pos h1]
    by_cases h2 : (listB l (listB l 0).2.1).2.2 = 0
    · rw [if_pos h2, if_pos h2]
      by_cases h3 : (listB l (listB l 0).2.1).2.1 < l.length
      · rw [if_pos h3, if_pos h3]
      · rw [if_neg h3, if_neg h3]
        cases rightB (listB l 0).1 (listB l (listB l 0).2.1).1 <;> simp
    · rw [if_neg h2, if_neg h2]
  · rw [if_neg h1, if_neg h1]
/-- What the reference does behind a list. -/
theorem rget_l1 {l : List Int} (hok : okBytes l = true) (hl : l.length ≤ 200000000000000) (n : Int) (hn : n ≤ 9) (k : Nat) (hk : 20 < k) (j : Int) (hj : j = 0 ∨ j = 1) (V L : List Int) (hV : V.length ≤ 100) (hL : L.length ≤ 100) :
    ∀ (m : Nat) (at_ i : Int) (acc : List Int), 0 ≤ i → i + m = n → acc.length + m ≤ 100 →
    tollgateref03_Get.l1 (m + 1 + k) l at_ j n i (if j = 0 then acc else V) (if j = 0 then L else acc) =
      if (goList l m at_ acc).2.2 = 0 then tollgateref03_Get.l0 k l (goList l m at_ acc).2.1 (j + 1) (if j = 0 then (goList l m at_ acc).1 else V) (if j = 0 then L else (goList l m at_ acc).1) else some ([], [], (goList l m at_ acc).2.2)
  | 0, at_, i, acc, h0, h1, ha => by
    rw [show 0 + 1 + k = k + 1 by omega, tollgateref03_Get.l1, if_neg (by omega), goList, if_pos rfl, wrap64_in (n := j + 1) (by omega)]
  | m + 1, at_, i, acc, h0, h1, ha => by
    rw [show m + 1 + 1 + k = (m + 1 + k) + 1 by omega, tollgateref03_Get.l1, if_pos (by omega), refTake_f hok hl (by omega)]
    simp only [Option.bind_some]
    rw [wrap64_in (n := i + 1) (by omega), goList]
    by_cases hz : (takeNum l at_).2.2 = 0
    · rw [if_pos hz, if_pos hz]
      have ih := rget_l1 hok hl n hn k hk j hj V L hV hL m (takeNum l at_).2.1 (i + 1) (acc ++ [(takeNum l at_).1]) (by omega) (by omega) (by simp; omega)
      rcases hj with rfl | rfl
      · simp only [if_true] at ih ⊢
        rw [if_pos (by omega)]
        exact ih
      · rw [if_neg (by decide)]
        simp only [show ¬ ((1 : Int) = 0) by decide, if_false] at ih ⊢
        rw [if_pos (by omega)]
        exact ih
    · rw [if_neg hz, if_neg hz, if_neg hz]
theorem goList_le {l : List Int} (hok : okBytes l = true) : ∀ (m : Nat) (at_ : Int) (acc : List Int), at_ ≤ l.length → (goList l m at_ acc).2.2 = 0 → (goList l m at_ acc).2.1 ≤ l.length
  | 0, _, _, h, _ => h
  | m + 1, at_, acc, h, hz => by
    rw [goList] at hz ⊢
    by_cases h1 : (takeNum l at_).2.2 = 0
    · rw [if_pos h1] at hz ⊢
      have := takeNum_ok (l := l) (at_ := at_) (r1 := (takeNum l at_).1) (r2 := (takeNum l at_).2.1) hok (Prod.ext rfl (Prod.ext rfl h1))
      exact goList_le hok m _ _ this.2.2.1 hz
    · rw [if_neg h1] at hz; exact absurd hz h1
theorem rget_one {l : List Int} (hok : okBytes l = true) (hl : l.length ≤ 200000000000000) (k : Nat) (hk : 20 < k) (j : Int) (hj : j = 0 ∨ j = 1) (at_ : Int) (V L : List Int) (hV : V.length ≤ 100) (hL : L.length ≤ 100) (he : (if j = 0 then V else L) = []) :
    ∃ m : Nat, m ≤ 9 ∧ ∀ k', k' = m + 1 + k → tollgateref03_Get.l0 (k' + 1) l at_ j V L =
      if (listB l at_).2.2 = 0 then tollgateref03_Get.l0 k l (listB l at_).2.1 (j + 1) (if j = 0 then (listB l at_).1 else V) (if j = 0 then L else (listB l at_).1) else some ([], [], (listB l at_).2.2) := by
  have hj2 : j < 2 := by omega
  by_cases hz : (takeNum l at_).2.2 = 0
  · obtain ⟨n, a', e⟩ : ∃ n a', takeNum l at_ = (n, a', 0) := ⟨_, _, Prod.ext rfl (Prod.ext rfl hz)⟩
    have ok := takeNum_ok hok e
    by_cases h9 : n > 9
    · refine ⟨0, by omega, fun k' hk' => ?_⟩
      rw [tollgateref03_Get.l0, if_pos hj2, refTake_f hok hl (by omega)]
      unfold listB
      rw [e]
      simp only [Option.bind_some]
      simp only [if_true]
      rw [if_pos h9, if_pos h9, if_neg (show ¬ ((4 : Int) = 0) by decide)]
    · refine ⟨n.toNat, by omega, fun k' hk' => ?_⟩
      rw [tollgateref03_Get.l0, if_pos hj2, refTake_f hok hl (by omega)]
      unfold listB
      rw [e]
      simp only [Option.bind_some]
      simp only [if_true]
      rw [if_neg h9, if_neg h9, hk']
      have h := rget_l1 hok hl n (by omega) k hk j hj V L hV hL n.toNat a' 0 [] (by omega) (by omega) (by simp; omega)
      rcases hj with rfl | rfl
      · simp only [if_true] at h he ⊢
        rw [he]; exact h
      · simp only [show ¬ ((1 : Int) = 0) by decide, if_false] at h he ⊢
        rw [he]; exact h
  · refine ⟨0, by omega, fun k' hk' => ?_⟩
    rw [tollgateref03_Get.l0, if_pos hj2, refTake_f hok hl (by omega)]
    unfold listB
    simp only [Option.bind_some]
    rw [if_neg hz, if_neg hz, if_neg hz]
theorem listB_le {l : List Int} (hok : okBytes l = true) (at_ : Int) (h : (listB l at_).2.2 = 0) : (listB l at_).2.1 ≤ l.length := by
  unfold listB at *
  by_cases hz : (takeNum l at_).2.2 = 0
  · have := takeNum_ok (l := l) (at_ := at_) (r1 := (takeNum l at_).1) (r2 := (takeNum l at_).2.1) hok (Prod.ext rfl (Prod.ext rfl hz))
    rw [if_pos hz] at h ⊢
    by_cases h9 : (takeNum l at_).1 > 9
    · rw [if_pos h9] at h; simp at h
    · rw [if_neg h9] at h ⊢
      exact goList_le hok _ _ _ this.2.2.1 h
  · rw [if_neg hz] at h; exact absurd h hz
theorem refGet_f {l : List Int} (hok : okBytes l = true) (hl : l.length ≤ 200000000000000) : ∃ k0, ∀ k, k0 ≤ k → tollgateref03_Get.f k l = some (getB l) := by
  suffices h : ∃ k0, tollgateref03_Get.f k0 l = some (getB l) by
    obtain ⟨k0, h⟩ := h
    exact ⟨k0, fun k hk => fuel_up (tollgateref03_Get.mono l) h k hk⟩
  have l1 := listB_len l 0
  have l2 := listB_len l (listB l 0).2.1
  obtain ⟨m2, _, e2⟩ := rget_one hok hl 121 (by omega) 1 (.inr rfl) (listB l 0).2.1 (listB l 0).1 [] (by omega) (by simp) (by simp)
  obtain ⟨m1, _, e1⟩ := rget_one hok hl (m2 + 1 + 121 + 1) (by omega) 0 (.inl rfl) 0 [] [] (by simp) (by simp) (by simp)
  refine ⟨m1 + 1 + (m2 + 1 + 121 + 1) + 1, ?_⟩
  unfold tollgateref03_Get.f
  rw [e1 _ rfl]
  unfold getB
  simp only [if_true]
  by_cases h1 : (listB l 0).2.2 = 0
  · rw [if_pos h1, if_pos h1, show (0 : Int) + 1 = 1 by omega, e2 _ rfl]
    simp only [show ¬ ((1 : Int) = 0) by decide, if_false]
    by_cases h2 : (listB l (listB l 0).2.1).2.2 = 0
    · have := listB_le hok _ h2
      rw [if_pos h2, if_pos h2, tollgateref03_Get.l0, if_neg (by decide)]
      by_cases h3 : (listB l (listB l 0).2.1).2.1 < l.length
      · rw [if_pos h3, if_neg (by omega)]
      · rw [if_neg h3, if_pos (by omega), refRight_f _ _ (by omega) (by omega) (by omega)]
        simp only [Option.bind_some]
        cases rightB (listB l 0).1 (listB l (listB l 0).2.1).1 <;> simp
    · rw [if_neg h2, if_neg h2]
  · rw [if_neg h1, if_neg h1]
/-- member.GetChange -/
def getCB (l : List Int) : Int × Int × Int :=
  if (takeNum l 0).2.2 = 0 then (if (takeNum l (takeNum l 0).2.1).2.2 = 0 then (if (takeNum l (takeNum l 0).2.1).2.1 < l.length then (0, 0, 4) else if validB (takeNum l 0).1 (takeNum l (takeNum l 0).2.1).1 then ((takeNum l 0).1, (takeNum l (takeNum l 0).2.1).1, 0) else (0, 0, 4)) else (0, 0, (takeNum l (takeNum l 0).2.1).2.2)) else (0, 0, (takeNum l 0).2.2)
theorem GetChange_f {l : List Int} (hok : okBytes l = true) (hl : l.length ≤ 200000000000000) : member_GetChange.f l = some (getCB l) := by
  unfold member_GetChange.f getCB
  rw [Take_f hok hl]
  simp only [Option.bind_some]
  rw [Take_f hok hl]
  simp only [Option.bind_some]
  rw [valid_f]
  simp only [Option.bind_some]
  by_cases h1 : (takeNum l 0).2.2 = 0
  · rw [if_pos h1, if_pos h1]
    by_cases h2 : (takeNum l (takeNum l 0).2.1).2.2 = 0
    · rw [if_pos h2, if_pos h2]
      by_cases h3 : (takeNum l (takeNum l 0).2.1).2.1 < l.length
      · rw [if_pos h3, if_pos h3]
      · rw [if_neg h3, if_neg h3]
        cases validB (takeNum l 0).1 (takeNum l (takeNum l 0).2.1).1 <;> simp
    · rw [if_neg h2, if_neg h2]
  · rw [if_neg h1, if_neg h1]
theorem refGetChange_f {l : List Int} (hok : okBytes l = true) (hl : l.length ≤ 200000000000000) {k : Nat} (hk : 20 < k) : tollgateref03_GetChange.f k l = some (getCB l) := by
  unfold tollgateref03_GetChange.f getCB
  rw [refTake_f hok hl hk]
  simp only [Option.bind_some]
  rw [refTake_f hok hl hk]
  simp only [Option.bind_some]
  rw [rvalid_f]
  simp only [Option.bind_some]
  by_cases h1 : (takeNum l 0).2.2 = 0
  · rw [if_pos h1, if_pos h1]
    by_cases h2 : (takeNum l (takeNum l 0).2.1).2.2 = 0
    · have := takeNum_ok (l := l) (at_ := (takeNum l 0).2.1) (r1 := (takeNum l (takeNum l 0).2.1).1) (r2 := (takeNum l (takeNum l 0).2.1).2.1) hok (Prod.ext rfl (Prod.ext rfl h2))
      rw [if_pos h2, if_pos h2]
      by_cases h3 : (takeNum l (takeNum l 0).2.1).2.1 < l.length
      · rw [if_pos h3, if_neg (by omega)]
      · rw [if_neg h3, if_pos (by omega)]
        cases validB (takeNum l 0).1 (takeNum l (takeNum l 0).2.1).1 <;> simp
    · rw [if_neg h2, if_neg h2]
  · rw [if_neg h1, if_neg h1]
end Go.Proofs.Ythmamgnobcnhgaa.Pure
