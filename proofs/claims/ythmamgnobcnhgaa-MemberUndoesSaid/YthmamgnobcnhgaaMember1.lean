/- What the document's reference functions over lists answer, in plain words. -/
import Derived.Test.YthmamgnobcnhgaaEQuorum
import Derived.Test.YthmamgnobcnhgaaEAgreed
import Derived.Test.YthmamgnobcnhgaaPMx11
import Derived.Test.YthmamgnobcnhgaaPMx14
import Derived.Test.YthmamgnobcnhgaaPMx16
import Derived.Test.YthmamgnobcnhgaaPMx3
namespace Go.Proofs.Ythmamgnobcnhgaa.Pure
open Go.RowKit Go.Proofs.Ythmamgnobcnhgaa.PM Go.Proofs.YthmamgnobcnhgaaW.PrintWords Go.Proofs.YthmamgnobcnhgaaW.PrintLast
theorem In_l0 (l : List Int) (a : Int) (hl : l.length ≤ 4611686018427387904) : ∀ (m k : Nat) (i : Int), 0 ≤ i → i + m = l.length → m < k → tollgateref03_In.l0 k l a i = some ((l.drop i.toNat).contains a)
  | 0, k + 1, i, h0, h1, _ => by
    rw [tollgateref03_In.l0, if_neg (by omega), List.drop_eq_nil_of_le (by omega)]; rfl
  | m + 1, k + 1, i, h0, h1, hk => by
    have hi : i < l.length := by omega
    have ih := In_l0 l a hl m k (i + 1) (by omega) (by omega) (by omega)
    rw [tollgateref03_In.l0, if_pos hi, if_pos h0, wrap64_in (n := i + 1) (by omega), ih, rd_at h0 hi, List.contains_cons]
    by_cases c : rd l i = a
    · rw [if_pos c]; simp [c]
    · rw [if_neg c]
      have : (a == rd l i) = false := by simpa using fun h => c h.symm
      rw [this, Bool.false_or]
theorem In_f (l : List Int) (a : Int) (hl : l.length ≤ 4611686018427387904) {k : Nat} (hk : l.length < k) : tollgateref03_In.f k l a = some (l.contains a) := by
  unfold tollgateref03_In.f
  rw [In_l0 l a hl l.length k 0 (by omega) (by omega) hk]; rfl
theorem Same_l0 (l r : List Int) (he : l.length = r.length) (hl : l.length ≤ 4611686018427387904) : ∀ (m k : Nat) (i : Int), 0 ≤ i → i + m = l.length → m < k → tollgateref03_SameInts.l0 k l r i = some (l.drop i.toNat == r.drop i.toNat)
  | 0, k + 1, i, h0, h1, _ => by
    rw [tollgateref03_SameInts.l0, if_neg (by omega), List.drop_eq_nil_of_le (by omega), List.drop_eq_nil_of_le (by omega)]; rfl
  | m + 1, k + 1, i, h0, h1, hk => by
    have hi : i < l.length := by omega
    have hi' : i < r.length := by omega
    have ih := Same_l0 l r he hl m k (i + 1) (by omega) (by omega) (by omega)
    rw [tollgateref03_SameInts.l0, if_pos hi, if_pos h0, if_pos hi', wrap64_in (n := i + 1) (by omega), ih, rd_at h0 hi, rd_at h0 hi']
    by_cases c : rd l i = rd r i
    · rw [if_pos c, c]; simp
    · rw [if_neg c]; simp [c]
theorem SameInts_f (l r : List Int) (hl : l.length ≤ 4611686018427387904) {k : Nat} (hk : l.length < k) : tollgateref03_SameInts.f k l r = some (l == r) := by
  unfold tollgateref03_SameInts.f
  by_cases he : l.length = r.length
  · rw [if_pos (by omega), Same_l0 l r he hl l.length k 0 (by omega) (by omega) hk]; rfl
  · rw [if_neg (by omega)]
    have : l ≠ r := fun h => he (by rw [h])
    simp [this]
theorem Same_f (a b c d : List Int) (ha : a.length ≤ 4611686018427387904) (hb : b.length ≤ 4611686018427387904) {k : Nat} (hk : a.length < k) (hk2 : b.length < k) : tollgateref03_Same.f k a b c d = some (a == c && b == d) := by
  unfold tollgateref03_Same.f
  rw [SameInts_f a c ha hk]
  simp only [Option.bind_some]
  rw [SameInts_f b d hb hk2]
  cases a == c <;> simp
theorem right_l1 (V l : List Int) (hl : l.length ≤ 4611686018427387904) : ∀ (m k : Nat) (i : Int), 0 ≤ i → i + m = l.length → m < k → 0 ≤ (if i = 0 then 0 else rd l (i - 1)) →
    tollgateref03_Right.l1 k i V l = some (ups (if i = 0 then 0 else rd l (i - 1)) (l.drop i.toNat) && decide (0 < V.length))
  | 0, k + 1, i, h0, h1, _, _ => by
    rw [tollgateref03_Right.l1, if_neg (by omega), List.drop_eq_nil_of_le (by omega), ups, Bool.true_and]
    congr 1; exact decide_eq_decide.2 (by omega)
  | m + 1, k + 1, i, h0, h1, hk, hp => by
    have hi : i < l.length := by omega
    have ih := right_l1 V l hl m k (i + 1) (by omega) (by omega) (by omega)
    rw [if_neg (by omega), show i + 1 - 1 = i by omega] at ih
    rw [tollgateref03_Right.l1, if_pos hi, if_pos h0, rd_at h0 hi, ups]
    by_cases c1 : rd l i < 1
    · rw [if_pos c1]
      have : ¬ ((if i = 0 then 0 else rd l (i - 1)) < rd l i) := by omega
      simp [this]
    · rw [if_neg c1]
      by_cases c2 : rd l i > 9
      · rw [if_pos c2]
        have : ¬ rd l i ≤ 9 := by omega
        simp [this]
      · rw [if_neg c2, wrap64_in (n := i + 1) (by omega)]
        have h9 : rd l i ≤ 9 := by omega
        by_cases c3 : i > 0
        · rw [if_pos c3, wrap64_in (n := i - 1) (by omega), if_pos (by omega), if_pos (by omega), if_neg (show ¬ i = 0 by omega)]
          by_cases c4 : rd l (i - 1) ≥ rd l i
          · rw [if_pos c4]
            have : ¬ rd l (i - 1) < rd l i := by omega
            simp [this]
          · rw [if_neg c4, ih (by omega)]
            have h1 : rd l (i - 1) < rd l i := by omega
            simp [h1, h9]
        · rw [if_neg c3, ih (by omega)]
          have hz : i = 0 := by omega
          have h1 : (0 : Int) < rd l i := by omega
          rw [if_pos hz]
          simp [h1, h9]
theorem right_l0 (l L : List Int) (hl : l.length ≤ 4611686018427387904) (hL : L.length ≤ 4611686018427387904) : ∀ (m k : Nat) (i : Int), 0 ≤ i → i + m = l.length → m + L.length + 1 < k → 0 ≤ (if i = 0 then 0 else rd l (i - 1)) →
    tollgateref03_Right.l0 k i l L = some (ups (if i = 0 then 0 else rd l (i - 1)) (l.drop i.toNat) && !((l.drop i.toNat).any L.contains) && ups 0 L && decide (0 < l.length))
  | 0, k + 1, i, h0, h1, hk, _ => by
    rw [tollgateref03_Right.l0, if_neg (by omega), List.drop_eq_nil_of_le (by omega), right_l1 l L hL L.length k 0 (by omega) (by omega) (by omega) (by simp)]
    simp [ups]
  | m + 1, k + 1, i, h0, h1, hk, hp => by
    have hi : i < l.length := by omega
    have ih := right_l0 l L hl hL m k (i + 1) (by omega) (by omega) (by omega)
    rw [if_neg (by omega), show i + 1 - 1 = i by omega] at ih
    rw [tollgateref03_Right.l0, if_pos hi, if_pos h0, rd_at h0 hi, ups, List.any_cons, In_f L _ hL (by omega)]
    simp only [Option.bind_some]
    by_cases c1 : rd l i < 1
    · rw [if_pos c1]
      have : ¬ ((if i = 0 then 0 else rd l (i - 1)) < rd l i) := by omega
      simp [this]
    · rw [if_neg c1]
      by_cases c2 : rd l i > 9
      · rw [if_pos c2]
        have : ¬ rd l i ≤ 9 := by omega
        simp [this]
      · rw [if_neg c2, wrap64_in (n := i + 1) (by omega)]
        have h9 : rd l i ≤ 9 := by omega
        obtain ⟨b, hb⟩ : ∃ b, L.contains (rd l i) = b := ⟨_, rfl⟩
        rw [hb]
        by_cases c3 : i > 0
        · rw [if_pos c3, wrap64_in (n := i - 1) (by omega), if_pos (by omega), if_pos (by omega), if_neg (show ¬ i = 0 by omega)]
          by_cases c4 : rd l (i - 1) ≥ rd l i
          · rw [if_pos c4]
            have : ¬ rd l (i - 1) < rd l i := by omega
            simp [this]
          · rw [if_neg c4, ih (by omega)]
            have h1 : rd l (i - 1) < rd l i := by omega
            cases b <;> simp [h1, h9]
        · rw [if_neg c3, ih (by omega)]
          have hz : i = 0 := by omega
          have h1 : (0 : Int) < rd l i := by omega
          rw [if_pos hz]
          cases b <;> simp [h1, h9]
theorem any_swap (V L : List Int) : V.any L.contains = L.any V.contains := by
  rw [Bool.eq_iff_iff, List.any_eq_true, List.any_eq_true]
  simp only [List.contains_iff_mem]
  exact ⟨fun ⟨x, h1, h2⟩ => ⟨x, h2, h1⟩, fun ⟨x, h1, h2⟩ => ⟨x, h2, h1⟩⟩
theorem refRight_f (V L : List Int) (hV : V.length ≤ 4611686018427387904) (hL : L.length ≤ 4611686018427387904) {k : Nat} (hk : V.length + L.length + 1 < k) : tollgateref03_Right.f k V L = some (rightB V L) := by
  unfold tollgateref03_Right.f
  rw [right_l0 V L hV hL V.length k 0 (by omega) (by omega) (by omega) (by simp)]
  unfold rightB
  rw [show (fun n => V.contains n) = V.contains from rfl, ← any_swap V L]
  congr 1
  have : decide (0 < V.length) = !(V.length == 0) := by cases V <;> simp
  rw [this]
  simp only [Int.toNat_zero, List.drop_zero, if_true]
  cases ups 0 V <;> cases ups 0 L <;> cases (V.length == 0) <;> simp
/-- How many of V are in Y. -/
def cntIn (V Y : List Int) : Nat := (V.filter fun x => Y.contains x).length
theorem quorum_l0 (V L Y : List Int) (hV : V.length ≤ 2305843009213693952) (hL : L.length ≤ 4611686018427387904) (hY : Y.length ≤ 4611686018427387904) : ∀ (m k : Nat) (i c : Int), 0 ≤ i → i + m = V.length → m + V.length + L.length + Y.length + 2 < k → 0 ≤ c → c + m ≤ V.length →
    tollgateref03_Quorum.l0 k Y c i V L = some (rightB V L && decide (2 * (c + cntIn (V.drop i.toNat) Y) > V.length))
  | 0, k + 1, i, c, h0, h1, hk, hc, hcm => by
    rw [tollgateref03_Quorum.l0, if_neg (by omega), List.drop_eq_nil_of_le (by omega), refRight_f V L (by omega) hL (by omega)]
    simp only [Option.bind_some]
    rw [wrap64_in (n := 2 * c) (by omega)]
    cases rightB V L
    · simp
    · rw [if_pos rfl, Bool.true_and]
      congr 1; exact decide_eq_decide.2 (by simp [cntIn])
  | m + 1, k + 1, i, c, h0, h1, hk, hc, hcm => by
    have hi : i < V.length := by omega
    rw [tollgateref03_Quorum.l0, if_pos hi, if_pos h0, In_f Y _ hY (by omega)]
    simp only [Option.bind_some]
    rw [wrap64_in (n := i + 1) (by omega), wrap64_in (n := c + 1) (by omega), quorum_l0 V L Y hV hL hY m k (i + 1) (c + 1) (by omega) (by omega) (by omega) (by omega) (by omega),
      quorum_l0 V L Y hV hL hY m k (i + 1) c (by omega) (by omega) (by omega) (by omega) (by omega), rd_at h0 hi]
    unfold cntIn
    rw [List.filter_cons]
    cases hb : Y.contains (rd V i)
    · simp
    · rw [if_pos rfl, if_pos rfl, List.length_cons]
      congr 2
      exact decide_eq_decide.2 (by omega)
theorem cnt_both (V Y : List Int) : cntIn V Y + (V.filter fun x => !Y.contains x).length = V.length := by
  unfold cntIn
  induction V with
  | nil => rfl
  | cons x V ih =>
    rw [List.filter_cons, List.filter_cons]
    cases Y.contains x <;> simp at ih ⊢ <;> omega
theorem refQuorum_f (V L Y : List Int) (hV : V.length ≤ 2305843009213693952) (hL : L.length ≤ 4611686018427387904) (hY : Y.length ≤ 4611686018427387904) {k : Nat} (hk : 2 * V.length + L.length + Y.length + 2 < k) : tollgateref03_Quorum.f k V L Y = some (quorumB V L Y) := by
  unfold tollgateref03_Quorum.f
  rw [quorum_l0 V L Y hV hL hY V.length k 0 0 (by omega) (by omega) (by omega) (by omega) (by omega)]
  unfold quorumB
  congr 2
  have := cnt_both V Y
  refine decide_eq_decide.2 ?_
  simp only [Int.toNat_zero, List.drop_zero]
  omega
theorem fuel_up {α : Type} {f : Nat → Option α} (h : ∀ k, LeO (f k) (f (k + 1))) {k0 : Nat} {r : α} (h0 : f k0 = some r) : ∀ k, k0 ≤ k → f k = some r := by
  intro k hk
  induction hk with
  | refl => exact h0
  | step _ ih => exact h _ _ ih
theorem live_q1 : member_Quorum.f [1,2,3] [] [1,3] = some true := by decide +kernel
theorem live_q2 : member_Quorum.f [1,2,3] [] [1,4] = some false := by decide +kernel
theorem live_s1 : sortI [5,7,0] = [0,5,7] := by simp [sortI, List.mergeSort, List.MergeSort.Internal.splitInTwo]
theorem live_m1 : ([1,2,3] : List Int).map (agE [(⟨1, 5⟩ : S33), (⟨2, 7⟩ : S33)]) = [5,7,0] := by decide +kernel
theorem live_r1 : rightB [1,2,3] [] = true := by decide +kernel
theorem live_a1 : member_Agreed.f [1,2,3] [] [(⟨1, 5⟩ : S33), (⟨2, 7⟩ : S33)] = some 5 := by
  unfold member_Agreed.f agreedB
  rw [if_pos (by decide), live_r1, live_m1, live_s1]
  rfl
theorem live_p1 : member_Put.f 64 [1,2,3] [] = some ([3,1,2,3,0], 0) := by decide +kernel
theorem live_p2 : ((strOfNums [3,1,2,3,0]).toList == ([3, 1, 2, 3, 0] : List UInt8)) = true := by decide +kernel
theorem live_f {k : Nat} (hk : 64 ≤ k) : tollgatelaw03_live.f k = some true := by
  unfold tollgatelaw03_live.f
  simp only [Option.bind_some]
  rw [fuel_up (member_Put.mono _ _) live_p1 k hk]
  simp only [Option.bind_some]
  rw [live_q1, live_q2, live_a1]
  simp only [Option.bind_some]
  simp [live_p2]
theorem i64s_of {l : List Int} (h : ∀ y ∈ l, (Lit.int .i64 y).wf = true) : i64s l = true := by
  refine List.all_eq_true.2 fun y hy => ?_
  have := h y hy
  have e1 : IntKind.i64.min = -9223372036854775808 := by decide
  have e2 : IntKind.i64.max = 9223372036854775807 := by decide
  simp only [Lit.wf, e1, e2] at this
  simpa using this
theorem reach8 {n : Nat} (h : n * 8 ≤ reachBytes) : n ≤ 17592186043904 := by
  have : reachBytes = 140737488351232 := rfl
  omega
theorem Quorum_f {V L Y : List Int} (hV : V.length ≤ 140737488355328) (hL : L.length ≤ 140737488355328) (hY : Y.length ≤ 140737488355328) (h : i64s Y = true) : member_Quorum.f V L Y = some (quorumB V L Y) := by
  unfold member_Quorum.f
  rw [if_pos ⟨⟨hV, hL, hY⟩, h⟩]
theorem Copy_f (V L : List Int) (hV : V.length ≤ 17592186043904) (hL : L.length ≤ 17592186043904) : tollgateref03_Copy.f V L = some (V, L) := by
  unfold tollgateref03_Copy.f
  simp
  omega
end Go.Proofs.Ythmamgnobcnhgaa.Pure
