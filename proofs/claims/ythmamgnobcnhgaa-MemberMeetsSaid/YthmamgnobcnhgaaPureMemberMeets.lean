/- MemberMeets: what the law's function answers. -/
import Derived.Test.YthmamgnobcnhgaaMember9
import Derived.Test.YthmamgnobcnhgaaPMx44
import Derived.Test.YthmamgnobcnhgaaKindsM
namespace Go.Proofs.Ythmamgnobcnhgaa.Pure
open Go.RowKit Go.Proofs.Ythmamgnobcnhgaa.PM Go.Proofs.YthmamgnobcnhgaaW.PrintWords Go.Proofs.YthmamgnobcnhgaaW.PrintLast
theorem pigeon (Y Z : List Int) : ∀ C : List Int, cntIn C Y + cntIn C Z > C.length → ∃ x ∈ C, x ∈ Y ∧ x ∈ Z
  | [], h => by simp [cntIn] at h
  | x :: C, h => by
    by_cases hb : x ∈ Y ∧ x ∈ Z
    · exact ⟨x, .head _, hb⟩
    · have : cntIn C Y + cntIn C Z > C.length := by
        unfold cntIn at h ⊢
        rw [List.filter_cons, List.filter_cons, List.length_cons] at h
        by_cases hy : x ∈ Y
        · have hz : ¬ x ∈ Z := fun hz => hb ⟨hy, hz⟩
          rw [if_pos (List.contains_iff_mem.2 hy), if_neg (by rw [List.contains_iff_mem]; exact hz), List.length_cons] at h
          omega
        · rw [if_neg (by rw [List.contains_iff_mem]; exact hy)] at h
          split at h
          · rw [List.length_cons] at h; omega
          · omega
      obtain ⟨y, hy, hyz⟩ := pigeon Y Z C this
      exact ⟨y, .tail _ hy, hyz⟩
theorem less_none {V : List Int} {n : Int} (h : ¬ n ∈ V) : lessB V n = V := by
  unfold lessB
  rw [List.filter_eq_self]
  intro x hx
  have : x ≠ n := fun e => h (e ▸ hx)
  simpa using this
theorem less_cnt (Y : List Int) (n : Int) : ∀ V : List Int, V.Nodup → n ∈ V → V.length = (lessB V n).length + 1 ∧ cntIn V Y ≤ cntIn (lessB V n) Y + 1
  | [], _, h => by cases h
  | x :: V, hn, h => by
    obtain ⟨h1, h2⟩ := List.nodup_cons.1 hn
    by_cases hx : x = n
    · subst hx
      have e : lessB (x :: V) x = V := by
        have := less_none h1
        unfold lessB at this ⊢
        rw [List.filter_cons, if_neg (by simp), this]
      rw [e]
      refine ⟨rfl, ?_⟩
      unfold cntIn
      rw [List.filter_cons]
      split
      · rw [List.length_cons]; omega
      · omega
    · have hm : n ∈ V := by rcases List.mem_cons.1 h with e | e; exact absurd e.symm hx; exact e
      obtain ⟨a, b⟩ := less_cnt Y n V h2 hm
      have e : lessB (x :: V) n = x :: lessB V n := by
        unfold lessB
        rw [List.filter_cons, if_pos (by simpa using hx)]
      rw [e, List.length_cons, List.length_cons]
      refine ⟨by omega, ?_⟩
      unfold cntIn at b ⊢
      rw [List.filter_cons, List.filter_cons]
      split
      · rw [List.length_cons, List.length_cons]; omega
      · exact b
theorem cntIn_perm {A B : List Int} (h : A.Perm B) (Y : List Int) : cntIn A Y = cntIn B Y := (h.filter _).length_eq
theorem quorum_cnt {V L Y : List Int} (h : quorumB V L Y = true) : rightB V L = true ∧ 2 * cntIn V Y > V.length := by
  unfold quorumB at h
  simp only [Bool.and_eq_true, decide_eq_true_eq] at h
  have := cnt_both V Y
  exact ⟨h.1, by omega⟩
theorem meets_l0 (V L V' L' Y Z : List Int) (hV : V.length ≤ 17592186043904) (hV' : V'.length ≤ 100) (hL' : L'.length ≤ 100) (hY : Y.length ≤ 17592186043904) (hZ : Z.length ≤ 17592186043904) (hR : rightB V' L' = true) : ∀ (m k : Nat) (i : Int), 0 ≤ i → i + m = V.length → m + Y.length + Z.length + 100 < k →
    (∃ x ∈ V.drop i.toNat, x ∈ V' ∧ x ∈ Y ∧ x ∈ Z) → tollgatelaw03_MemberMeets.l0 k Y Z i V L V' L' = some true
  | 0, k + 1, i, h0, h1, hk, hx => by
    rw [List.drop_eq_nil_of_le (by omega)] at hx
    obtain ⟨x, hx, _⟩ := hx
    cases hx
  | m + 1, k + 1, i, h0, h1, hk, hx => by
    have hi : i < V.length := by omega
    rw [tollgatelaw03_MemberMeets.l0, if_pos hi, if_pos h0]
    unfold member_Voter.f
    rw [Right_f (by omega) (by omega), hR]
    simp only [Option.bind_some, slices_Contains_int_int.f]
    rw [In_f Y _ (by omega) (by omega), In_f Z _ (by omega) (by omega), live_f (by omega), wrap64_in (n := i + 1) (by omega)]
    simp only [Option.bind_some, if_true]
    rw [rd_at h0 hi] at hx
    obtain ⟨x, hxm, hx1, hx2, hx3⟩ := hx
    have ih := meets_l0 V L V' L' Y Z hV hV' hL' hY hZ hR m k (i + 1) (by omega) (by omega) (by omega)
    by_cases hh : rd V i ∈ V' ∧ rd V i ∈ Y ∧ rd V i ∈ Z
    · rw [if_pos (List.contains_iff_mem.2 hh.1), if_pos (List.contains_iff_mem.2 hh.2.1), if_pos (List.contains_iff_mem.2 hh.2.2)]
    · have hx4 : x ∈ V.drop (i + 1).toNat := by
        rcases List.mem_cons.1 hxm with e | e
        · exact absurd ⟨e ▸ hx1, e ▸ hx2, e ▸ hx3⟩ hh
        · exact e
      have := ih ⟨x, hx4, hx1, hx2, hx3⟩
      rw [this]
      repeat' split
      all_goals rfl
theorem meets_some {V L Y Z : List Int} {d n : Int} (he : errB V L d n = 0) (q1 : quorumB V L Y = true) (q2 : quorumB (outB V L d n).1 (outB V L d n).2 Z = true) : ∃ x ∈ V, x ∈ (outB V L d n).1 ∧ x ∈ Y ∧ x ∈ Z := by
  obtain ⟨r1, c1⟩ := quorum_cnt q1
  obtain ⟨r2, c2⟩ := quorum_cnt q2
  obtain ⟨u1, _, _, _, _, _, _, h8⟩ := right_parts r1
  have hnd := ups_nodup V 0 u1
  by_cases h2 : d = 2
  · have hn : ¬ n ∈ V := by
      intro hv
      unfold errB at he
      rw [r1, (errB_zero (V := V) (L := L) (d := d) (n := n) (by unfold errB; rw [r1]; exact he)).2] at he
      subst h2
      have hl : L.contains n = false := by
        rw [Bool.eq_false_iff]
        intro h
        exact h8 n (List.contains_iff_mem.1 h) hv
      rw [hl] at he
      simp at he
    have ho : (outB V L d n).1 = sortI (V ++ [n]) := by
      unfold outB
      rw [if_neg (by omega), if_pos h2, less_none hn]
    rw [ho] at c2 ⊢
    have hp : (sortI (V ++ [n])).Perm (V ++ [n]) := List.mergeSort_perm _ _
    rw [cntIn_perm hp, sortI_length, List.length_append, List.length_singleton] at c2
    have hb : cntIn (V ++ [n]) Z ≤ cntIn V Z + 1 := by
      unfold cntIn
      rw [List.filter_append, List.length_append]
      have := List.length_filter_le (fun x => Z.contains x) [n]
      simp only [List.length_singleton] at this
      omega
    obtain ⟨x, hx, hxy⟩ := pigeon Y Z V (by omega)
    exact ⟨x, hx, (sortI_mem _ x).2 (by simp [hx]), hxy⟩
  · have ho : (outB V L d n).1 = lessB V n := by
      unfold outB
      split
      · rfl
      · rfl
    rw [ho] at c2 ⊢
    by_cases hn : n ∈ V
    · obtain ⟨a, b⟩ := less_cnt Y n V hnd hn
      obtain ⟨x, hx, hxy⟩ := pigeon Y Z (lessB V n) (by omega)
      exact ⟨x, ((lessB_mem V n x).1 hx).1, hx, hxy⟩
    · rw [less_none hn] at c2 ⊢
      obtain ⟨x, hx, hxy⟩ := pigeon Y Z V (by omega)
      exact ⟨x, hx, hx, hxy⟩
theorem MemberMeets_pure (x0 : S24) (x1 : S55) (x2 : S66) (g0 : Good24 x0) (_ : Good55 x1) (g2 : Good66 x2) : ∃ k, tollgatelaw03_MemberMeets.f k x0.f0 x0.f1 x1.f0 x1.f1 x2.f0 x2.f1 = some true := by
  obtain ⟨V, L⟩ := x0
  obtain ⟨d, n⟩ := x1
  obtain ⟨Y, Z⟩ := x2
  have hV := reach8 g0.1.1
  have hL := reach8 g0.2.1
  have hY := reach8 g2.1.1
  have hZ := reach8 g2.2.1
  have iY := i64s_of g2.1.2.2
  have iZ := i64s_of g2.2.2.2
  simp only at hV hL hY hZ iY iZ
  refine ⟨V.length + Y.length + Z.length + 400 + 1, ?_⟩
  show tollgatelaw03_MemberMeets.f (V.length + Y.length + Z.length + 400 + 1) V L d n Y Z = some true
  have hl := applyB_len V L d n
  have hj : ∀ A B, tollgatelaw03_MemberMeets.j0 (V.length + Y.length + Z.length + 400 + 1) Y Z true V L A B = some true := fun A B => by
    rw [tollgatelaw03_MemberMeets.j0, if_pos rfl, live_f (by omega)]; rfl
  unfold tollgatelaw03_MemberMeets.f
  rw [Apply_f V L hV hL d n (by omega)]
  simp only [Option.bind_some]
  rw [Quorum_f (by omega) (by omega) (by omega) iY, hj, Quorum_f (by omega) (by omega) (by omega) iZ]
  simp only [Option.bind_some]
  by_cases he : (applyB V L d n).2.2 = 0
  · rw [if_pos he]
    cases q1 : quorumB V L Y
    · simp
    · rw [if_pos rfl]
      cases q2 : quorumB (applyB V L d n).1 (applyB V L d n).2.1 Z
      · exact hj _ _
      · have e0 : errB V L d n = 0 := by
          unfold applyB at he
          split at he
          · assumption
          · exact he
        have ea : applyB V L d n = ((outB V L d n).1, (outB V L d n).2, 0) := by unfold applyB; rw [if_pos e0]
        rw [ea] at q2 hl ⊢
        simp only at q2 hl ⊢
        rw [tollgatelaw03_MemberMeets.j0, if_neg (by decide)]
        exact meets_l0 V L _ _ Y Z hV (by omega) (by omega) hY hZ (quorum_cnt q2).1 V.length _ 0 (by omega) (by omega) (by omega) (meets_some e0 q1 q2)
  · rw [if_neg he]
end Go.Proofs.Ythmamgnobcnhgaa.Pure
