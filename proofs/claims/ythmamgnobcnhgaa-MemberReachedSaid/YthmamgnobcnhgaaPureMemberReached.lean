/- MemberReached: what the law's function answers. -/
import Derived.Test.YthmamgnobcnhgaaMember2
import Derived.Test.YthmamgnobcnhgaaPMx23
import Derived.Test.YthmamgnobcnhgaaKindsM
namespace Go.Proofs.Ythmamgnobcnhgaa.Pure
open Go.RowKit Go.Proofs.Ythmamgnobcnhgaa.PM Go.Proofs.YthmamgnobcnhgaaW.PrintWords Go.Proofs.YthmamgnobcnhgaaW.PrintLast
/-- The first i nodes are each another. -/
def Dist (l : List S33) (i : Int) : Prop := ∀ a b : Int, 0 ≤ a → a < b → b < i → (rd_T33 l b).f0 ≠ (rd_T33 l a).f0
theorem agG_ge (n x : Int) (hx : 0 < x) : ∀ l : List S33, (l.map (·.f0)).Nodup → (x ≤ agG n l ↔ ∃ y ∈ l, y.f0 = n ∧ x ≤ y.f1)
  | [], _ => by simp [agG]; omega
  | y :: l, h => by
    rw [List.map_cons, List.nodup_cons] at h
    rw [agG]
    by_cases c : y.f0 = n
    · rw [if_pos c]
      constructor
      · intro h1; exact ⟨y, .head _, c, by omega⟩
      · rintro ⟨z, hz, h1, h2⟩
        rcases List.mem_cons.1 hz with rfl | hz
        · omega
        · exact absurd (List.mem_map.2 ⟨z, hz, by rw [h1, c]⟩) h.1
    · rw [if_neg c, agG_ge n x hx l h.2]
      constructor
      · rintro ⟨z, hz, h1, h2⟩; exact ⟨z, .tail _ hz, h1, h2⟩
      · rintro ⟨z, hz, h1, h2⟩
        rcases List.mem_cons.1 hz with rfl | hz
        · exact absurd h1 c
        · exact ⟨z, hz, h1, h2⟩
theorem Dist_nodup {l : List S33} (h : Dist l l.length) : (l.map (·.f0)).Nodup := by
  rw [List.Nodup, List.pairwise_iff_getElem]
  intro i j hi hj hij e
  have hi' : i < l.length := by simpa using hi
  have hj' : j < l.length := by simpa using hj
  have := h (i : Int) (j : Int) (by omega) (by omega) (by omega)
  unfold rd_T33 at this
  rw [Int.toNat_natCast, Int.toNat_natCast, List.getD_eq_getElem?_getD, List.getD_eq_getElem?_getD, List.getElem?_eq_getElem hi', List.getElem?_eq_getElem hj'] at this
  simp only [List.getElem_map] at e
  exact this e.symm
/-- The nodes of the entries that are x or more. -/
def atLeast (l : List S33) (x : Int) : List Int := (l.filter fun y => decide (x ≤ y.f1)).map (·.f0)
theorem atLeast_mem (l : List S33) (x n : Int) : n ∈ atLeast l x ↔ ∃ y ∈ l, y.f0 = n ∧ x ≤ y.f1 := by
  unfold atLeast
  rw [List.mem_map]
  constructor
  · rintro ⟨y, hy, rfl⟩
    have := List.mem_filter.1 hy
    exact ⟨y, this.1, rfl, by simpa using this.2⟩
  · rintro ⟨y, hy, rfl, h⟩
    exact ⟨y, List.mem_filter.2 ⟨hy, by simpa using h⟩, rfl⟩
theorem quorum_atLeast (V L : List Int) (l : List S33) (hl : l.length ≤ 4611686018427387904) (x : Int) (hx : 0 < x) (hR : rightB V L = true) (hd : (l.map (·.f0)).Nodup) :
    quorumB V L (atLeast l x) = decide (2 * cge (V.map (agE l)) x > (V.map (agE l)).length) := by
  unfold quorumB
  rw [hR, Bool.true_and, List.length_map]
  have h1 : cge (V.map (agE l)) x = cntIn V (atLeast l x) := by
    unfold cge cntIn
    rw [List.filter_map, List.length_map]
    congr 1
    refine List.filter_congr fun n _ => ?_
    show decide (x ≤ agE l n) = (atLeast l x).contains n
    rw [Bool.eq_iff_iff, List.contains_iff_mem, atLeast_mem, ← agG_ge n x hx l hd, ← agE_G l n hl]
    simp
  have := cnt_both V (atLeast l x)
  rw [h1]
  exact decide_eq_decide.2 (by omega)
theorem rdT_mem {l : List S33} {i : Int} (h0 : 0 ≤ i) (h1 : i < l.length) : rd_T33 l i ∈ l := by
  have h : i.toNat < l.length := by omega
  unfold rd_T33
  rw [List.getD_eq_getElem?_getD, List.getElem?_eq_getElem h]
  exact List.getElem_mem h
theorem atLeast_app (a b : List S33) (x : Int) : atLeast (a ++ b) x = atLeast a x ++ atLeast b x := by unfold atLeast; rw [List.filter_append, List.map_append]
theorem atLeast_len (a : List S33) (x : Int) : (atLeast a x).length ≤ a.length := by unfold atLeast; rw [List.length_map]; exact List.length_filter_le _ _
theorem take_snoc {l : List S33} {i : Int} (h0 : 0 ≤ i) (h1 : i < l.length) : l.take (i + 1).toNat = l.take i.toNat ++ [rd_T33 l i] := by
  have h : i.toNat < l.length := by omega
  unfold rd_T33
  rw [show (i + 1).toNat = i.toNat + 1 by omega, List.take_succ_eq_append_getElem h, List.getD_eq_getElem?_getD, List.getElem?_eq_getElem h]
  rfl
theorem atLeast_one (y : S33) (x : Int) : atLeast [y] x = if x ≤ y.f1 then [y.f0] else [] := by
  unfold atLeast
  rw [List.filter_cons]
  by_cases h : x ≤ y.f1 <;> simp [h]
theorem reached_l2 (l : List S33) (V L : List Int) (t : Int) (hl : l.length ≤ 8796093021952) (hV : V.length ≤ 17592186043904) (hL : L.length ≤ 17592186043904) (hg : ∀ y ∈ l, Good33 y) (ht : 0 ≤ t)
    (hQ8 : 0 < t → quorumB V L (atLeast l t) = true) (hQ9 : quorumB V L (atLeast l (t + 1)) = false) : ∀ (m : Nat) (i : Int), 0 ≤ i → i + m = l.length →
    ∃ k, tollgatelaw03_MemberReached.l2 k l t (atLeast (l.take i.toNat) t) (atLeast (l.take i.toNat) (t + 1)) i V L = some true
  | 0, i, h0, h1 => by
    refine ⟨65, ?_⟩
    have hi : ∀ x, i64s (atLeast l x) = true := fun x => by
      refine i64s_of fun n hn => ?_
      obtain ⟨y, hy, rfl, _⟩ := (atLeast_mem l x n).1 hn
      exact (hg y hy).1
    have hln : ∀ x, (atLeast l x).length ≤ 140737488355328 := fun x => by have := atLeast_len l x; omega
    rw [tollgatelaw03_MemberReached.l2, if_neg (by omega), List.take_of_length_le (by omega), live_f (by omega), Quorum_f (by omega) (by omega) (hln _) (hi _), Quorum_f (by omega) (by omega) (hln _) (hi _), hQ9]
    simp only [Option.bind_some]
    rw [if_pos trivial, if_pos ht]
    by_cases hz : t = 0
    · rw [if_pos hz]; rfl
    · rw [if_neg hz, hQ8 (by omega)]; rfl
  | m + 1, i, h0, h1 => by
    have hi : i < l.length := by omega
    obtain ⟨k, ih⟩ := reached_l2 l V L t hl hV hL hg ht hQ8 hQ9 m (i + 1) (by omega) (by omega)
    refine ⟨k + 1, ?_⟩
    have h8 := atLeast_len (l.take i.toNat) t
    have h9 := atLeast_len (l.take i.toNat) (t + 1)
    have h7 : (l.take i.toNat).length ≤ l.length := by rw [List.length_take]; omega
    rw [take_snoc h0 hi, atLeast_app, atLeast_app, atLeast_one, atLeast_one] at ih
    rw [tollgatelaw03_MemberReached.l2, if_pos hi, if_pos h0, wrap64_in (n := i + 1) (by omega)]
    by_cases c1 : (rd_T33 l i).f1 ≥ t
    · rw [if_pos c1, if_pos (by omega)]
      rw [if_pos (show t ≤ (rd_T33 l i).f1 from c1)] at ih
      simp only [Option.bind_some]
      by_cases c2 : (rd_T33 l i).f1 > t
      · rw [if_pos c2, if_pos (by omega)]
        rw [if_pos (show t + 1 ≤ (rd_T33 l i).f1 by omega)] at ih
        exact ih
      · rw [if_neg c2]
        rw [if_neg (show ¬ t + 1 ≤ (rd_T33 l i).f1 by omega), List.append_nil] at ih
        exact ih
    · rw [if_neg c1, if_neg (by omega)]
      rw [if_neg (show ¬ t ≤ (rd_T33 l i).f1 by omega), if_neg (show ¬ t + 1 ≤ (rd_T33 l i).f1 by omega), List.append_nil, List.append_nil] at ih
      exact ih
theorem reached_l1 (l : List S33) (V L : List Int) (t : Int) (hl : l.length ≤ 8796093021952) (i : Int) (hi0 : 0 ≤ i) (hi : i < l.length)
    (hn : (∀ a, 0 ≤ a → a < i → (rd_T33 l i).f0 ≠ (rd_T33 l a).f0) → ∃ k, tollgatelaw03_MemberReached.l0 k l t (i + 1) V L = some true) : ∀ (m : Nat) (j : Int), 0 ≤ j → j + m = i → (∀ a, 0 ≤ a → a < j → (rd_T33 l i).f0 ≠ (rd_T33 l a).f0) →
    ∃ k, tollgatelaw03_MemberReached.l1 k l t i j V L = some true
  | 0, j, h0, h1, hd => by
    obtain ⟨k, hk⟩ := hn (fun a ha hb => hd a ha (by omega))
    refine ⟨k + 1, ?_⟩
    rw [tollgatelaw03_MemberReached.l1, if_neg (by omega), wrap64_in (n := i + 1) (by omega)]
    exact hk
  | m + 1, j, h0, h1, hd => by
    by_cases c : (rd_T33 l i).f0 = (rd_T33 l j).f0
    · refine ⟨65, ?_⟩
      rw [tollgatelaw03_MemberReached.l1, if_pos (by omega), if_pos hi0, if_pos hi, if_pos h0, if_pos (by omega), if_pos c, live_f (by omega)]; rfl
    · obtain ⟨k, ih⟩ := reached_l1 l V L t hl i hi0 hi hn m (j + 1) (by omega) (by omega) (fun a ha hb => by
        by_cases e : a = j
        · subst e; exact c
        · exact hd a ha (by omega))
      refine ⟨k + 1, ?_⟩
      rw [tollgatelaw03_MemberReached.l1, if_pos (by omega), if_pos hi0, if_pos hi, if_pos h0, if_pos (by omega), if_neg c, wrap64_in (n := j + 1) (by omega)]
      exact ih
theorem reached_l0' (l : List S33) (V L : List Int) (t : Int) (hl : l.length ≤ 8796093021952) (h2 : Dist l l.length → ∃ k, tollgatelaw03_MemberReached.l2 k l t [] [] 0 V L = some true) : ∀ (m : Nat) (i : Int), 0 ≤ i → i + m = l.length → Dist l i →
    ∃ k, tollgatelaw03_MemberReached.l0 k l t i V L = some true
  | 0, i, h0, h1, hd => by
    obtain ⟨k, hk⟩ := h2 (by rw [show (l.length : Int) = i by omega]; exact hd)
    refine ⟨k + 1, ?_⟩
    rw [tollgatelaw03_MemberReached.l0, if_neg (by omega)]
    exact hk
  | m + 1, i, h0, h1, hd => by
    have hi : i < l.length := by omega
    obtain ⟨k, hk⟩ := reached_l1 l V L t hl i h0 hi (fun hn => reached_l0' l V L t hl h2 m (i + 1) (by omega) (by omega) (fun a b ha hab hb => by
      by_cases e : b = i
      · subst e; exact hn a ha hab
      · exact hd a b ha hab (by omega))) i.toNat 0 (by omega) (by omega) (fun a ha hb => by omega)
    refine ⟨k + 1, ?_⟩
    rw [tollgatelaw03_MemberReached.l0, if_pos hi]
    exact hk
theorem MemberReached_pure (x0 : S24) (x1 : List S33) (g0 : Good24 x0) (g1 : x1.length * 16 ≤ reachBytes ∧ x1.length ≤ maxLen ∧ ∀ y ∈ x1, Good33 y) : ∃ k, tollgatelaw03_MemberReached.f k x0.f0 x0.f1 x1 = some true := by
  obtain ⟨V, L⟩ := x0
  have hV := reach8 g0.1.1
  have hL := reach8 g0.2.1
  have hl : x1.length ≤ 8796093021952 := by have h := g1.1; have : reachBytes = 140737488351232 := rfl; omega
  simp only at hV hL
  have hA : member_Agreed.f V L x1 = some (agreedB V L x1) := by unfold member_Agreed.f; rw [if_pos ⟨by omega, by omega, by omega⟩]
  have hRf : member_Right.f V L = some (rightB V L) := by unfold member_Right.f; rw [if_pos ⟨by omega, by omega⟩]
  unfold tollgatelaw03_MemberReached.f
  rw [hA, hRf]
  simp only [Option.bind_some]
  cases hR : rightB V L
  · refine ⟨64, ?_⟩
    rw [live_f (by omega)]
    unfold agreedB
    rw [hR]; rfl
  · have hpos : 0 < V.length := by
      have hup := hR
      unfold rightB at hup
      simp only [Bool.and_eq_true] at hup
      have := hup.1.1.1
      simp at this
      exact List.length_pos_iff.2 this
    obtain ⟨hmem, hiff⟩ := median_iff (V.map (agE x1)) (by simpa using hpos)
    have ha : agreedB V L x1 = (sortI (V.map (agE x1))).getD (((V.map (agE x1)).length - 1) / 2) 0 := by unfold agreedB; rw [hR, if_pos rfl, List.length_map]
    rw [← ha] at hmem hiff
    obtain ⟨t, ht⟩ : ∃ t, agreedB V L x1 = t := ⟨_, rfl⟩
    rw [ht] at hmem hiff ⊢
    have ht0 : 0 ≤ t := by obtain ⟨n, _, hn⟩ := List.mem_map.1 hmem; rw [← hn]; exact agE_pos x1 n
    show ∃ k, tollgatelaw03_MemberReached.l0 k x1 t 0 V L = some true
    refine reached_l0' x1 V L t hl (fun hd => ?_) x1.length 0 (by omega) (by omega) (fun a b ha hab hb => by omega)
    have hnd := Dist_nodup hd
    refine reached_l2 x1 V L t hl hV hL g1.2.2 ht0 (fun htp => ?_) ?_ x1.length 0 (by omega) (by omega)
    · rw [quorum_atLeast V L x1 (by omega) t htp hR hnd]
      simpa using (hiff t).2 (Int.le_refl _)
    · rw [quorum_atLeast V L x1 (by omega) (t + 1) (by omega) hR hnd]
      have : ¬ 2 * cge (V.map (agE x1)) (t + 1) > (V.map (agE x1)).length := fun h => by have := (hiff (t + 1)).1 h; omega
      simpa using this
end Go.Proofs.Ythmamgnobcnhgaa.Pure
