/- What a change makes of members. -/
import Derived.Test.YthmamgnobcnhgaaMember8
import Derived.Test.YthmamgnobcnhgaaEWith
import Derived.Test.YthmamgnobcnhgaaPMx40
import Derived.Test.YthmamgnobcnhgaaPMx41
namespace Go.Proofs.Ythmamgnobcnhgaa.Pure
open Go.RowKit Go.Proofs.Ythmamgnobcnhgaa.PM Go.Proofs.YthmamgnobcnhgaaW.PrintWords Go.Proofs.YthmamgnobcnhgaaW.PrintLast
/-- What the change leaves: voters, learners. -/
def outB (V L : List Int) (d n : Int) : List Int × List Int :=
  if d = 1 ∨ d = 3 then (lessB V n, sortI (lessB L n ++ [n])) else if d = 2 then (sortI (lessB V n ++ [n]), lessB L n) else (lessB V n, lessB L n)
/-- What it is refused with, or 0. -/
def errB (V L : List Int) (d n : Int) : Int :=
  if (rightB V L && validB d n) = false then 2 else
  if d = 1 ∧ (V.contains n || L.contains n) = true then 7 else
  if (d = 2 ∧ L.contains n = false) ∨ (d = 3 ∧ V.contains n = false) ∨ (d = 4 ∧ V.contains n = false ∧ L.contains n = false) then 8 else
  if (V.contains n && (V.length : Int) == 1) = true ∧ (d = 3 ∨ d = 4) then 6 else 0
/-- member.Apply -/
def applyB (V L : List Int) (d n : Int) : List Int × List Int × Int := if errB V L d n = 0 then ((outB V L d n).1, (outB V L d n).2, 0) else ([], [], errB V L d n)
theorem without_f {l : List Int} (hl : l.length ≤ 17592186044416) (n : Int) : member_without.f l n = some (lessB l n) := by unfold member_without.f; rw [if_pos hl]
theorem with_f {l : List Int} (hl : l.length < 17592186044416) (n : Int) : member_with.f l n = some (sortI (l ++ [n])) := by unfold member_with.f; rw [if_pos hl]
theorem lessB_len (l : List Int) (n : Int) : (lessB l n).length ≤ l.length := List.length_filter_le _ _
theorem apply_j5 (V L : List Int) (hV : V.length ≤ 17592186043904) (hL : L.length ≤ 17592186043904) (d n : Int) (k : Nat) : member_Apply.j5 (k + 2) V L d n = some ((outB V L d n).1, (outB V L d n).2, 0) := by
  have l1 := lessB_len V n
  have l2 := lessB_len L n
  rw [member_Apply.j5, without_f (by omega), without_f (by omega)]
  simp only [Option.bind_some]
  unfold outB
  by_cases h1 : d = 1
  · rw [if_pos h1, if_pos (.inl h1), member_Apply.j6, if_pos (by simpa using h1), with_f (by omega)]; rfl
  · rw [if_neg h1, member_Apply.j6]
    by_cases h3 : d = 3
    · have e3 : (d == 3) = true := by simpa using h3
      rw [if_pos e3, with_f (by omega), if_pos (show d = 1 ∨ d = 3 from .inr h3)]; rfl
    · have e3 : ¬ (d == 3) = true := by simpa using h3
      rw [if_neg e3, if_neg (show ¬ (d = 1 ∨ d = 3) by omega)]
      by_cases h2 : d = 2
      · rw [if_pos h2, if_pos h2, with_f (by omega)]; rfl
      · rw [if_neg h2, if_neg h2]
theorem Apply_f (V L : List Int) (hV : V.length ≤ 17592186043904) (hL : L.length ≤ 17592186043904) (d n : Int) {k : Nat} (hk : 20 < k) : member_Apply.f k V L d n = some (applyB V L d n) := by
  obtain ⟨k, rfl⟩ : ∃ j, k = j + 7 := ⟨k - 7, by omega⟩
  unfold member_Apply.f applyB errB
  rw [Right_f (by omega) (by omega), valid_f]
  simp only [Option.bind_some]
  have hj5 := apply_j5 V L hV hL d n k
  cases hR : rightB V L
  · rw [if_neg (by decide), member_Apply.j0, if_pos rfl]; simp
  · rw [if_pos rfl]
    cases hv : validB d n
    · rw [member_Apply.j0, if_pos (by decide)]; simp
    · have hp := validB_parts hv
      rw [member_Apply.j0, if_neg (by decide)]
      simp only [Option.bind_some, slices_Contains_int_int.f]
      obtain ⟨a, ha⟩ : ∃ a, V.contains n = a := ⟨_, rfl⟩
      obtain ⟨b, hb⟩ : ∃ b, L.contains n = b := ⟨_, rfl⟩
      obtain ⟨c, hc⟩ : ∃ c, ((V.length : Int) == 1) = c := ⟨_, rfl⟩
      rw [ha, hb, hc]
      have hd : d = 1 ∨ d = 2 ∨ d = 3 ∨ d = 4 := by omega
      rcases hd with rfl | rfl | rfl | rfl <;> cases a <;> cases b <;> cases c <;> simp [member_Apply.j1, member_Apply.j2, member_Apply.j3, member_Apply.j4, hj5]
theorem lessB_mem (l : List Int) (n x : Int) : x ∈ lessB l n ↔ (x ∈ l ∧ x ≠ n) := by
  unfold lessB
  rw [List.mem_filter]
  simp
theorem lessB_asc {l : List Int} (h : l.Pairwise (fun a b => a < b)) (n : Int) : (lessB l n).Pairwise (fun a b => a < b) := h.filter _
theorem lessB_nodes {l : List Int} (h : l.Pairwise (fun a b => a < b)) (h9 : ∀ x ∈ l, 1 ≤ x ∧ x ≤ 9) (n : Int) : lessB l n = nodes (fun x => if x = n then false else l.contains x) 9 1 := by
  refine asc_ext _ _ (lessB_asc h n) (nodes_asc _ _ _) (fun x => ?_)
  rw [lessB_mem, nodes_mem]
  by_cases hx : x = n
  · simp [hx]
  · rw [if_neg hx, List.contains_iff_mem]
    constructor
    · rintro ⟨a, _⟩; have := h9 x a; exact ⟨by omega, by omega, a⟩
    · rintro ⟨_, _, a⟩; exact ⟨a, hx⟩
theorem withB_nodup {l : List Int} (h : l.Pairwise (fun a b => a < b)) (n : Int) : (lessB l n ++ [n]).Nodup :=
  List.nodup_append.2 ⟨asc_nodup (lessB_asc h n), by simp, fun a ha b hb e => by rw [List.mem_singleton] at hb; exact ((lessB_mem l n a).1 ha).2 (e.trans hb)⟩
theorem withB_nodes {l : List Int} (h : l.Pairwise (fun a b => a < b)) (h9 : ∀ x ∈ l, 1 ≤ x ∧ x ≤ 9) (n : Int) (hn : 1 ≤ n ∧ n ≤ 9) : sortI (lessB l n ++ [n]) = nodes (fun x => if x = n then true else l.contains x) 9 1 := by
  refine asc_ext _ _ (sortI_asc (withB_nodup h n)) (nodes_asc _ _ _) (fun x => ?_)
  rw [sortI_mem, List.mem_append, lessB_mem, nodes_mem, List.mem_singleton]
  by_cases hx : x = n
  · subst hx; simp; omega
  · rw [if_neg hx, List.contains_iff_mem]
    constructor
    · rintro (⟨a, _⟩ | a)
      · have := h9 x a; exact ⟨by omega, by omega, a⟩
      · exact absurd a hx
    · rintro ⟨_, _, a⟩; exact .inl ⟨a, hx⟩
theorem rapply_l0 (V L : List Int) (hV : V.length ≤ 17592186043904) (hL : L.length ≤ 17592186043904) (d n : Int) (u v : Bool) : ∀ (m k : Nat) (i : Int) (a b : List Int), i + m = 10 → m ≤ 9 → 2 * m + V.length + L.length + 5 < k → a.length + m ≤ 100 → b.length + m ≤ 100 →
    tollgateref03_Apply.l0 k u v i V L d n a b = some (a ++ nodes (fun x => if x = n then u else V.contains x) m i, b ++ nodes (fun x => if x = n then v else L.contains x) m i, 0)
  | 0, k + 1, i, a, b, h1, hm, hk, ha, hb => by
    rw [tollgateref03_Apply.l0, if_neg (by omega), nodes, nodes, List.append_nil, List.append_nil]
  | m + 1, k + 1, i, a, b, h1, hm, hk, ha, hb => by
    obtain ⟨j, rfl⟩ : ∃ j, k = j + 1 := ⟨k - 1, by omega⟩
    have hw : wrap64 (i + 1) = i + 1 := wrap64_in (by omega)
    have ih := fun a b ha hb => rapply_l0 V L hV hL d n u v m j (i + 1) a b (by omega) (by omega) (by omega) ha hb
    have hj5 : ∀ t, tollgateref03_Apply.j5 (j + 1) u v i t V L d n a b = some ((if t then a ++ [i] else a) ++ nodes (fun x => if x = n then u else V.contains x) m (i + 1), (if (if i = n then v else L.contains i) then b ++ [i] else b) ++ nodes (fun x => if x = n then v else L.contains x) m (i + 1), 0) := by
      intro t
      rw [tollgateref03_Apply.j5, hw, In_f L i (by omega) (by omega)]
      simp only [Option.bind_some]
      rw [if_pos (show a.length < 17592186044416 by omega), if_pos (show b.length < 17592186044416 by omega)]
      rw [ih a b (by omega) (by omega), ih (a ++ [i]) b (by simp; omega) (by omega), ih a (b ++ [i]) (by omega) (by simp; omega), ih (a ++ [i]) (b ++ [i]) (by simp; omega) (by simp; omega)]
      have hbl : b.length < 17592186044416 := by omega
      cases t <;> by_cases hn : i = n <;> cases v <;> cases L.contains i <;> simp [hn, hbl]
    rw [tollgateref03_Apply.l0, if_pos (by omega), In_f V i (by omega) (by omega), hj5, hj5]
    simp only [Option.bind_some]
    rw [hj5, nodes, nodes]
    by_cases hn : i = n
    · rw [if_pos hn, if_pos hn, if_pos hn]
      cases u <;> cases v <;> simp
    · rw [if_neg hn, if_neg hn, if_neg hn]
      cases V.contains i <;> cases L.contains i <;> simp
theorem refApply_f (V L : List Int) (hV : V.length ≤ 17592186043904) (hL : L.length ≤ 17592186043904) (d n : Int) {k : Nat} (hk : V.length + L.length + 100 < k) : tollgateref03_Apply.f k V L d n = some (applyB V L d n) := by
  obtain ⟨k, rfl⟩ : ∃ j, k = j + 4 := ⟨k - 4, by omega⟩
  unfold tollgateref03_Apply.f applyB errB
  rw [refRight_f V L (by omega) (by omega) (by omega), rvalid_f]
  simp only [Option.bind_some]
  cases hR : rightB V L
  · rw [if_neg (by decide), tollgateref03_Apply.j0, if_pos rfl]; simp
  · rw [if_pos rfl]
    cases hv : validB d n
    · rw [tollgateref03_Apply.j0, if_pos (by decide)]; simp
    · have hp := validB_parts hv
      obtain ⟨u1, u2, _, _, _, h6, h7, h8⟩ := right_parts hR
      have a1 := ups_asc V 0 u1
      have a2 := ups_asc L 0 u2
      rw [tollgateref03_Apply.j0, if_neg (by decide), In_f V n (by omega) (by omega), In_f L n (by omega) (by omega)]
      simp only [Option.bind_some]
      obtain ⟨a, ha⟩ : ∃ a, V.contains n = a := ⟨_, rfl⟩
      obtain ⟨b, hb⟩ : ∃ b, L.contains n = b := ⟨_, rfl⟩
      obtain ⟨c, hc⟩ : ∃ c, ((V.length : Int) == 1) = c := ⟨_, rfl⟩
      rw [ha, hb, hc]
      have hl0 : ∀ u v k', k ≤ k' → tollgateref03_Apply.l0 k' u v 1 V L d n [] [] = some ([] ++ nodes (fun x => if x = n then u else V.contains x) 9 1, [] ++ nodes (fun x => if x = n then v else L.contains x) 9 1, 0) := fun u v k' hk' => rapply_l0 V L hV hL d n u v 9 k' 1 [] [] (by omega) (by omega) (by omega) (by simp) (by simp)
      have o1 := lessB_nodes a1 h6 n
      have o2 := lessB_nodes a2 h7 n
      have o3 := withB_nodes a1 h6 n (by omega)
      have o4 := withB_nodes a2 h7 n (by omega)
      have f1 : ∀ k', k ≤ k' → tollgateref03_Apply.l0 k' false true 1 V L d n [] [] = some (lessB V n, sortI (lessB L n ++ [n]), 0) := fun k' h => by rw [hl0 _ _ k' h, o1, o4]; rfl
      have f2 : ∀ k', k ≤ k' → tollgateref03_Apply.l0 k' true false 1 V L d n [] [] = some (sortI (lessB V n ++ [n]), lessB L n, 0) := fun k' h => by rw [hl0 _ _ k' h, o2, o3]; rfl
      have f3 : ∀ k', k ≤ k' → tollgateref03_Apply.l0 k' false false 1 V L d n [] [] = some (lessB V n, lessB L n, 0) := fun k' h => by rw [hl0 _ _ k' h, o1, o2]; rfl
      clear hl0 o1 o2 o3 o4
      have hd : d = 1 ∨ d = 2 ∨ d = 3 ∨ d = 4 := by omega
      rcases hd with rfl | rfl | rfl | rfl <;> cases a <;> cases b <;> cases c <;> simp [tollgateref03_Apply.j1, tollgateref03_Apply.j2, tollgateref03_Apply.j3, f1, f2, f3, outB]
theorem errB_zero {V L : List Int} {d n : Int} (h : errB V L d n = 0) : rightB V L = true ∧ validB d n = true := by
  unfold errB at h
  split at h
  · cases h
  · rename_i h1
    cases a : rightB V L <;> cases b : validB d n <;> simp [a, b] at h1 ⊢
theorem applyB_len (V L : List Int) (d n : Int) : (applyB V L d n).1.length ≤ 10 ∧ (applyB V L d n).2.1.length ≤ 10 := by
  unfold applyB
  by_cases h : errB V L d n = 0
  · rw [if_pos h]
    obtain ⟨_, _, _, h4, h5, _⟩ := right_parts (errB_zero h).1
    have l1 := lessB_len V n
    have l2 := lessB_len L n
    have l3 : (sortI (lessB V n ++ [n])).length ≤ 10 := by rw [sortI_length, List.length_append, List.length_singleton]; omega
    have l4 : (sortI (lessB L n ++ [n])).length ≤ 10 := by rw [sortI_length, List.length_append, List.length_singleton]; omega
    unfold outB
    repeat' split
    all_goals exact ⟨by simp only; omega, by simp only; omega⟩
  · rw [if_neg h]; simp
end Go.Proofs.Ythmamgnobcnhgaa.Pure
