/- A change and the one that undoes it. -/
import Derived.Test.YthmamgnobcnhgaaMember9
namespace Go.Proofs.Ythmamgnobcnhgaa.Pure
open Go.RowKit Go.Proofs.Ythmamgnobcnhgaa.PM Go.Proofs.YthmamgnobcnhgaaW.PrintWords Go.Proofs.YthmamgnobcnhgaaW.PrintLast
theorem ups_of : ∀ (l : List Int) (p : Int), l.Pairwise (fun a b => a < b) → (∀ x ∈ l, p < x ∧ x ≤ 9) → ups p l = true
  | [], _, _, _ => rfl
  | x :: l, p, h, hx => by
    obtain ⟨h1, h2⟩ := List.pairwise_cons.1 h
    have a := hx x (.head _)
    rw [ups, ups_of l x h2 (fun y hy => ⟨h1 y hy, (hx y (.tail _ hy)).2⟩)]
    simp [a.1, a.2]
theorem right_of {V L : List Int} (h0 : V ≠ []) (hV : V.Pairwise (fun a b => a < b)) (hL : L.Pairwise (fun a b => a < b)) (v9 : ∀ x ∈ V, 1 ≤ x ∧ x ≤ 9) (l9 : ∀ x ∈ L, 1 ≤ x ∧ x ≤ 9) (hd : ∀ x ∈ L, ¬ x ∈ V) : rightB V L = true := by
  unfold rightB
  rw [ups_of V 0 hV (fun x hx => by have := v9 x hx; omega), ups_of L 0 hL (fun x hx => by have := l9 x hx; omega)]
  have h1 : (V.length == 0) = false := by simpa using h0
  have h2 : (L.any fun n => V.contains n) = false := by
    rw [List.any_eq_false]
    intro x hx h
    exact hd x hx (List.contains_iff_mem.1 h)
  rw [h1, h2]; rfl
theorem addB_asc {l : List Int} (h : l.Pairwise (fun a b => a < b)) (n : Int) : (sortI (lessB l n ++ [n])).Pairwise (fun a b => a < b) := sortI_asc (withB_nodup h n)
theorem addB_mem (l : List Int) (n x : Int) : x ∈ sortI (lessB l n ++ [n]) ↔ (x ∈ l ∨ x = n) := by
  rw [sortI_mem, List.mem_append, lessB_mem, List.mem_singleton]
  by_cases h : x = n <;> simp [h]
theorem less_add {l : List Int} (h : l.Pairwise (fun a b => a < b)) {n : Int} (hn : ¬ n ∈ l) : lessB (sortI (lessB l n ++ [n])) n = l :=
  asc_ext _ _ (lessB_asc (addB_asc h n) n) h (fun x => by
    rw [lessB_mem, addB_mem]
    constructor
    · rintro ⟨a | a, b⟩
      · exact a
      · exact absurd a b
    · intro a; exact ⟨.inl a, fun e => hn (e ▸ a)⟩)
theorem add_less {l : List Int} (h : l.Pairwise (fun a b => a < b)) {n : Int} (hn : n ∈ l) : sortI (lessB (lessB l n) n ++ [n]) = l :=
  asc_ext _ _ (addB_asc (lessB_asc h n) n) h (fun x => by
    rw [addB_mem, lessB_mem]
    constructor
    · rintro (a | a)
      · exact a.1
      · rw [a]; exact hn
    · intro a
      by_cases e : x = n
      · exact .inr e
      · exact .inl ⟨a, e⟩)
theorem less_same {l : List Int} {n : Int} (hn : ¬ n ∈ l) : lessB l n = l := by
  unfold lessB
  rw [List.filter_eq_self]
  intro x hx
  have : x ≠ n := fun e => hn (e ▸ hx)
  simpa using this
theorem less_len {n : Int} : ∀ {l : List Int}, l.Pairwise (fun a b => a < b) → l.length ≤ (lessB l n).length + 1
  | [], _ => by simp
  | x :: l, h => by
    obtain ⟨h1, h2⟩ := List.pairwise_cons.1 h
    by_cases e : x = n
    · subst e
      have hx : ¬ x ∈ l := fun hx => by have := h1 x hx; omega
      have e : lessB (x :: l) x = l := by
        have := less_same hx
        unfold lessB at this ⊢
        rw [List.filter_cons, if_neg (by simp), this]
      rw [e, List.length_cons]
      omega
    · have e' : lessB (x :: l) n = x :: lessB l n := by
        unfold lessB
        rw [List.filter_cons, if_pos (by simpa using e)]
      have := less_len (n := n) h2
      rw [e', List.length_cons, List.length_cons]
      omega
theorem errB_mk {V L : List Int} {d n : Int} (hr : rightB V L = true) (hv : validB d n = true) (h1 : d = 1 → V.contains n = false ∧ L.contains n = false) (h2 : d = 2 → L.contains n = true) (h3 : d = 3 → V.contains n = true ∧ V.length ≠ 1)
    (h4 : d = 4 → V.contains n = false ∧ L.contains n = true) : errB V L d n = 0 := by
  have hp := validB_parts hv
  unfold errB
  rw [hr, hv]
  have hd : d = 1 ∨ d = 2 ∨ d = 3 ∨ d = 4 := by omega
  rcases hd with rfl | rfl | rfl | rfl
  · obtain ⟨a, b⟩ := h1 rfl; simp at a b; simp [a, b]
  · have a := h2 rfl; simp at a; simp [a]
  · obtain ⟨a, b⟩ := h3 rfl; simp at a; simp [a]; omega
  · obtain ⟨a, b⟩ := h4 rfl; simp at a b; simp [a, b]
theorem errB_parts {V L : List Int} {d n : Int} (he : errB V L d n = 0) (hr : rightB V L = true) (hv : validB d n = true) :
    (d = 1 → ¬ n ∈ V ∧ ¬ n ∈ L) ∧ (d = 2 → n ∈ L) ∧ (d = 3 → n ∈ V ∧ V.length ≠ 1) := by
  unfold errB at he
  rw [hr, hv] at he
  refine ⟨?_, ?_, ?_⟩
  · rintro rfl
    by_cases a : n ∈ V <;> by_cases b : n ∈ L <;> simp [a, b] at he ⊢
  · rintro rfl
    by_cases b : n ∈ L <;> simp [b] at he ⊢
  · rintro rfl
    by_cases a : n ∈ V
    · refine ⟨a, fun hl => ?_⟩
      simp [a, hl] at he
    · simp [a] at he
theorem validB_of {d d' n : Int} (h : validB d n = true) (hd : 1 ≤ d' ∧ d' ≤ 4) : validB d' n = true := by
  have := validB_parts h
  unfold validB
  simp; omega
/-- ADD AND REMOVE, PROMOTE AND DEMOTE. -/
theorem undo_way {V L : List Int} {d d' n : Int} (he : errB V L d n = 0) (hd : (d = 1 ∧ d' = 4) ∨ (d = 2 ∧ d' = 3) ∨ (d = 3 ∧ d' = 2)) :
    errB (outB V L d n).1 (outB V L d n).2 d' n = 0 ∧ outB (outB V L d n).1 (outB V L d n).2 d' n = (V, L) ∧ rightB (outB V L d n).1 (outB V L d n).2 = true ∧ (outB V L d n).1.length ≤ V.length + 1 ∧ V.length ≤ (outB V L d n).1.length + 1 := by
  obtain ⟨hr, hv⟩ := errB_zero he
  obtain ⟨u1, u2, p0, _, _, h6, h7, h8⟩ := right_parts hr
  obtain ⟨q1, q2, q3⟩ := errB_parts he hr hv
  have a1 := ups_asc V 0 u1
  have a2 := ups_asc L 0 u2
  have hn := validB_parts hv
  have l1 := lessB_len V n
  have l2 := less_len (n := n) a1
  have l3 : (sortI (lessB V n ++ [n])).length = (lessB V n).length + 1 := by rw [sortI_length, List.length_append, List.length_singleton]
  have s1 : ∀ x ∈ sortI (lessB V n ++ [n]), 1 ≤ x ∧ x ≤ 9 := fun x hx => by rcases (addB_mem V n x).1 hx with a | a; exact h6 x a; omega
  have s2 : ∀ x ∈ sortI (lessB L n ++ [n]), 1 ≤ x ∧ x ≤ 9 := fun x hx => by rcases (addB_mem L n x).1 hx with a | a; exact h7 x a; omega
  have t1 : ∀ x ∈ lessB V n, 1 ≤ x ∧ x ≤ 9 := fun x hx => h6 x ((lessB_mem V n x).1 hx).1
  have t2 : ∀ x ∈ lessB L n, 1 ≤ x ∧ x ≤ 9 := fun x hx => h7 x ((lessB_mem L n x).1 hx).1
  rcases hd with ⟨rfl, rfl⟩ | ⟨rfl, rfl⟩ | ⟨rfl, rfl⟩
  · obtain ⟨nv, nl⟩ := q1 rfl
    have e : outB V L 1 n = (V, sortI (lessB L n ++ [n])) := by unfold outB; rw [if_pos (.inl rfl), less_same nv]
    have hR : rightB V (sortI (lessB L n ++ [n])) = true := right_of (List.length_pos_iff.1 p0) a1 (addB_asc a2 n) h6 s2 (fun x hx hxV => by
      rcases (addB_mem L n x).1 hx with a | a
      · exact h8 x a hxV
      · exact nv (a ▸ hxV))
    rw [e]
    dsimp only
    refine ⟨errB_mk hR (validB_of hv (by omega)) (fun h => by omega) (fun h => by omega) (fun h => by omega) (fun _ => ⟨by simpa using nv, List.contains_iff_mem.2 ((addB_mem L n n).2 (.inr rfl))⟩), ?_, hR, by omega, by omega⟩
    unfold outB
    rw [if_neg (by omega), if_neg (by omega), less_same nv, less_add a2 nl]
  · have nl := q2 rfl
    have nv := h8 n nl
    have e : outB V L 2 n = (sortI (lessB V n ++ [n]), lessB L n) := by unfold outB; rw [if_neg (by omega), if_pos rfl]
    have hne : sortI (lessB V n ++ [n]) ≠ [] := fun h => by rw [h] at l3; simp at l3
    have hR : rightB (sortI (lessB V n ++ [n])) (lessB L n) = true := right_of hne (addB_asc a1 n) (lessB_asc a2 n) s1 t2 (fun x hx hxV => by
      have hx' := (lessB_mem L n x).1 hx
      rcases (addB_mem V n x).1 hxV with a | a
      · exact h8 x hx'.1 a
      · exact hx'.2 a)
    rw [e]
    dsimp only
    refine ⟨errB_mk hR (validB_of hv (by omega)) (fun h => by omega) (fun h => by omega) (fun _ => ⟨List.contains_iff_mem.2 ((addB_mem V n n).2 (.inr rfl)), ?_⟩) (fun h => by omega), ?_, hR, by omega, by omega⟩
    · rw [l3, less_same nv]; omega
    · unfold outB
      rw [if_pos (.inr rfl), less_add a1 nv, add_less a2 nl]
  · obtain ⟨nv, hl⟩ := q3 rfl
    have nl : ¬ n ∈ L := fun h => h8 n h nv
    have e : outB V L 3 n = (lessB V n, sortI (lessB L n ++ [n])) := by unfold outB; rw [if_pos (.inr rfl)]
    have hne : lessB V n ≠ [] := fun h => by rw [h] at l2; simp at l2; omega
    have hR : rightB (lessB V n) (sortI (lessB L n ++ [n])) = true := right_of hne (lessB_asc a1 n) (addB_asc a2 n) t1 s2 (fun x hx hxV => by
      have hx' := (lessB_mem V n x).1 hxV
      rcases (addB_mem L n x).1 hx with a | a
      · exact h8 x a hx'.1
      · exact hx'.2 a)
    rw [e]
    dsimp only
    refine ⟨errB_mk hR (validB_of hv (by omega)) (fun h => by omega) (fun _ => List.contains_iff_mem.2 ((addB_mem L n n).2 (.inr rfl))) (fun h => by omega) (fun h => by omega), ?_, hR, by omega, by omega⟩
    unfold outB
    rw [if_neg (by omega), if_pos rfl, add_less a1 nv, less_add a2 nl]
end Go.Proofs.Ythmamgnobcnhgaa.Pure
