/- Lists of nodes that rise. -/
import Derived.Test.YthmamgnobcnhgaaMember5
import Derived.Test.YthmamgnobcnhgaaEAll
namespace Go.Proofs.Ythmamgnobcnhgaa.Pure
open Go.RowKit Go.Proofs.Ythmamgnobcnhgaa.PM Go.Proofs.YthmamgnobcnhgaaW.PrintWords Go.Proofs.YthmamgnobcnhgaaW.PrintLast
/-- Two rising lists of the same numbers are one. -/
theorem asc_ext : ∀ (l r : List Int), l.Pairwise (fun a b => a < b) → r.Pairwise (fun a b => a < b) → (∀ x, x ∈ l ↔ x ∈ r) → l = r
  | [], [], _, _, _ => rfl
  | [], y :: r, _, _, h => by have := (h y).2 (.head _); cases this
  | x :: l, [], _, _, h => by have := (h x).1 (.head _); cases this
  | x :: l, y :: r, hl, hr, h => by
    obtain ⟨l1, l2⟩ := List.pairwise_cons.1 hl
    obtain ⟨r1, r2⟩ := List.pairwise_cons.1 hr
    have hxy : x = y := by
      have a := (h x).1 (.head _)
      have b := (h y).2 (.head _)
      rcases List.mem_cons.1 a with e | a
      · exact e
      · rcases List.mem_cons.1 b with e | b
        · exact e.symm
        · have := r1 x a
          have := l1 y b
          omega
    subst hxy
    rw [asc_ext l r l2 r2 (fun z => ?_)]
    constructor
    · intro hz
      have := l1 z hz
      rcases List.mem_cons.1 ((h z).1 (.tail _ hz)) with e | e
      · omega
      · exact e
    · intro hz
      have := r1 z hz
      rcases List.mem_cons.1 ((h z).2 (.tail _ hz)) with e | e
      · omega
      · exact e
theorem ups_asc : ∀ (V : List Int) (p : Int), ups p V = true → V.Pairwise (fun a b => a < b)
  | [], _, _ => .nil
  | x :: V, p, h => by
    have h' := h
    simp only [ups, Bool.and_eq_true, decide_eq_true_eq] at h'
    exact List.pairwise_cons.2 ⟨fun y hy => (ups_lt V x h'.2 y hy).1, ups_asc V x h'.2⟩
theorem asc_nodup {l : List Int} (h : l.Pairwise (fun a b => a < b)) : l.Nodup := h.imp (fun h e => by omega)
theorem sortI_asc {l : List Int} (h : l.Nodup) : (sortI l).Pairwise (fun a b => a < b) := by
  have hp : (sortI l).Perm l := List.mergeSort_perm _ _
  have h1 := List.pairwise_mergeSort (le := fun x y : Int => decide (x ≤ y)) (fun a b c h1 h2 => by simp at *; omega) (fun a b => by simp; omega) l
  have h2 : (sortI l).Nodup := hp.nodup_iff.2 h
  have h3 : (sortI l).Pairwise (fun a b => a ≤ b) := h1.imp (fun h => by simpa using h)
  exact (h3.and h2).imp (fun h => by have := h.1; have := h.2; omega)
theorem sortI_mem (l : List Int) (x : Int) : x ∈ sortI l ↔ x ∈ l := (List.mergeSort_perm _ _).mem_iff
/-- The nodes from i on (m of them) that meet p. -/
def nodes (p : Int → Bool) : Nat → Int → List Int
  | 0, _ => []
  | m + 1, i => if p i then i :: nodes p m (i + 1) else nodes p m (i + 1)
theorem nodes_mem (p : Int → Bool) : ∀ (m : Nat) (i x : Int), x ∈ nodes p m i ↔ (i ≤ x ∧ x < i + m ∧ p x = true)
  | 0, i, x => by simp [nodes]; omega
  | m + 1, i, x => by
    rw [nodes]
    cases hc : p i
    · rw [if_neg (by decide), nodes_mem p m (i + 1) x]
      constructor
      · rintro ⟨h1, h2, h3⟩; exact ⟨by omega, by omega, h3⟩
      · rintro ⟨h1, h2, h3⟩
        have : x ≠ i := fun e => by rw [e, hc] at h3; cases h3
        exact ⟨by omega, by omega, h3⟩
    · rw [if_pos rfl, List.mem_cons, nodes_mem p m (i + 1) x]
      constructor
      · rintro (rfl | h)
        · exact ⟨by omega, by omega, hc⟩
        · exact ⟨by omega, by omega, h.2.2⟩
      · rintro ⟨h1, h2, h3⟩
        by_cases hx : x = i
        · exact .inl hx
        · exact .inr ⟨by omega, by omega, h3⟩
theorem nodes_asc (p : Int → Bool) : ∀ (m : Nat) (i : Int), (nodes p m i).Pairwise (fun a b => a < b)
  | 0, _ => .nil
  | m + 1, i => by
    rw [nodes]
    split
    · exact List.pairwise_cons.2 ⟨fun y hy => by have := (nodes_mem p m (i + 1) y).1 hy; omega, nodes_asc p m (i + 1)⟩
    · exact nodes_asc p m (i + 1)
theorem nodes_len (p : Int → Bool) : ∀ (m : Nat) (i : Int), (nodes p m i).length ≤ m
  | 0, _ => Nat.le_refl _
  | m + 1, i => by
    rw [nodes]
    have := nodes_len p m (i + 1)
    split
    · simp only [List.length_cons]; omega
    · omega
end Go.Proofs.Ythmamgnobcnhgaa.Pure
