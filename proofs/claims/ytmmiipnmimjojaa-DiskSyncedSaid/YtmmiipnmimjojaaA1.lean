/- Lists of things by their names, sorted: get, put, strike. -/
import GoSem.Op.String
namespace Go.Proofs.Ytmmiipnmimjojaa.PD
abbrev Nm := List UInt8
def nlt (a b : Nm) : Bool := Op.bytesLess a b
theorem nlt_irrefl : ∀ a : Nm, nlt a a = false
  | [] => rfl
  | a :: x => by
    have := nlt_irrefl x
    unfold nlt at this ⊢
    simp [Op.bytesLess, this]
theorem nlt_trans : ∀ {a b c : Nm}, nlt a b = true → nlt b c = true → nlt a c = true
  | _, [], _, h, _ => by unfold nlt at h; cases ‹Nm› <;> simp [Op.bytesLess] at h
  | _, _ :: _, [], _, h => by simp [nlt, Op.bytesLess] at h
  | [], _ :: _, _ :: _, _, _ => rfl
  | a :: x, b :: y, c :: z, h1, h2 => by
    simp only [nlt, Op.bytesLess, Bool.or_eq_true, Bool.and_eq_true, decide_eq_true_eq, beq_iff_eq, UInt8.lt_iff_toNat_lt] at h1 h2 ⊢
    rcases h1 with h1 | ⟨rfl, h1⟩
    · rcases h2 with h2 | ⟨rfl, h2⟩
      · exact .inl (by omega)
      · exact .inl h1
    · rcases h2 with h2 | ⟨rfl, h2⟩
      · exact .inl h2
      · exact .inr ⟨rfl, nlt_trans h1 h2⟩
theorem nlt_total : ∀ {a b : Nm}, a ≠ b → nlt a b = true ∨ nlt b a = true
  | [], [], h => absurd rfl h
  | [], _ :: _, _ => .inl rfl
  | _ :: _, [], _ => .inr rfl
  | a :: x, b :: y, h => by
    simp only [nlt, Op.bytesLess, Bool.or_eq_true, Bool.and_eq_true, decide_eq_true_eq, beq_iff_eq, UInt8.lt_iff_toNat_lt]
    by_cases e : a = b
    · subst e
      have hx : x ≠ y := fun e => h (by rw [e])
      rcases nlt_total hx with h | h
      · exact .inl (.inr ⟨rfl, h⟩)
      · exact .inr (.inr ⟨rfl, h⟩)
    · have : a.toNat ≠ b.toNat := fun e' => e (UInt8.toNat_inj.1 e')
      rcases Nat.lt_or_gt_of_ne this with h | h
      · exact .inl (.inl h)
      · exact .inr (.inl h)
theorem nlt_ne {a b : Nm} (h : nlt a b = true) : a ≠ b := fun e => by rw [e, nlt_irrefl] at h; cases h
theorem nlt_asymm {a b : Nm} (h : nlt a b = true) : nlt b a = false := by
  cases hb : nlt b a
  · rfl
  · have := nlt_trans h hb; rw [nlt_irrefl] at this; cases this
section
variable {α β : Type}
def Srt (l : List (Nm × α)) : Prop := l.Pairwise fun p q => nlt p.1 q.1 = true
def aget (n : Nm) : List (Nm × α) → Option α
  | [] => none
  | p :: l => if p.1 = n then some p.2 else aget n l
def aput (n : Nm) (x : α) : List (Nm × α) → List (Nm × α)
  | [] => [(n, x)]
  | p :: l => if p.1 = n then (n, x) :: l else if nlt n p.1 then (n, x) :: p :: l else p :: aput n x l
def adel (n : Nm) (l : List (Nm × α)) : List (Nm × α) := l.filter fun p => !(p.1 == n)
def amap (f : α → β) (l : List (Nm × α)) : List (Nm × β) := l.map fun p => (p.1, f p.2)
theorem aget_map (f : α → β) (n : Nm) : ∀ l : List (Nm × α), aget n (amap f l) = (aget n l).map f
  | [] => rfl
  | p :: l => by
    show (if p.1 = n then some (f p.2) else aget n (amap f l)) = (if p.1 = n then some p.2 else aget n l).map f
    rw [aget_map f n l]
    split <;> rfl
theorem aput_map (f : α → β) (n : Nm) (x : α) : ∀ l : List (Nm × α), aput n (f x) (amap f l) = amap f (aput n x l)
  | [] => rfl
  | p :: l => by
    show (if p.1 = n then (n, f x) :: amap f l else if nlt n p.1 then (n, f x) :: (p.1, f p.2) :: amap f l else (p.1, f p.2) :: aput n (f x) (amap f l)) = amap f (if p.1 = n then (n, x) :: l else if nlt n p.1 then (n, x) :: p :: l else p :: aput n x l)
    rw [aput_map f n x l]
    split
    · rfl
    · split <;> rfl
theorem adel_map (f : α → β) (n : Nm) (l : List (Nm × α)) : adel n (amap f l) = amap f (adel n l) := by
  unfold adel amap
  rw [List.filter_map]
  rfl
theorem amap_len (f : α → β) (l : List (Nm × α)) : (amap f l).length = l.length := by simp [amap]
theorem amap_keys (f : α → β) (l : List (Nm × α)) : (amap f l).map (·.1) = l.map (·.1) := by simp [amap]
theorem srt_map (f : α → β) {l : List (Nm × α)} (h : Srt l) : Srt (amap f l) := by
  unfold Srt amap
  rw [List.pairwise_map]
  exact h
theorem srt_keys {l : List (Nm × α)} {r : List (Nm × β)} (h : Srt l) (e : r.map (·.1) = l.map (·.1)) : Srt r := by
  have h1 : (l.map (·.1)).Pairwise (fun a b => nlt a b = true) := by rw [List.pairwise_map]; exact h
  rw [← e, List.pairwise_map] at h1
  exact h1
theorem srt_nil : Srt ([] : List (Nm × α)) := .nil
theorem aget_mem {n : Nm} {x : α} : ∀ {l : List (Nm × α)}, aget n l = some x → (n, x) ∈ l
  | p :: l, h => by
    unfold aget at h
    split at h
    · rename_i e; cases h; subst e; exact .head _
    · exact .tail _ (aget_mem h)
theorem aget_none {n : Nm} : ∀ {l : List (Nm × α)}, aget n l = none ↔ ∀ p ∈ l, p.1 ≠ n
  | [] => by simp [aget]
  | p :: l => by
    unfold aget
    by_cases e : p.1 = n
    · rw [if_pos e]; simp [e]
    · rw [if_neg e, aget_none (l := l)]; simp [e]
theorem aget_of_mem {l : List (Nm × α)} (h : Srt l) {n : Nm} {x : α} (hm : (n, x) ∈ l) : aget n l = some x := by
  induction l with
  | nil => cases hm
  | cons p l ih =>
    obtain ⟨h1, h2⟩ := List.pairwise_cons.1 h
    unfold aget
    rcases List.mem_cons.1 hm with rfl | hm
    · rw [if_pos rfl]
    · rw [if_neg (nlt_ne (h1 _ hm)), ih h2 hm]
theorem aput_mem {n : Nm} {x : α} {q : Nm × α} : ∀ {l : List (Nm × α)}, Srt l → (q ∈ aput n x l ↔ q = (n, x) ∨ (q ∈ l ∧ q.1 ≠ n))
  | [], _ => by simp [aput]
  | p :: l, h => by
    obtain ⟨h1, h2⟩ := List.pairwise_cons.1 h
    unfold aput
    by_cases e : p.1 = n
    · rw [if_pos e, List.mem_cons, List.mem_cons]
      constructor
      · rintro (a | a)
        · exact .inl a
        · exact .inr ⟨.inr a, fun e' => nlt_ne (h1 q a) (e.trans e'.symm)⟩
      · rintro (a | ⟨a | a, b⟩)
        · exact .inl a
        · exact absurd (a ▸ e) b
        · exact .inr a
    · rw [if_neg e]
      by_cases hl : nlt n p.1 = true
      · rw [if_pos hl, List.mem_cons]
        constructor
        · rintro (a | a)
          · exact .inl a
          · refine .inr ⟨a, fun e' => ?_⟩
            rcases List.mem_cons.1 a with a | a
            · exact e (a ▸ e')
            · exact nlt_ne (nlt_trans hl (h1 q a)) e'.symm
        · rintro (a | ⟨a, _⟩)
          · exact .inl a
          · exact .inr a
      · rw [if_neg hl, List.mem_cons, aput_mem h2, List.mem_cons]
        constructor
        · rintro (a | a | ⟨a, b⟩)
          · exact .inr ⟨.inl a, fun e' => e (a ▸ e')⟩
          · exact .inl a
          · exact .inr ⟨.inr a, b⟩
        · rintro (a | ⟨a | a, b⟩)
          · exact .inr (.inl a)
          · exact .inl a
          · exact .inr (.inr ⟨a, b⟩)
theorem aput_srt {n : Nm} {x : α} : ∀ {l : List (Nm × α)}, Srt l → Srt (aput n x l)
  | [], _ => List.pairwise_singleton _ _
  | p :: l, h => by
    obtain ⟨h1, h2⟩ := List.pairwise_cons.1 h
    unfold aput
    by_cases e : p.1 = n
    · rw [if_pos e]
      exact List.pairwise_cons.2 ⟨fun q hq => by rw [← e]; exact h1 q hq, h2⟩
    · rw [if_neg e]
      by_cases hl : nlt n p.1 = true
      · rw [if_pos hl]
        refine List.pairwise_cons.2 ⟨fun q hq => ?_, h⟩
        rcases List.mem_cons.1 hq with rfl | hq
        · exact hl
        · exact nlt_trans hl (h1 q hq)
      · rw [if_neg hl]
        refine List.pairwise_cons.2 ⟨fun q hq => ?_, aput_srt h2⟩
        rcases (aput_mem h2).1 hq with rfl | ⟨hq, _⟩
        · rcases nlt_total e with h | h
          · exact h
          · exact absurd h hl
        · exact h1 q hq
theorem adel_mem {n : Nm} {q : Nm × α} {l : List (Nm × α)} : q ∈ adel n l ↔ q ∈ l ∧ q.1 ≠ n := by
  unfold adel
  rw [List.mem_filter]
  simp
theorem adel_srt {n : Nm} {l : List (Nm × α)} (h : Srt l) : Srt (adel n l) := h.filter _
theorem adel_none {n : Nm} {l : List (Nm × α)} (h : aget n l = none) : adel n l = l := by
  unfold adel
  rw [List.filter_eq_self]
  intro p hp
  have := aget_none.1 h p hp
  simpa using this
theorem aget_put {n m : Nm} {x : α} {l : List (Nm × α)} (h : Srt l) : aget m (aput n x l) = if m = n then some x else aget m l := by
  by_cases e : m = n
  · subst e
    rw [if_pos rfl]
    exact aget_of_mem (aput_srt h) ((aput_mem h).2 (.inl rfl))
  · rw [if_neg e]
    cases hg : aget m l with
    | none =>
      rw [aget_none]
      intro p hp
      rcases (aput_mem h).1 hp with rfl | ⟨hp, _⟩
      · exact fun e' => e e'.symm
      · exact aget_none.1 hg p hp
    | some y => exact aget_of_mem (aput_srt h) ((aput_mem h).2 (.inr ⟨aget_mem hg, e⟩))
theorem aget_del {n m : Nm} {l : List (Nm × α)} (h : Srt l) : aget m (adel n l) = if m = n then none else aget m l := by
  by_cases e : m = n
  · subst e
    rw [if_pos rfl, aget_none]
    intro p hp
    exact (adel_mem.1 hp).2
  · rw [if_neg e]
    cases hg : aget m l with
    | none =>
      rw [aget_none]
      intro p hp
      exact aget_none.1 hg p (adel_mem.1 hp).1
    | some y => exact aget_of_mem (adel_srt h) (adel_mem.2 ⟨aget_mem hg, e⟩)
theorem aput_len {n : Nm} {x : α} : ∀ {l : List (Nm × α)}, Srt l → (aput n x l).length = if (aget n l).isSome then l.length else l.length + 1
  | [], _ => rfl
  | p :: l, h => by
    obtain ⟨h1, h2⟩ := List.pairwise_cons.1 h
    unfold aput aget
    by_cases e : p.1 = n
    · rw [if_pos e, if_pos e]; rfl
    · rw [if_neg e, if_neg e]
      by_cases hl : nlt n p.1 = true
      · have hn : aget n l = none := aget_none.2 (fun q hq e' => nlt_ne (nlt_trans hl (h1 q hq)) e'.symm)
        rw [if_pos hl, hn]; rfl
      · rw [if_neg hl, List.length_cons, aput_len h2]
        split <;> rfl
theorem adel_len {n : Nm} {l : List (Nm × α)} : (adel n l).length ≤ l.length := List.length_filter_le _ _
/-- Two sorted lists that hold the same are one. -/
theorem srt_ext : ∀ {l r : List (Nm × α)}, Srt l → Srt r → (∀ p, p ∈ l ↔ p ∈ r) → l = r
  | [], [], _, _, _ => rfl
  | [], q :: r, _, _, h => by have := (h q).2 (.head _); cases this
  | p :: l, [], _, _, h => by have := (h p).1 (.head _); cases this
  | p :: l, q :: r, hl, hr, h => by
    obtain ⟨l1, l2⟩ := List.pairwise_cons.1 hl
    obtain ⟨r1, r2⟩ := List.pairwise_cons.1 hr
    have hpq : p = q := by
      rcases List.mem_cons.1 ((h p).1 (.head _)) with e | a
      · exact e
      · rcases List.mem_cons.1 ((h q).2 (.head _)) with e | b
        · exact e.symm
        · have := nlt_trans (r1 p a) (l1 q b)
          rw [nlt_irrefl] at this; cases this
    subst hpq
    rw [srt_ext l2 r2 (fun z => ?_)]
    constructor
    · intro hz
      rcases List.mem_cons.1 ((h z).1 (.tail _ hz)) with e | e
      · have := l1 z hz; rw [e, nlt_irrefl] at this; cases this
      · exact e
    · intro hz
      rcases List.mem_cons.1 ((h z).2 (.tail _ hz)) with e | e
      · have := r1 z hz; rw [e, nlt_irrefl] at this; cases this
      · exact e
theorem srt_get {l r : List (Nm × α)} (hl : Srt l) (hr : Srt r) (h : ∀ n, aget n l = aget n r) : l = r :=
  srt_ext hl hr fun p => ⟨fun hp => aget_mem ((h p.1).symm.trans (aget_of_mem hl hp)), fun hp => aget_mem ((h p.1).trans (aget_of_mem hr hp))⟩
theorem aput_put {n : Nm} {x y : α} {l : List (Nm × α)} (h : Srt l) : aput n y (aput n x l) = aput n y l :=
  srt_get (aput_srt (aput_srt h)) (aput_srt h) fun m => by rw [aget_put (aput_srt h), aget_put h, aget_put h]; split <;> rfl
theorem adel_put {n : Nm} {x : α} {l : List (Nm × α)} (h : Srt l) : adel n (aput n x l) = adel n l :=
  srt_get (adel_srt (aput_srt h)) (adel_srt h) fun m => by rw [aget_del (aput_srt h), aget_put h, aget_del h]; split <;> rfl
theorem aput_same {n : Nm} {x : α} {l : List (Nm × α)} (h : Srt l) (hx : aget n l = some x) : aput n x l = l :=
  srt_get (aput_srt h) h fun m => by rw [aget_put h]; split; (rename_i e; rw [e, hx]); rfl
end
end Go.Proofs.Ytmmiipnmimjojaa.PD
