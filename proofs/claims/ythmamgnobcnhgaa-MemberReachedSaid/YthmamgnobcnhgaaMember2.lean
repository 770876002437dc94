/- The reference's Agreed answers what member.Agreed does. -/
import Derived.Test.YthmamgnobcnhgaaMember1
import Derived.Test.YthmamgnobcnhgaaPMx19
namespace Go.Proofs.Ythmamgnobcnhgaa.Pure
open Go.RowKit Go.Proofs.Ythmamgnobcnhgaa.PM Go.Proofs.YthmamgnobcnhgaaW.PrintWords Go.Proofs.YthmamgnobcnhgaaW.PrintLast
def agG (n : Int) : List S33 → Int
  | [] => 0
  | x :: l => if x.f0 = n then max 0 x.f1 else agG n l
theorem agG_idx (l : List S33) (n : Int) (hl : l.length ≤ 4611686018427387904) : ∀ (m : Nat) (i : Int), 0 ≤ i → i + m = l.length →
    (if idxG (fun x : S33 => x.f0 == n) (l.drop i.toNat) i < 0 then 0 else max 0 (rd_T33 l (idxG (fun x : S33 => x.f0 == n) (l.drop i.toNat) i)).f1) = agG n (l.drop i.toNat)
  | 0, i, h0, h1 => by
    rw [List.drop_eq_nil_of_le (by omega)]; simp [idxG, agG]
  | m + 1, i, h0, h1 => by
    have hi : i < l.length := by omega
    rw [rdT_at h0 hi, idxG, agG]
    by_cases hc : (rd_T33 l i).f0 = n
    · rw [if_pos hc]
      simp only [beq_iff_eq]
      rw [if_pos hc, if_neg (by omega)]
    · rw [if_neg hc]
      simp only [beq_iff_eq]
      rw [if_neg hc]
      exact agG_idx l n hl m (i + 1) (by omega) (by omega)
theorem agE_G (l : List S33) (n : Int) (hl : l.length ≤ 4611686018427387904) : agE l n = agG n l := by
  have := agG_idx l n hl l.length 0 (by omega) (by omega)
  simpa [agE] using this
theorem agE_pos (l : List S33) (n : Int) : 0 ≤ agE l n := by
  unfold agE
  split <;> omega
theorem reached_l0 (l : List S33) (n : Int) (hl : l.length ≤ 4611686018427387904) : ∀ (m k : Nat) (i : Int), 0 ≤ i → i + m = l.length → m < k → tollgateref03_reached.l0 k l n i = some (agG n (l.drop i.toNat))
  | 0, k + 1, i, h0, h1, _ => by
    rw [tollgateref03_reached.l0, if_neg (by omega), List.drop_eq_nil_of_le (by omega)]; rfl
  | m + 1, k + 1, i, h0, h1, hk => by
    have hi : i < l.length := by omega
    rw [tollgateref03_reached.l0, if_pos hi, if_pos h0, wrap64_in (n := i + 1) (by omega), reached_l0 l n hl m k (i + 1) (by omega) (by omega) (by omega), rdT_at h0 hi, agG]
    by_cases c : (rd_T33 l i).f0 = n
    · rw [if_pos c, if_pos c]
      by_cases c2 : (rd_T33 l i).f1 < 0
      · rw [if_pos c2, show max 0 (rd_T33 l i).f1 = 0 by omega]
      · rw [if_neg c2, show max 0 (rd_T33 l i).f1 = (rd_T33 l i).f1 by omega]
    · rw [if_neg c, if_neg c]
theorem reached_f (l : List S33) (n : Int) (hl : l.length ≤ 4611686018427387904) {k : Nat} (hk : l.length < k) : tollgateref03_reached.f k l n = some (agE l n) := by
  unfold tollgateref03_reached.f
  rw [reached_l0 l n hl l.length k 0 (by omega) (by omega) hk, agE_G l n hl]; rfl
/-- How many have x or more. -/
def cge (A : List Int) (x : Int) : Nat := (A.filter fun y => decide (x ≤ y)).length
def agStep (A : List Int) (b x : Int) : Int := if 2 * cge A x > A.length ∧ x > b then x else b
theorem agreed_l1 (l : List S33) (V L : List Int) (hl : l.length ≤ 4611686018427387904) (hV : V.length ≤ 2305843009213693952) (best i x : Int) (hi0 : 0 ≤ i) (hi1 : i < V.length) (k : Nat) (hk : l.length < k) : ∀ (m : Nat) (c j : Int), 0 ≤ j → j + m = V.length → 0 ≤ c → c + m ≤ V.length →
    tollgateref03_Agreed.l1 (m + 1 + k) l best i x c j V L = tollgateref03_Agreed.l0 k l (if 2 * (c + cge ((V.drop j.toNat).map (agE l)) x) > V.length ∧ x > best then x else best) (i + 1) V L
  | 0, c, j, h0, h1, hc0, hc1 => by
    rw [show 0 + 1 + k = k + 1 by omega, tollgateref03_Agreed.l1, if_neg (by omega), List.drop_eq_nil_of_le (by omega), wrap64_in (n := 2 * c) (by omega), wrap64_in (n := i + 1) (by omega)]
    have e : cge (([] : List Int).map (agE l)) x = 0 := rfl
    rw [e]
    by_cases c1 : 2 * c > V.length
    · rw [if_pos c1]
      by_cases c2 : x > best
      · rw [if_pos c2, if_pos ⟨by omega, c2⟩]
      · rw [if_neg c2, if_neg (fun h => c2 h.2)]
    · rw [if_neg c1, if_neg (fun h => c1 (by omega))]
  | m + 1, c, j, h0, h1, hc0, hc1 => by
    have hj : j < V.length := by omega
    rw [show m + 1 + 1 + k = (m + 1 + k) + 1 by omega, tollgateref03_Agreed.l1, if_pos hj, if_pos h0, reached_f l _ hl (by omega)]
    simp only [Option.bind_some]
    rw [wrap64_in (n := j + 1) (by omega), wrap64_in (n := c + 1) (by omega), agreed_l1 l V L hl hV best i x hi0 hi1 k hk m (c + 1) (j + 1) (by omega) (by omega) (by omega) (by omega),
      agreed_l1 l V L hl hV best i x hi0 hi1 k hk m c (j + 1) (by omega) (by omega) (by omega) (by omega), rd_at h0 hj, List.map_cons]
    unfold cge
    rw [List.filter_cons]
    by_cases h : agE l (rd V j) ≥ x
    · have hd : decide (x ≤ agE l (rd V j)) = true := by simpa using h
      rw [if_pos h, hd, if_pos rfl, List.length_cons]
      congr 2
      exact propext ⟨fun ⟨a, b⟩ => ⟨by omega, b⟩, fun ⟨a, b⟩ => ⟨by omega, b⟩⟩
    · have hd : decide (x ≤ agE l (rd V j)) = false := by simpa using h
      rw [if_neg h, hd, if_neg (show ¬ (false = true) by decide)]
theorem agreed_l0 (l : List S33) (V L : List Int) (hl : l.length ≤ 4611686018427387904) (hV : V.length ≤ 2305843009213693952) (hL : L.length ≤ 4611686018427387904) (hR : rightB V L = true) : ∀ (m k : Nat) (i best : Int), 0 ≤ i → i + m = V.length → V.length + L.length + l.length + 2 < k →
    tollgateref03_Agreed.l0 (m * (V.length + 3) + 2 + k) l best i V L = some (((V.drop i.toNat).map (agE l)).foldl (agStep (V.map (agE l))) best)
  | 0, k, i, best, h0, h1, hk => by
    rw [show 0 * (V.length + 3) + 2 + k = (k + 1) + 1 by omega, tollgateref03_Agreed.l0, if_neg (by omega), tollgateref03_Agreed.j1, if_neg (by decide), List.drop_eq_nil_of_le (by omega)]; rfl
  | m + 1, k, i, best, h0, h1, hk => by
    have hi : i < V.length := by omega
    rw [show (m + 1) * (V.length + 3) + 2 + k = (V.length + 1 + (m * (V.length + 3) + 2 + k) + 1) + 1 by rw [Nat.add_mul]; omega, tollgateref03_Agreed.l0, if_pos hi, refRight_f V L (by omega) hL (by omega), hR]
    simp only [Option.bind_some]
    rw [tollgateref03_Agreed.j1, if_pos rfl, if_pos h0, if_pos hi, reached_f l _ hl (by omega)]
    simp only [Option.bind_some]
    rw [agreed_l1 l V L hl hV best i _ h0 hi (m * (V.length + 3) + 2 + k) (by omega) V.length 0 0 (by omega) (by omega) (by omega) (by omega), agreed_l0 l V L hl hV hL hR m k (i + 1) _ (by omega) (by omega) hk, rd_at h0 hi, List.map_cons, List.foldl_cons]
    congr 2
    unfold agStep
    rw [List.length_map]
    simp only [Int.toNat_zero, List.drop_zero]
    congr 1
    exact propext ⟨fun ⟨a, b⟩ => ⟨by omega, b⟩, fun ⟨a, b⟩ => ⟨by omega, b⟩⟩
theorem fold_max (A : List Int) (M : Int) (hM : ∀ x ∈ A, (2 * cge A x > A.length ↔ x ≤ M)) : ∀ (B : List Int) (b : Int), (∀ x ∈ B, x ∈ A) → b ≤ M →
    B.foldl (agStep A) b ≤ M ∧ b ≤ B.foldl (agStep A) b ∧ ∀ x ∈ B, x ≤ M → x ≤ B.foldl (agStep A) b
  | [], b, _, hb => ⟨hb, Int.le_refl _, fun _ h => by cases h⟩
  | x :: B, b, hB, hb => by
    have hx := hM x (hB x (.head _))
    rw [List.foldl_cons]
    have hs : agStep A b x ≤ M ∧ b ≤ agStep A b x ∧ (x ≤ M → x ≤ agStep A b x) := by
      unfold agStep
      by_cases h : 2 * cge A x > A.length ∧ x > b
      · rw [if_pos h]; exact ⟨hx.1 h.1, by omega, fun _ => Int.le_refl _⟩
      · rw [if_neg h]; refine ⟨hb, Int.le_refl _, fun h2 => ?_⟩
        have := hx.2 h2
        omega
    obtain ⟨h1, h2, h3⟩ := fold_max A M hM B (agStep A b x) (fun y hy => hB y (.tail _ hy)) hs.1
    refine ⟨h1, by omega, fun y hy hyM => ?_⟩
    rcases List.mem_cons.1 hy with rfl | hy
    · have := hs.2.2 hyM; omega
    · exact h3 y hy hyM
theorem cge_perm {A B : List Int} (h : A.Perm B) (x : Int) : cge A x = cge B x := (h.filter _).length_eq
theorem cge_app (A B : List Int) (x : Int) : cge (A ++ B) x = cge A x + cge B x := by unfold cge; rw [List.filter_append, List.length_append]
theorem cge_le (A : List Int) (x : Int) : cge A x ≤ A.length := List.length_filter_le _ _
theorem cge_all {A : List Int} {x : Int} (h : ∀ y ∈ A, x ≤ y) : cge A x = A.length := by unfold cge; rw [List.filter_eq_self.2 (fun y hy => by simpa using h y hy)]
theorem cge_none {A : List Int} {x : Int} (h : ∀ y ∈ A, y < x) : cge A x = 0 := by
  unfold cge; rw [List.filter_eq_nil_iff.2 (fun y hy => by have := h y hy; simp; omega)]; rfl
theorem median_iff (A : List Int) (hp : 0 < A.length) : (sortI A).getD ((A.length - 1) / 2) 0 ∈ A ∧ ∀ x, (2 * cge A x > A.length ↔ x ≤ (sortI A).getD ((A.length - 1) / 2) 0) := by
  have hperm : (sortI A).Perm A := List.mergeSort_perm _ _
  have hsorted : (sortI A).Pairwise (fun x y => x ≤ y) := by
    have := List.pairwise_mergeSort (le := fun x y : Int => decide (x ≤ y)) (fun a b c h1 h2 => by simp at *; omega) (fun a b => by simp; omega) A
    exact this.imp (fun h => by simpa using h)
  have hlen : (sortI A).length = A.length := sortI_length A
  obtain ⟨m, hm⟩ : ∃ m, (A.length - 1) / 2 = m := ⟨_, rfl⟩
  have hml : m < (sortI A).length := by omega
  rw [hm, List.getD_eq_getElem?_getD, List.getElem?_eq_getElem hml]
  show (sortI A)[m] ∈ A ∧ ∀ x, (2 * cge A x > A.length ↔ x ≤ (sortI A)[m])
  obtain ⟨M, hMM⟩ : ∃ M, (sortI A)[m] = M := ⟨_, rfl⟩
  rw [hMM]
  have hmem : M ∈ A := hperm.mem_iff.1 (hMM ▸ List.getElem_mem hml)
  have hsplit : sortI A = (sortI A).take m ++ M :: (sortI A).drop (m + 1) := by
    rw [← hMM, ← List.drop_eq_getElem_cons hml, List.take_append_drop]
  rw [hsplit] at hsorted
  obtain ⟨s1, s2, s3⟩ := List.pairwise_append.1 hsorted
  have s4 := List.pairwise_cons.1 s2
  refine ⟨hmem, fun x => ?_⟩
  have hc : cge A x = cge ((sortI A).take m) x + cge (M :: (sortI A).drop (m + 1)) x := by
    rw [← cge_app, ← hsplit, cge_perm hperm]
  have l1 : ((sortI A).take m).length = m := by rw [List.length_take]; omega
  have l2 : ((sortI A).drop (m + 1)).length = A.length - (m + 1) := by rw [List.length_drop, hlen]
  constructor
  · intro h
    apply Classical.byContradiction
    intro hn
    have h1 : cge ((sortI A).take m) x = 0 := cge_none (fun y hy => by have := s3 y hy M (.head _); omega)
    have h2 : cge (M :: (sortI A).drop (m + 1)) x ≤ A.length - (m + 1) := by
      have e : cge (M :: (sortI A).drop (m + 1)) x = cge ((sortI A).drop (m + 1)) x := by
        unfold cge
        rw [List.filter_cons, if_neg (by simp; omega)]
      rw [e, ← l2]
      exact cge_le _ _
    omega
  · intro h
    have h2 : cge (M :: (sortI A).drop (m + 1)) x = A.length - m := by
      rw [cge_all (fun y hy => by rcases List.mem_cons.1 hy with rfl | hy; exact h; have := s4.1 y hy; omega), List.length_cons, l2]; omega
    omega
theorem median (A : List Int) (hp : 0 < A.length) (h0 : ∀ x ∈ A, 0 ≤ x) : A.foldl (agStep A) 0 = (sortI A).getD ((A.length - 1) / 2) 0 := by
  obtain ⟨hmem, hiff⟩ := median_iff A hp
  obtain ⟨h1, h2, h3⟩ := fold_max A _ (fun x _ => hiff x) A 0 (fun _ h => h) (h0 _ hmem)
  have := h3 _ hmem (Int.le_refl _)
  omega
theorem refAgreed_f (l : List S33) (V L : List Int) (hl : l.length ≤ 4611686018427387904) (hV : V.length ≤ 2305843009213693952) (hL : L.length ≤ 4611686018427387904) : ∃ k0, ∀ k, k0 ≤ k → tollgateref03_Agreed.f k V L l = some (agreedB V L l) := by
  suffices h : ∃ k0, tollgateref03_Agreed.f k0 V L l = some (agreedB V L l) by
    obtain ⟨k0, h⟩ := h
    exact ⟨k0, fun k hk => fuel_up (tollgateref03_Agreed.mono V L l) h k hk⟩
  unfold agreedB tollgateref03_Agreed.f
  cases hR : rightB V L
  · refine ⟨V.length + L.length + l.length + 10, ?_⟩
    by_cases hv : (0 : Int) < V.length
    · rw [tollgateref03_Agreed.l0, if_pos hv, refRight_f V L (by omega) hL (by omega), hR]
      simp only [Option.bind_some]
      rw [tollgateref03_Agreed.j1, if_neg (by decide)]; rfl
    · rw [tollgateref03_Agreed.l0, if_neg hv, tollgateref03_Agreed.j1, if_neg (by decide)]; rfl
  · refine ⟨V.length * (V.length + 3) + 2 + (V.length + L.length + l.length + 3), ?_⟩
    rw [agreed_l0 l V L hl hV hL hR V.length _ 0 0 (by omega) (by omega) (by omega), if_pos rfl]
    have hpos : 0 < V.length := by
      have hup := hR
      unfold rightB at hup
      simp only [Bool.and_eq_true] at hup
      have := hup.1.1.1
      simp at this
      exact List.length_pos_iff.2 this
    have := median (V.map (agE l)) (by simpa using hpos) (fun x hx => by obtain ⟨n, _, rfl⟩ := List.mem_map.1 hx; exact agE_pos l n)
    rw [List.length_map] at this
    simp only [Int.toNat_zero, List.drop_zero]
    rw [this]
end Go.Proofs.Ythmamgnobcnhgaa.Pure
