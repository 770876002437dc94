/- MemberHalves: what the law's function answers. -/
import Derived.Test.YthmamgnobcnhgaaMember1
import Derived.Test.YthmamgnobcnhgaaPMx21
import Derived.Test.YthmamgnobcnhgaaKindsM
namespace Go.Proofs.Ythmamgnobcnhgaa.Pure
open Go.RowKit Go.Proofs.Ythmamgnobcnhgaa.PM Go.Proofs.YthmamgnobcnhgaaW.PrintWords Go.Proofs.YthmamgnobcnhgaaW.PrintLast
/-- The nodes that are not in Y, from i on (m of them). -/
def others (Y : List Int) : Nat → Int → List Int
  | 0, _ => []
  | m + 1, i => if Y.contains i then others Y m (i + 1) else i :: others Y m (i + 1)
theorem others_mem (Y : List Int) : ∀ (m : Nat) (i x : Int), x ∈ others Y m i ↔ (i ≤ x ∧ x < i + m ∧ ¬ x ∈ Y)
  | 0, i, x => by simp [others]; omega
  | m + 1, i, x => by
    rw [others]
    cases hc : Y.contains i
    · have hn : ¬ i ∈ Y := by rw [← List.contains_iff_mem, hc]; decide
      rw [if_neg (by decide), List.mem_cons, others_mem Y m (i + 1) x]
      constructor
      · rintro (rfl | h)
        · exact ⟨by omega, by omega, hn⟩
        · exact ⟨by omega, by omega, h.2.2⟩
      · rintro ⟨h1, h2, h3⟩
        by_cases hx : x = i
        · exact .inl hx
        · exact .inr ⟨by omega, by omega, h3⟩
    · have hn : i ∈ Y := by rw [← List.contains_iff_mem, hc]
      rw [if_pos rfl, others_mem Y m (i + 1) x]
      constructor
      · rintro ⟨h1, h2, h3⟩; exact ⟨by omega, by omega, h3⟩
      · rintro ⟨h1, h2, h3⟩
        have : x ≠ i := fun e => h3 (e ▸ hn)
        exact ⟨by omega, by omega, h3⟩
theorem others_len (Y : List Int) : ∀ (m : Nat) (i : Int), (others Y m i).length ≤ m
  | 0, _ => Nat.le_refl _
  | m + 1, i => by
    rw [others]
    have := others_len Y m (i + 1)
    split
    · omega
    · simp only [List.length_cons]; omega
/-- The tail of the law behind the loop. -/
theorem halves_end (V L Y O : List Int) (hV : V.length ≤ 17592186043904) (hL : L.length ≤ 17592186043904) (hY : Y.length ≤ 17592186043904) (hi : i64s Y = true) (hO : ∀ x, x ∈ O ↔ (1 ≤ x ∧ x ≤ 9 ∧ ¬ x ∈ Y)) (hOl : O.length ≤ 9) (i : Int) (hi9 : ¬ i ≤ 9) {k : Nat} (hk : 64 ≤ k) :
    tollgatelaw03_MemberHalves.l0 (k + 1) Y O i V L = some true := by
  have hiO : i64s O = true := List.all_eq_true.2 fun y hy => by have := (hO y).1 hy; simp; omega
  have hiA : i64s (O ++ Y) = true := by unfold i64s at *; rw [List.all_append, hi, hiO]; rfl
  rw [tollgatelaw03_MemberHalves.l0, if_neg hi9]
  simp only [Option.bind_some, List.length_nil, List.nil_append]
  rw [if_pos (by omega), if_pos (by omega), live_f hk, Quorum_f (Y := Y) (by omega) (by omega) (by omega) hi, Quorum_f (Y := O) (by omega) (by omega) (by omega) hiO, Quorum_f (Y := O ++ Y) (by omega) (by omega) (by simp; omega) hiA, Quorum_f (Y := []) (by omega) (by omega) (by simp) rfl]
  have hR : member_Right.f V L = some (rightB V L) := by unfold member_Right.f; rw [if_pos ⟨by omega, by omega⟩]
  rw [hR]
  simp only [Option.bind_some]
  obtain ⟨b, hb⟩ : ∃ b, rightB V L = b := ⟨_, rfl⟩
  cases b with
  | false =>
    have hq : ∀ Z, quorumB V L Z = false := fun Z => by unfold quorumB; rw [hb]; rfl
    simp [hq, hb]
  | true =>
    have hu : ups 0 V = true ∧ (V.length == 0) = false := by
      have hup := hb
      unfold rightB at hup
      simp only [Bool.and_eq_true] at hup
      exact ⟨hup.1.1.2, by simpa using hup.1.1.1⟩
    have hlt := ups_lt V 0 hu.1
    have hpos : 0 < V.length := by have := hu.2; simp at this; exact List.length_pos_iff.2 this
    have hq : ∀ Z, quorumB V L Z = decide (2 * (V.filter fun x => !Z.contains x).length < V.length) := fun Z => by unfold quorumB; rw [hb]; simp
    have hnil : quorumB V L [] = false := by rw [hq, show (V.filter fun x => !([] : List Int).contains x) = V from List.filter_eq_self.2 (fun _ _ => rfl)]; simp; omega
    have hall : quorumB V L (O ++ Y) = true := by
      rw [hq]
      have : (V.filter fun x => !(O ++ Y).contains x) = [] := by
        rw [List.filter_eq_nil_iff]
        intro x hx
        have h1 := hlt x hx
        have : x ∈ O ++ Y := by
          rw [List.mem_append, hO]
          by_cases hy : x ∈ Y
          · exact .inr hy
          · exact .inl ⟨by omega, by omega, hy⟩
        rw [List.contains_iff_mem.2 this]
        simp
      rw [this]
      simpa using hpos
    have hO2 : (V.filter fun x => !O.contains x) = V.filter fun x => Y.contains x := by
      refine List.filter_congr fun x hx => ?_
      have h1 := hlt x hx
      by_cases hy : x ∈ Y
      · have : ¬ x ∈ O := fun h => ((hO x).1 h).2.2 hy
        rw [List.contains_iff_mem.2 hy]
        have h2 : O.contains x = false := by rw [Bool.eq_false_iff]; intro h; exact this (List.contains_iff_mem.1 h)
        rw [h2]; rfl
      · have : x ∈ O := (hO x).2 ⟨by omega, by omega, hy⟩
        rw [List.contains_iff_mem.2 this]
        have h2 : Y.contains x = false := by rw [Bool.eq_false_iff]; intro h; exact hy (List.contains_iff_mem.1 h)
        rw [h2]; rfl
    rw [hnil, hall]
    have hnb : ¬ (quorumB V L Y = true ∧ quorumB V L O = true) := by
      rw [hq, hq, hO2]
      have := cnt_both V Y
      unfold cntIn at this
      simp only [decide_eq_true_eq]
      omega
    cases h1 : quorumB V L Y
    · simp [hb]
    · cases h2 : quorumB V L O
      · simp [hb]
      · exact absurd ⟨h1, h2⟩ hnb
theorem halves_l0 (V L Y : List Int) (hV : V.length ≤ 17592186043904) (hL : L.length ≤ 17592186043904) (hY : Y.length ≤ 17592186043904) (hi : i64s Y = true) : ∀ (m k : Nat) (i : Int) (O : List Int), 1 ≤ i → i + m = 10 → m + Y.length + 65 < k →
    O.length + m ≤ 9 → (∀ x, x ∈ O ++ others Y m i ↔ (1 ≤ x ∧ x ≤ 9 ∧ ¬ x ∈ Y)) → tollgatelaw03_MemberHalves.l0 k Y O i V L = some true
  | 0, k + 1, i, O, h0, h1, hk, hOl, hO => halves_end V L Y O hV hL hY hi (by simpa [others] using hO) (by omega) i (by omega) (by omega)
  | m + 1, k + 1, i, O, h0, h1, hk, hOl, hO => by
    rw [tollgatelaw03_MemberHalves.l0, if_pos (by omega), In_f Y i (by omega) (by omega)]
    simp only [Option.bind_some]
    rw [wrap64_in (n := i + 1) (by omega)]
    rw [others] at hO
    cases hc : Y.contains i
    · rw [hc, if_neg (by decide)] at hO
      rw [if_neg (by decide), if_pos (by omega)]
      exact halves_l0 V L Y hV hL hY hi m k (i + 1) (O ++ [i]) (by omega) (by omega) (by omega) (by simp; omega) (by simpa using hO)
    · rw [hc, if_pos rfl] at hO
      rw [if_pos rfl]
      exact halves_l0 V L Y hV hL hY hi m k (i + 1) O (by omega) (by omega) (by omega) (by omega) hO
theorem MemberHalves_pure (x0 : S24) (x1 : List Int) (g0 : Good24 x0) (g1 : x1.length * 8 ≤ reachBytes ∧ x1.length ≤ maxLen ∧ ∀ y ∈ x1, (Lit.int .i64 y).wf = true) : ∃ k, tollgatelaw03_MemberHalves.f k x0.f0 x0.f1 x1 = some true := by
  obtain ⟨V, L⟩ := x0
  have hV := reach8 g0.1.1
  have hL := reach8 g0.2.1
  have hY := reach8 g1.1
  have hi := i64s_of g1.2.2
  refine ⟨x1.length + 100, ?_⟩
  unfold tollgatelaw03_MemberHalves.f
  refine halves_l0 V L x1 hV hL hY hi 9 _ 1 [] (by omega) (by omega) (by omega) (by simp) (fun x => ?_)
  rw [List.nil_append, others_mem]
  exact ⟨fun ⟨a, b, c⟩ => ⟨a, by omega, c⟩, fun ⟨a, b, c⟩ => ⟨a, by omega, c⟩⟩
end Go.Proofs.Ythmamgnobcnhgaa.Pure
