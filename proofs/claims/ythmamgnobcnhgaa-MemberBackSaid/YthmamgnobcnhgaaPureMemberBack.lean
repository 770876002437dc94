/- MemberBack: what the law's function answers. -/
import Derived.Test.YthmamgnobcnhgaaMember7
import Derived.Test.YthmamgnobcnhgaaPMx53
import Derived.Test.YthmamgnobcnhgaaKindsM
namespace Go.Proofs.Ythmamgnobcnhgaa.Pure
open Go.RowKit Go.Proofs.Ythmamgnobcnhgaa.PM Go.Proofs.YthmamgnobcnhgaaW.PrintWords Go.Proofs.YthmamgnobcnhgaaW.PrintLast
theorem okBytes_wf {l : List Int} (h : ∀ y ∈ l, (Lit.int .u8 y).wf = true) : okBytes l = true := by
  refine List.all_eq_true.2 fun y hy => ?_
  have := h y hy
  have e1 : IntKind.u8.min = 0 := by decide
  have e2 : IntKind.u8.max = 255 := by decide
  simp only [Lit.wf, e1, e2] at this
  simp at this ⊢
  omega
theorem okBytes_small {l : List Int} (h : ∀ y ∈ l, 0 ≤ y ∧ y < 128) : okBytes l = true := by
  refine List.all_eq_true.2 fun y hy => ?_
  have := h y hy
  simp
  omega
theorem take_small {l c : List Int} {at_ n : Int} (h0 : 0 ≤ at_) (h : from_ l at_ = n :: c) (hn : 0 ≤ n ∧ n < 128) : takeNum l at_ = (n, at_ + 1, 0) ∧ from_ l (at_ + 1) = c ∧ at_ + 1 ≤ l.length := by
  have hlt := from_lt h0 h
  have he : from_ l at_ = enc n ++ c := by rw [enc_small hn.2]; exact h
  have := takeNum_from h0 (by omega) he hn.1 (by omega)
  rw [enc_small hn.2] at this
  exact ⟨this, from_app (a := [n]) h0 h, by omega⟩
theorem goList_from (l c : List Int) : ∀ (xs : List Int) (at_ : Int) (acc : List Int), 0 ≤ at_ → from_ l at_ = xs ++ c → (∀ x ∈ xs, 0 ≤ x ∧ x < 128) → goList l xs.length at_ acc = (acc ++ xs, at_ + xs.length, 0) ∧ from_ l (at_ + xs.length) = c
  | [], at_, acc, h0, h, _ => by simpa [goList] using h
  | x :: xs, at_, acc, h0, h, hx => by
    obtain ⟨h1, h2, h3⟩ := take_small h0 h (hx x (.head _))
    have ih := goList_from l c xs (at_ + 1) (acc ++ [x]) (by omega) h2 (fun y hy => hx y (.tail _ hy))
    rw [List.length_cons, goList, h1]
    simp only [if_true]
    rw [ih.1, show at_ + ((xs.length + 1 : Nat) : Int) = at_ + 1 + xs.length by omega]
    exact ⟨by simp, ih.2⟩
theorem listB_from {l c xs : List Int} {at_ : Int} (h0 : 0 ≤ at_) (h : from_ l at_ = (xs.length : Int) :: (xs ++ c)) (hl : xs.length ≤ 9) (hx : ∀ x ∈ xs, 0 ≤ x ∧ x < 128) : listB l at_ = (xs, at_ + 1 + xs.length, 0) ∧ from_ l (at_ + 1 + xs.length) = c := by
  obtain ⟨h1, h2, h3⟩ := take_small h0 h (by omega)
  have ih := goList_from l c xs (at_ + 1) [] (by omega) h2 hx
  unfold listB
  rw [h1]
  simp only [if_true]
  rw [if_neg (by omega), Int.toNat_natCast, ih.1]
  exact ⟨by simp, ih.2⟩
theorem getB_putB {V L : List Int} (hR : rightB V L = true) : getB (putB V L) = (V, L, 0) := by
  obtain ⟨_, _, _, h4, h5, h6, h7, _⟩ := right_parts hR
  have hf : from_ (putB V L) 0 = (V.length : Int) :: (V ++ ((L.length : Int) :: (L ++ []))) := by simp [from_, putB]
  obtain ⟨a1, a2⟩ := listB_from (l := putB V L) (by omega) hf (by omega) (fun x hx => by have := h6 x hx; omega)
  obtain ⟨b1, b2⟩ := listB_from (l := putB V L) (by omega) a2 (by omega) (fun x hx => by have := h7 x hx; omega)
  unfold getB
  rw [a1]
  simp only [if_true]
  rw [b1]
  simp only [if_true]
  rw [if_neg (by simp [putB]; omega), if_pos hR]
theorem getCB_put {d n : Int} (h : validB d n = true) : getCB [d, n] = (d, n, 0) := by
  have hv := validB_parts h
  obtain ⟨h1, h2, h3⟩ := take_small (l := [d, n]) (at_ := 0) (by omega) (by rfl) (show 0 ≤ d ∧ d < 128 by omega)
  obtain ⟨g1, g2, g3⟩ := take_small (l := [d, n]) (at_ := 0 + 1) (by omega) h2 (show 0 ≤ n ∧ n < 128 by omega)
  unfold getCB
  rw [h1]
  simp only [if_true]
  rw [g1]
  simp only [if_true]
  rw [if_neg (by simp), if_pos h]
theorem goList_back {l : List Int} (hok : okBytes l = true) : ∀ (m : Nat) (at_ : Int) (acc r : List Int) (at' : Int), goList l m at_ acc = (r, at', 0) → ∃ xs : List Int, r = acc ++ xs ∧ xs.length = m ∧ from_ l at_ = (xs.map enc).flatten ++ from_ l at'
  | 0, at_, acc, r, at', h => by
    rw [goList] at h
    simp only [Prod.mk.injEq, and_true] at h
    obtain ⟨rfl, rfl⟩ := h
    exact ⟨[], by simp, rfl, by simp⟩
  | m + 1, at_, acc, r, at', h => by
    rw [goList] at h
    by_cases hz : (takeNum l at_).2.2 = 0
    · rw [if_pos hz] at h
      obtain ⟨n, a', e⟩ : ∃ n a', takeNum l at_ = (n, a', 0) := ⟨_, _, Prod.ext rfl (Prod.ext rfl hz)⟩
      rw [e] at h
      obtain ⟨xs, h1, h2, h3⟩ := goList_back hok m a' (acc ++ [n]) r at' h
      have hb := takeNum_back hok e
      refine ⟨n :: xs, by rw [h1]; simp, by simp [h2], ?_⟩
      rw [hb.2.2.2.2.1, h3]
      simp
    · rw [if_neg hz] at h
      simp only [Prod.mk.injEq] at h
      exact absurd h.2.2 hz
theorem flat_small : ∀ xs : List Int, (∀ x ∈ xs, x < 128) → (xs.map enc).flatten = xs
  | [], _ => rfl
  | x :: xs, h => by
    rw [List.map_cons, List.flatten_cons, flat_small xs (fun y hy => h y (.tail _ hy)), enc_small (h x (.head _))]
    rfl
theorem listB_back {l r : List Int} {at_ at' : Int} (hok : okBytes l = true) (h : listB l at_ = (r, at', 0)) : from_ l at_ = (r.length : Int) :: ((r.map enc).flatten ++ from_ l at') := by
  unfold listB at h
  by_cases hz : (takeNum l at_).2.2 = 0
  · rw [if_pos hz] at h
    obtain ⟨n, a', e⟩ : ∃ n a', takeNum l at_ = (n, a', 0) := ⟨_, _, Prod.ext rfl (Prod.ext rfl hz)⟩
    rw [e] at h
    simp only at h
    have hb := takeNum_back hok e
    by_cases h9 : n > 9
    · rw [if_pos h9] at h; simp at h
    · rw [if_neg h9] at h
      obtain ⟨xs, h1, h2, h3⟩ := goList_back hok n.toNat a' [] r at' h
      rw [List.nil_append] at h1
      subst h1
      rw [hb.2.2.2.2.1, enc_small (by omega), h3, h2, show ((n.toNat : Nat) : Int) = n by omega]
      rfl
  · rw [if_neg hz] at h
    simp only [Prod.mk.injEq] at h
    exact absurd h.2.2 hz
theorem getB_back {l : List Int} (hok : okBytes l = true) (h : (getB l).2.2 = 0) : rightB (getB l).1 (getB l).2.1 = true ∧ putB (getB l).1 (getB l).2.1 = l := by
  unfold getB at *
  by_cases h1 : (listB l 0).2.2 = 0
  · rw [if_pos h1] at h ⊢
    by_cases h2 : (listB l (listB l 0).2.1).2.2 = 0
    · rw [if_pos h2] at h ⊢
      by_cases h3 : (listB l (listB l 0).2.1).2.1 < l.length
      · rw [if_pos h3] at h; simp at h
      · rw [if_neg h3] at h ⊢
        cases hR : rightB (listB l 0).1 (listB l (listB l 0).2.1).1
        · rw [hR] at h; simp at h
        · rw [if_pos rfl]
          refine ⟨hR, ?_⟩
          obtain ⟨_, _, _, h4, h5, h6, h7, _⟩ := right_parts hR
          have b1 := listB_back (l := l) (at_ := 0) (r := (listB l 0).1) (at' := (listB l 0).2.1) hok (Prod.ext rfl (Prod.ext rfl h1))
          have b2 := listB_back (l := l) (at_ := (listB l 0).2.1) (r := (listB l (listB l 0).2.1).1) (at' := (listB l (listB l 0).2.1).2.1) hok (Prod.ext rfl (Prod.ext rfl h2))
          have e0 : from_ l 0 = l := rfl
          have e2 : from_ l (listB l (listB l 0).2.1).2.1 = [] := by unfold from_; exact List.drop_eq_nil_of_le (by omega)
          rw [flat_small _ (fun x hx => by have := h6 x hx; omega), e0] at b1
          rw [flat_small _ (fun x hx => by have := h7 x hx; omega), e2, List.append_nil] at b2
          rw [b2] at b1
          show putB (listB l 0).1 (listB l (listB l 0).2.1).1 = l
          unfold putB
          exact b1.symm
    · rw [if_neg h2] at h; exact absurd h h2
  · rw [if_neg h1] at h; exact absurd h h1
theorem back_j1 {b : List Int} (hok : okBytes b = true) (hl : b.length ≤ 200000000000000) {k : Nat} (hk : 200 < k) : tollgatelaw03_MemberBack.j1 (k + 1) b = some true := by
  have hln : (getB b).1.length ≤ 9 ∧ (getB b).2.1.length ≤ 9 := by
    have l1 := listB_len b 0
    have l2 := listB_len b (listB b 0).2.1
    unfold getB
    repeat' split
    all_goals first | exact ⟨l1, l2⟩ | simp
  rw [tollgatelaw03_MemberBack.j1, Get_f hok hl (by omega)]
  simp only [Option.bind_some]
  rw [Put_f _ _ (by omega) (by omega) (by omega), live_f (by omega)]
  simp only [Option.bind_some]
  by_cases h : (getB b).2.2 = 0
  · obtain ⟨h1, h2⟩ := getB_back hok h
    rw [if_pos h, h1]
    simp only [if_true]
    rw [h2, if_pos rfl]
  · rw [if_neg h]
theorem back_j0 {b : List Int} (hok : okBytes b = true) (hl : b.length ≤ 200000000000000) (d n : Int) {k : Nat} (hk : 201 < k) : tollgatelaw03_MemberBack.j0 (k + 1) b d n = some true := by
  obtain ⟨j, rfl⟩ : ∃ j, k = j + 1 := ⟨k - 1, by omega⟩
  rw [tollgatelaw03_MemberBack.j0, PutChange_f _ _ (by omega), back_j1 hok hl (by omega)]
  simp only [Option.bind_some]
  cases hv : validB d n
  · simp
  · have hp := validB_parts hv
    simp only [if_true]
    rw [GetChange_f (okBytes_small (by intro y hy; simp at hy; omega)) (by simp), getCB_put hv]
    simp
theorem MemberBack_pure (x0 : S24) (x1 : S55) (x2 : List Int) (g0 : Good24 x0) (_ : Good55 x1) (g2 : x2.length * 1 ≤ reachBytes ∧ x2.length ≤ maxLen ∧ ∀ y ∈ x2, (Lit.int .u8 y).wf = true) : ∃ k, tollgatelaw03_MemberBack.f k x0.f0 x0.f1 x1.f0 x1.f1 x2 = some true := by
  obtain ⟨V, L⟩ := x0
  have hV := reach8 g0.1.1
  have hL := reach8 g0.2.1
  have hok := okBytes_wf g2.2.2
  have hl : x2.length ≤ 200000000000000 := by have h := g2.1; have : reachBytes = 140737488351232 := rfl; omega
  simp only at hV hL
  refine ⟨V.length + L.length + 399 + 1, ?_⟩
  unfold tollgatelaw03_MemberBack.f
  rw [Put_f V L (by omega) (by omega) (by omega), back_j0 hok hl _ _ (by omega)]
  simp only [Option.bind_some]
  cases hR : rightB V L
  · simp
  · obtain ⟨_, _, _, h4, h5, h6, h7, _⟩ := right_parts hR
    simp only [if_true]
    have hpk : okBytes (putB V L) = true := okBytes_small (by
      intro y hy
      unfold putB at hy
      simp only [List.mem_append, List.mem_cons] at hy
      rcases hy with (rfl | hy) | (rfl | hy)
      · omega
      · have := h6 y hy; omega
      · omega
      · have := h7 y hy; omega)
    rw [Get_f hpk (by simp [putB]; omega) (by omega), getB_putB hR]
    simp only [Option.bind_some, if_true]
    rw [Same_f V L V L (by omega) (by omega) (by omega) (by omega)]
    simp
end Go.Proofs.Ythmamgnobcnhgaa.Pure
