import Derived.Test.YtlbioffpcoikaaaWire8
namespace Go.Proofs.Ytlbioffpcoikaaa.PW
open Go.RowKit Go.Proofs.YtlbioffpcoikaaaW.PrintWords Go.Proofs.YtlbioffpcoikaaaW.PrintLast Go.Proofs.YtlbioffpcoikaaaW.PrintMore
set_option linter.unusedVariables false
set_option linter.unusedSimpArgs false
set_option linter.unusedSectionVars false
/-! Bytes that are cut short. -/
theorem takeGo_cut (p : List Int) (at_ : Int) (h0 : 0 ≤ at_) : ∀ (m : Nat) (k acc n : Int) (r : Nat), from_ p (at_ + k) = (encN m n).take r → r < (encN m n).length → 0 ≤ k → at_ + k ≤ p.length → k + m = 5 → 0 ≤ n → takeGo p at_ (m + 1) k acc = (0, 0, 3) := by
  intro m
  induction m with
  | zero =>
    intro k acc n r hf hr hk hl _ hn
    simp only [encN, List.length_cons, List.length_nil] at hr
    obtain rfl : r = 0 := by omega
    have := from_len (by omega) hl
    rw [hf] at this
    simp at this
    exact tg_short (by omega)
  | succ m ih =>
    intro k acc n r hf hr hk hl hm hn
    cases r with
    | zero =>
      have := from_len (by omega) hl
      rw [hf] at this
      simp at this
      exact tg_short (by omega)
    | succ r =>
      rw [encN] at hf hr
      by_cases h : n < 128
      · rw [if_pos h] at hr; simp at hr
      · rw [if_neg h] at hf hr
        rw [List.take_succ_cons] at hf
        have hlt := from_lt (by omega) hf
        rw [tg_more (by omega) (rd_from hf) (by omega) (by omega)]
        have hc := from_cons (by omega) hlt
        rw [hf] at hc
        exact ih (k + 1) _ (n / 128) r (by rw [← Int.add_assoc]; exact (List.cons.inj hc).2.symm) (by simp at hr; omega) (by omega) (by omega) (by omega) (by omega)
theorem scNum_short {p : List Int} {a n least : Int} {r : Nat} (h0 : 0 ≤ a) (h1 : a ≤ p.length) (hf : from_ p a = (enc n).take r) (hr : r < (enc n).length) (hn0 : 0 ≤ n) (hn1 : n ≤ 1099511627776) : scNum p (.ok a) least = (0, .error 3) := by
  rw [enc_six hn0 (by omega)] at hf hr
  have := takeGo_cut p a h0 5 0 0 n r (by rwa [Int.add_zero]) hr (by omega) (by omega) (by omega) hn0
  have ht : takeNum p a = (0, 0, 3) := by unfold takeNum; rw [if_neg (by omega), if_neg (by omega)]; exact this
  have hn : rdNum p a least = .error 3 := by unfold rdNum; rw [ht]; rfl
  unfold scNum; dsimp only; rw [hn]
section
variable {p c : List Int} {a : Int} {r : Nat}
theorem scOne_cut {x least most : Int} (h0 : 0 ≤ a) (h1 : a ≤ p.length) (hf : from_ p a = (x :: c).take r) (hr : r < (x :: c).length) (hl : least ≤ x) (hm : x ≤ most) :
    (scOne p (.ok a) least most).2 = .error 3 ∨ ∃ a' r', scOne p (.ok a) least most = (x, .ok a') ∧ 0 ≤ a' ∧ a' ≤ p.length ∧ from_ p a' = c.take r' ∧ r' < c.length := by
  cases r with
  | zero =>
    have := from_len h0 h1
    rw [hf] at this
    simp at this
    refine .inl ?_
    have hb : rdByte p a least most = .error 3 := by unfold rdByte; rw [if_pos (by omega)]
    unfold scOne; dsimp only; rw [hb]
  | succ r =>
    rw [List.take_succ_cons] at hf
    obtain ⟨a', e1, e2, e3, e4⟩ := scOne_take h0 hf hl hm
    exact .inr ⟨a', r, e1, e2, e3, e4, by simpa using hr⟩
theorem scNum_cut {n least : Int} (h0 : 0 ≤ a) (h1 : a ≤ p.length) (hf : from_ p a = (enc n ++ c).take r) (hr : r < (enc n ++ c).length) (hl : least ≤ n) (hn0 : 0 ≤ n) (hn1 : n ≤ 1099511627776) :
    (scNum p (.ok a) least).2 = .error 3 ∨ ∃ a' r', scNum p (.ok a) least = (n, .ok a') ∧ 0 ≤ a' ∧ a' ≤ p.length ∧ from_ p a' = c.take r' ∧ r' < c.length := by
  rw [List.length_append] at hr
  by_cases h : r < (enc n).length
  · rw [List.take_append_of_le_length (by omega)] at hf
    exact .inl (by rw [scNum_short h0 h1 hf h hn0 hn1])
  · rw [List.take_append, List.take_of_length_le (by omega)] at hf
    obtain ⟨a', e1, e2, e3, e4⟩ := scNum_take h0 h1 hf hl hn0 hn1
    exact .inr ⟨a', _, e1, e2, e3, e4, by omega⟩
theorem scRow_cut {d : List Int} {most : Int} (h0 : 0 ≤ a) (h1 : a ≤ p.length) (hf : from_ p a = (enc d.length ++ (d ++ c)).take r) (hr : r < (enc d.length ++ (d ++ c)).length) (hm : (d.length : Int) ≤ most) (hmm : most ≤ 1099511627776) :
    (scRow p (.ok a) most).2 = .error 3 ∨ ∃ a' r', scRow p (.ok a) most = (d, .ok a') ∧ 0 ≤ a' ∧ a' ≤ p.length ∧ from_ p a' = c.take r' ∧ r' < c.length := by
  rw [List.length_append, List.length_append] at hr
  by_cases h : r < (enc (d.length : Int)).length
  · rw [List.take_append_of_le_length (by omega)] at hf
    refine .inl ?_
    have hs := scNum_short (least := 0) h0 h1 hf h (by omega) (by omega)
    have hn : rdNum p a 0 = .error 3 := by
      unfold scNum at hs; dsimp only at hs
      cases hn : rdNum p a 0 with
      | error x => rw [hn] at hs; cases hs; rfl
      | ok q => obtain ⟨q1, q2⟩ := q; rw [hn] at hs; cases hs
    unfold scRow; dsimp only; unfold rdData; rw [hn]
  · rw [List.take_append, List.take_of_length_le (by omega)] at hf
    by_cases hd : r - (enc (d.length : Int)).length < d.length
    · rw [List.take_append_of_le_length (by omega)] at hf
      refine .inl ?_
      have hn := rdNum_from (least := 0) h0 h1 hf (by omega) (by omega) (by omega)
      have hlen := from_len h0 h1
      rw [hf, List.length_append, List.length_take] at hlen
      unfold scRow; dsimp only; unfold rdData; rw [hn]; dsimp only; rw [if_neg (by omega), if_pos (by omega)]
    · rw [List.take_append (l₁ := d), List.take_of_length_le (l := d) (by omega)] at hf
      obtain ⟨a', e1, e2, e3, e4⟩ := scRow_take h0 h1 hf hm hmm
      exact .inr ⟨a', _, e1, e2, e3, e4, by omega⟩
theorem scEntry_cut {x : S34} (h0 : 0 ≤ a) (h1 : a ≤ p.length) (hf : from_ p a = (eBytes x ++ c).take r) (hr : r < (eBytes x ++ c).length) (hb : ¬ entBad x.f0 x.f1 x.f2 x.f3) (hd : x.f3.length ≤ 2048) :
    (scEntry p (.ok a)).2 = .error 3 ∨ ∃ a' r', scEntry p (.ok a) = ((x.f0, x.f1, x.f2, x.f3), .ok a') ∧ 0 ≤ a' ∧ a' ≤ p.length ∧ from_ p a' = c.take r' ∧ r' < c.length := by
  by_cases h : (eBytes x).length ≤ r
  · rw [List.take_append, List.take_of_length_le h] at hf
    obtain ⟨a', e1, e2, e3, e4⟩ := scEntry_take h0 h1 hf hb hd
    rw [List.length_append] at hr
    exact .inr ⟨a', _, e1, e2, e3, e4, by omega⟩
  · refine .inl ?_
    have hbb := hb
    unfold entBad at hbb
    rw [List.take_append_of_le_length (by omega)] at hf
    have hr1 : r < (eBytes x).length := by omega
    have e0 : eBytes x = x.f0 :: (enc x.f1 ++ (enc x.f2 ++ (enc x.f3.length ++ (x.f3 ++ [])))) := by simp [eBytes, entBytes]
    rw [e0] at hf hr1
    obtain ⟨k, sk, hk⟩ : ∃ k s, scOne p (.ok a) 1 3 = (k, s) := ⟨_, _, rfl⟩
    obtain ⟨t, st, ht⟩ : ∃ k s, scNum p sk 1 = (k, s) := ⟨_, _, rfl⟩
    obtain ⟨i, si, hi⟩ : ∃ k s, scNum p st 1 = (k, s) := ⟨_, _, rfl⟩
    have hE : si = .error 3 → (scEntry p (.ok a)).2 = .error 3 := by
      intro hs
      subst hs
      unfold scEntry
      rw [hk]; dsimp only; rw [ht]; dsimp only; rw [hi]; dsimp only
      by_cases hk1 : k = 1
      · rw [if_pos hk1]; rfl
      · rw [if_neg hk1]; rfl
    rcases scOne_cut h0 h1 hf hr1 (least := 1) (most := 3) (by omega) (by omega) with e | ⟨a1, r1, e1, p0, p1, f1, q1⟩
    · rw [hk] at e; dsimp only at e; subst e
      have := scNum_err ht; subst this
      exact hE (scNum_err hi)
    rw [hk] at e1; cases e1
    rcases scNum_cut p0 p1 f1 q1 (least := 1) (by omega) (by omega) (by omega) with e | ⟨a2, r2, e2, p2, p3, f2, q2⟩
    · rw [ht] at e; dsimp only at e; subst e
      exact hE (scNum_err hi)
    rw [ht] at e2; cases e2
    rcases scNum_cut p2 p3 f2 q2 (least := 1) (by omega) (by omega) (by omega) with e | ⟨a3, r3, e3, p4, p5, f3, q3⟩
    · rw [hi] at e; exact hE e
    rw [hi] at e3; cases e3
    by_cases hk1 : x.f0 = 1
    · have hd0 : x.f3 = [] := List.length_eq_zero_iff.1 (by omega)
      rw [hd0] at f3 q3
      simp only [List.append_nil, List.length_nil] at f3 q3
      have hs := scNum_short (least := 0) p4 p5 f3 q3 (by decide) (by decide)
      unfold scEntry
      rw [hk]; dsimp only; rw [ht]; dsimp only; rw [hi]; dsimp only
      rw [if_pos hk1, hs]; rfl
    · rcases scRow_cut p4 p5 f3 q3 (most := 2048) (by omega) (by omega) with e | ⟨a4, r4, e4, _, _, _, q4⟩
      · unfold scEntry
        rw [hk]; dsimp only; rw [ht]; dsimp only; rw [hi]; dsimp only
        rw [if_neg hk1]; exact e
      · simp at q4
end
theorem scEnts_cut {p c : List Int} : ∀ (es acc : List S34) (a : Int) (r : Nat), 0 ≤ a → a ≤ p.length → from_ p a = (es.flatMap eBytes ++ c).take r → r < (es.flatMap eBytes ++ c).length → (∀ x ∈ es, ¬ entBad x.f0 x.f1 x.f2 x.f3) → (∀ x ∈ es, x.f3.length ≤ 2048) →
    (scEnts p es.length acc (.ok a)).2 = .error 3 ∨ ∃ a' r', scEnts p es.length acc (.ok a) = (acc ++ es, .ok a') ∧ 0 ≤ a' ∧ a' ≤ p.length ∧ from_ p a' = c.take r' ∧ r' < c.length
  | [], acc, a, r, h0, h1, hf, hr, _, _ => .inr ⟨a, r, by simp [scEnts], h0, h1, by simpa using hf, by simpa using hr⟩
  | x :: es, acc, a, r, h0, h1, hf, hr, hb, hd => by
    rw [List.flatMap_cons, List.append_assoc] at hf hr
    rw [List.length_cons, scEnts]
    rcases scEntry_cut h0 h1 hf hr (hb x (by simp)) (hd x (by simp)) with e | ⟨a1, r1, e1, p0, p1, f1, q1⟩
    · refine .inl ?_
      obtain ⟨es', s', h'⟩ : ∃ e s, scEnts p es.length (acc ++ [toS (scEntry p (.ok a)).1]) (scEntry p (.ok a)).2 = (e, s) := ⟨_, _, rfl⟩
      rw [h']
      rw [e] at h'
      exact scEnts_err h'
    · rw [e1]
      dsimp only
      have : toS (x.f0, x.f1, x.f2, x.f3) = x := rfl
      rw [this]
      rcases scEnts_cut es (acc ++ [x]) a1 r1 p0 p1 f1 q1 (fun y hy => hb y (by simp [hy])) (fun y hy => hd y (by simp [hy])) with e | ⟨a2, r2, e2, p2, p3, f2, q2⟩
      · exact .inl e
      · exact .inr ⟨a2, r2, by rw [e2]; simp, p2, p3, f2, q2⟩
theorem refMsg_cut {a0 a1 a2 a3 a4 a5 a6 a7 a8 : Int} {a9 : Bool} {es0 : List S34} {d0 : List Int} (r : Nat) (hA : ¬ msgArg a0 a1 a2 a3 a4 a5 a6 a7 a8 es0 = true) (hL : ¬ msgLim es0 d0 = true) (hr : r < (msgBytes a0 a1 a2 a3 a4 a5 a6 a7 a8 a9 es0 d0).length) :
    refMsg ((msgBytes a0 a1 a2 a3 a4 a5 a6 a7 a8 a9 es0 d0).take r) = msgZ 3 := by
  obtain ⟨k0, k1, k2, k3, k4, k5, k6, k7, k8, k9⟩ := msgArg_ok hA
  obtain ⟨l1, l2, l3⟩ := msgLim_ok hL
  have e0 : msgBytes a0 a1 a2 a3 a4 a5 a6 a7 a8 a9 es0 d0 = a0 :: a1 :: a2 :: (if a9 = true then 1 else 0) :: (enc a3 ++ (enc a4 ++ (enc a5 ++ (enc a6 ++ (enc a7 ++ (enc a8 ++ (enc es0.length ++ (es0.flatMap eBytes ++ (enc d0.length ++ (d0 ++ [])))))))))) := by
    simp [msgBytes, msgHead]
  rw [e0] at hr ⊢
  clear e0
  obtain ⟨p, hp⟩ : ∃ p, List.take r (a0 :: a1 :: a2 :: (if a9 = true then 1 else 0) :: (enc a3 ++ (enc a4 ++ (enc a5 ++ (enc a6 ++ (enc a7 ++ (enc a8 ++ (enc es0.length ++ (es0.flatMap eBytes ++ (enc d0.length ++ (d0 ++ []))))))))))) = p := ⟨_, rfl⟩
  have f0 : from_ p 0 = List.take r (a0 :: a1 :: a2 :: (if a9 = true then 1 else 0) :: (enc a3 ++ (enc a4 ++ (enc a5 ++ (enc a6 ++ (enc a7 ++ (enc a8 ++ (enc es0.length ++ (es0.flatMap eBytes ++ (enc d0.length ++ (d0 ++ []))))))))))) := by rw [hp]; rfl
  rw [hp]
  clear hp
  have x0 : (0 : Int) ≤ 0 := by decide
  have y0 : (0 : Int) ≤ p.length := by omega
  obtain ⟨k, s1, h1⟩ : ∃ k s, scOne p (.ok 0) 1 7 = (k, s) := ⟨_, _, rfl⟩
  obtain ⟨f, s2, h2⟩ : ∃ k s, scOne p s1 1 9 = (k, s) := ⟨_, _, rfl⟩
  obtain ⟨t, s3, h3⟩ : ∃ k s, scOne p s2 1 9 = (k, s) := ⟨_, _, rfl⟩
  obtain ⟨o, s4, h4⟩ : ∃ k s, scOne p s3 0 1 = (k, s) := ⟨_, _, rfl⟩
  obtain ⟨n1, s5, h5⟩ : ∃ k s, scNum p s4 0 = (k, s) := ⟨_, _, rfl⟩
  obtain ⟨n2, s6, h6⟩ : ∃ k s, scNum p s5 0 = (k, s) := ⟨_, _, rfl⟩
  obtain ⟨n3, s7, h7⟩ : ∃ k s, scNum p s6 0 = (k, s) := ⟨_, _, rfl⟩
  obtain ⟨n4, s8, h8⟩ : ∃ k s, scNum p s7 0 = (k, s) := ⟨_, _, rfl⟩
  obtain ⟨n5, s9, h9⟩ : ∃ k s, scNum p s8 0 = (k, s) := ⟨_, _, rfl⟩
  obtain ⟨n6, s10, h10⟩ : ∃ k s, scNum p s9 0 = (k, s) := ⟨_, _, rfl⟩
  obtain ⟨n, s11, h11⟩ : ∃ k s, scNum p s10 0 = (k, s) := ⟨_, _, rfl⟩
  obtain ⟨es, sR, he⟩ : ∃ es s, scEnts p n.toNat [] (scLim n s11) = (es, s) := ⟨_, _, rfl⟩
  obtain ⟨d, sD, hd⟩ : ∃ d s, scRow p sR 32768 = (d, s) := ⟨_, _, rfl⟩
  obtain ⟨sE, hE⟩ : ∃ s, scEnd p sD = s := ⟨_, rfl⟩
  have hM : MsgEq p k f t o n1 n2 n3 n4 n5 n6 n s1 s2 s3 s4 s5 s6 s7 s8 s9 s10 s11 sR sD sE es d := ⟨h1, h2, h3, h4, h5, h6, h7, h8, h9, h10, h11, he, hd, hE⟩
  rcases scOne_cut x0 y0 f0 hr (least := 1) (most := 7) k0.1 k0.2 with e | ⟨b1, r1, e, x1, y1, f1, q1⟩
  · rw [h1] at e; exact hM.e1 e
  rw [h1] at e; cases e
  rcases scOne_cut x1 y1 f1 q1 (least := 1) (most := 9) k1.1 k1.2 with e | ⟨b2, r2, e, x2, y2, f2, q2⟩
  · rw [h2] at e; exact hM.e2 e
  rw [h2] at e; cases e
  rcases scOne_cut x2 y2 f2 q2 (least := 1) (most := 9) k2.1 k2.2 with e | ⟨b3, r3, e, x3, y3, f3, q3⟩
  · rw [h3] at e; exact hM.e3 e
  rw [h3] at e; cases e
  rcases scOne_cut x3 y3 f3 q3 (least := 0) (most := 1) (by split <;> omega) (by split <;> omega) with e | ⟨b4, r4, e, x4, y4, f4, q4⟩
  · rw [h4] at e; exact hM.e4 e
  rw [h4] at e; cases e
  rcases scNum_cut x4 y4 f4 q4 (least := 0) k3.1 k3.1 k3.2 with e | ⟨b5, r5, e, x5, y5, f5, q5⟩
  · rw [h5] at e; exact hM.e5 e
  rw [h5] at e; cases e
  rcases scNum_cut x5 y5 f5 q5 (least := 0) k4.1 k4.1 k4.2 with e | ⟨b6, r6, e, x6, y6, f6, q6⟩
  · rw [h6] at e; exact hM.e6 e
  rw [h6] at e; cases e
  rcases scNum_cut x6 y6 f6 q6 (least := 0) k5.1 k5.1 k5.2 with e | ⟨b7, r7, e, x7, y7, f7, q7⟩
  · rw [h7] at e; exact hM.e7 e
  rw [h7] at e; cases e
  rcases scNum_cut x7 y7 f7 q7 (least := 0) k6.1 k6.1 k6.2 with e | ⟨b8, r8, e, x8, y8, f8, q8⟩
  · rw [h8] at e; exact hM.e8 e
  rw [h8] at e; cases e
  rcases scNum_cut x8 y8 f8 q8 (least := 0) k7.1 k7.1 k7.2 with e | ⟨b9, r9, e, x9, y9, f9, q9⟩
  · rw [h9] at e; exact hM.e9 e
  rw [h9] at e; cases e
  rcases scNum_cut x9 y9 f9 q9 (least := 0) k8.1 k8.1 k8.2 with e | ⟨b10, r10, e, x10, y10, f10, q10⟩
  · rw [h10] at e; exact hM.e10 e
  rw [h10] at e; cases e
  rcases scNum_cut x10 y10 f10 q10 (least := 0) (by omega) (by omega) (by omega) with e | ⟨b11, r11, e, x11, y11, f11, q11⟩
  · rw [h11] at e; exact hM.e11 e
  rw [h11] at e; cases e
  rw [scLim, if_neg (by omega), Int.toNat_natCast] at he
  rcases scEnts_cut es0 [] b11 r11 x11 y11 f11 q11 k9 l3 with e | ⟨bE, rE, e, xE, yE, fE, qE⟩
  · rw [he] at e; exact hM.eR e
  rw [he] at e; cases e
  rcases scRow_cut xE yE fE qE (most := 32768) (by omega) (by omega) with e | ⟨bD, rD, e, xD, yD, fD, qD⟩
  · rw [hd] at e; exact hM.eD e
  · simp at qD
end Go.Proofs.Ytlbioffpcoikaaa.PW
