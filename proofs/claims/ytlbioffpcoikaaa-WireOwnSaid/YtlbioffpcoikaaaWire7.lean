import Derived.Test.YtlbioffpcoikaaaWire5
import Derived.Test.YtlbioffpcoikaaaWire6a
import Derived.Test.YtlbioffpcoikaaaEPutMsg
import Derived.Test.YtlbioffpcoikaaaEGetA
namespace Go.Proofs.Ytlbioffpcoikaaa.PW
open Go.RowKit Go.Proofs.YtlbioffpcoikaaaW.PrintWords Go.Proofs.YtlbioffpcoikaaaW.PrintLast Go.Proofs.YtlbioffpcoikaaaW.PrintMore
set_option linter.unusedVariables false
set_option linter.unusedSimpArgs false
set_option linter.unusedSectionVars false
/-! What is put is got. -/
section
variable {l c : List Int} {a : Int}
theorem scOne_take {x least most : Int} (h0 : 0 ≤ a) (h : from_ l a = x :: c) (hl : least ≤ x) (hm : x ≤ most) : ∃ a', scOne l (.ok a) least most = (x, .ok a') ∧ 0 ≤ a' ∧ a' ≤ l.length ∧ from_ l a' = c := by
  have hlt := from_lt h0 h
  refine ⟨a + 1, by unfold scOne; dsimp only; rw [rdByte_from h0 h hl hm], by omega, by omega, ?_⟩
  have := from_cons h0 hlt
  rw [h] at this
  exact (List.cons.inj this).2.symm
theorem scNum_take {n least : Int} (h0 : 0 ≤ a) (h1 : a ≤ l.length) (h : from_ l a = enc n ++ c) (hl : least ≤ n) (hn0 : 0 ≤ n) (hn1 : n ≤ 1099511627776) : ∃ a', scNum l (.ok a) least = (n, .ok a') ∧ 0 ≤ a' ∧ a' ≤ l.length ∧ from_ l a' = c := by
  have hlen := from_len h0 h1
  rw [h, List.length_append] at hlen
  exact ⟨a + (enc n).length, by unfold scNum; dsimp only; rw [rdNum_from h0 h1 h hl hn0 hn1], by omega, by omega, from_app h0 h⟩
theorem scRow_take {d : List Int} {most : Int} (h0 : 0 ≤ a) (h1 : a ≤ l.length) (h : from_ l a = enc d.length ++ (d ++ c)) (hm : (d.length : Int) ≤ most) (hmm : most ≤ 1099511627776) : ∃ a', scRow l (.ok a) most = (d, .ok a') ∧ 0 ≤ a' ∧ a' ≤ l.length ∧ from_ l a' = c := by
  have hlen := from_len h0 h1
  rw [h] at hlen
  simp only [List.length_append] at hlen
  exact ⟨a + (enc d.length).length + d.length, by unfold scRow; dsimp only; rw [rdData_from h0 h1 h hm hmm], by omega, by omega, from_app (by omega) (from_app h0 h)⟩
theorem scEntry_take {x : S34} (h0 : 0 ≤ a) (h1 : a ≤ l.length) (h : from_ l a = eBytes x ++ c) (hb : ¬ entBad x.f0 x.f1 x.f2 x.f3) (hd : x.f3.length ≤ 2048) : ∃ a', scEntry l (.ok a) = ((x.f0, x.f1, x.f2, x.f3), .ok a') ∧ 0 ≤ a' ∧ a' ≤ l.length ∧ from_ l a' = c := by
  have hlen := from_len h0 h1
  rw [h, List.length_append] at hlen
  exact ⟨a + (eBytes x).length, entry_ok (rdEntry_from h0 h1 h hb hd), by omega, by omega, from_app h0 h⟩
end
theorem scEnts_take {l c : List Int} : ∀ (es acc : List S34) (a : Int), 0 ≤ a → a ≤ l.length → from_ l a = es.flatMap eBytes ++ c → (∀ x ∈ es, ¬ entBad x.f0 x.f1 x.f2 x.f3) → (∀ x ∈ es, x.f3.length ≤ 2048) →
    ∃ a', scEnts l es.length acc (.ok a) = (acc ++ es, .ok a') ∧ 0 ≤ a' ∧ a' ≤ l.length ∧ from_ l a' = c
  | [], acc, a, h0, h1, h, _, _ => ⟨a, by simp [scEnts], h0, h1, by simpa using h⟩
  | x :: es, acc, a, h0, h1, h, hb, hd => by
    obtain ⟨a1, e1, p0, p1, p2⟩ := scEntry_take (x := x) (c := es.flatMap eBytes ++ c) h0 h1 (by rw [h]; simp) (hb x (by simp)) (hd x (by simp))
    obtain ⟨a2, e2, q0, q1, q2⟩ := scEnts_take es (acc ++ [x]) a1 p0 p1 p2 (fun y hy => hb y (by simp [hy])) (fun y hy => hd y (by simp [hy]))
    refine ⟨a2, ?_, q0, q1, q2⟩
    rw [List.length_cons, scEnts, e1]
    dsimp only
    have : toS (x.f0, x.f1, x.f2, x.f3) = x := rfl
    rw [this, e2]
    simp
theorem refMsg_put {a0 a1 a2 a3 a4 a5 a6 a7 a8 : Int} {a9 : Bool} {es : List S34} {d : List Int} (c : List Int) (hA : ¬ msgArg a0 a1 a2 a3 a4 a5 a6 a7 a8 es = true) (hL : ¬ msgLim es d = true) :
    refMsg (msgBytes a0 a1 a2 a3 a4 a5 a6 a7 a8 a9 es d ++ c) = if c = [] then (a0, a1, a2, a3, a4, a5, a6, a7, a8, a9, es, d, 0) else msgZ 4 := by
  obtain ⟨k0, k1, k2, k3, k4, k5, k6, k7, k8, k9⟩ := msgArg_ok hA
  obtain ⟨l1, l2, l3⟩ := msgLim_ok hL
  obtain ⟨l, hl⟩ : ∃ l, msgBytes a0 a1 a2 a3 a4 a5 a6 a7 a8 a9 es d ++ c = l := ⟨_, rfl⟩
  have hf : from_ l 0 = a0 :: a1 :: a2 :: (if a9 = true then 1 else 0) :: (enc a3 ++ (enc a4 ++ (enc a5 ++ (enc a6 ++ (enc a7 ++ (enc a8 ++ (enc es.length ++ (es.flatMap eBytes ++ (enc d.length ++ (d ++ c)))))))))) := by
    rw [from_zero, ← hl]; simp [msgBytes, msgHead]
  rw [hl]
  clear hl
  obtain ⟨p1, h1, z1, y1, f1⟩ := scOne_take (least := 1) (most := 7) (by omega) hf k0.1 k0.2
  obtain ⟨p2, h2, z2, y2, f2⟩ := scOne_take (least := 1) (most := 9) z1 f1 k1.1 k1.2
  obtain ⟨p3, h3, z3, y3, f3⟩ := scOne_take (least := 1) (most := 9) z2 f2 k2.1 k2.2
  obtain ⟨p4, h4, z4, y4, f4⟩ := scOne_take (least := 0) (most := 1) z3 f3 (by split <;> omega) (by split <;> omega)
  obtain ⟨p5, h5, z5, y5, f5⟩ := scNum_take (least := 0) z4 y4 f4 k3.1 k3.1 k3.2
  obtain ⟨p6, h6, z6, y6, f6⟩ := scNum_take (least := 0) z5 y5 f5 k4.1 k4.1 k4.2
  obtain ⟨p7, h7, z7, y7, f7⟩ := scNum_take (least := 0) z6 y6 f6 k5.1 k5.1 k5.2
  obtain ⟨p8, h8, z8, y8, f8⟩ := scNum_take (least := 0) z7 y7 f7 k6.1 k6.1 k6.2
  obtain ⟨p9, h9, z9, y9, f9⟩ := scNum_take (least := 0) z8 y8 f8 k7.1 k7.1 k7.2
  obtain ⟨p10, h10, z10, y10, f10⟩ := scNum_take (least := 0) z9 y9 f9 k8.1 k8.1 k8.2
  obtain ⟨p11, h11, z11, y11, f11⟩ := scNum_take (least := 0) z10 y10 f10 (by omega) (by omega) (by omega)
  obtain ⟨pE, hE, zE, yE, fE⟩ := scEnts_take es [] p11 z11 y11 f11 k9 l3
  obtain ⟨pD, hD, zD, yD, fD⟩ := scRow_take (most := 32768) zE yE fE (by omega) (by omega)
  have he : scEnts l (es.length : Int).toNat [] (scLim (es.length : Int) (.ok p11)) = (es, .ok pE) := by
    rw [scLim, if_neg (by omega), Int.toNat_natCast, hE]; simp
  have hc := from_len zD yD
  rw [fD] at hc
  have hend : scEnd l (.ok pD) = if c = [] then .ok pD else .error 4 := by
    unfold scEnd
    dsimp only
    by_cases hcc : c = []
    · subst hcc; rw [if_pos rfl, if_neg (by simp at hc; omega)]
    · rw [if_neg hcc, if_pos (by have := List.length_pos_iff.2 hcc; omega)]
  rw [refMsg_eq h1 h2 h3 h4 h5 h6 h7 h8 h9 h10 h11 he hD hend]
  by_cases hcc : c = []
  · rw [if_pos hcc, if_pos hcc]
    cases a9 <;> simp [msgOf]
  · rw [if_neg hcc, if_neg hcc]; rfl
/-! What is got was put. -/
section
variable {l : List Int} {a a' : Int} (hok : okBytes l = true) (h0 : 0 ≤ a) (h1 : a ≤ l.length)
include h0 h1
theorem scOne_back {x least most : Int} (h : scOne l (.ok a) least most = (x, .ok a')) : least ≤ x ∧ x ≤ most ∧ from_ l a = x :: from_ l a' ∧ 0 ≤ a' ∧ a' ≤ l.length := by
  unfold scOne at h
  dsimp only at h
  cases hn : rdByte l a least most with
  | error y => rw [hn] at h; cases h
  | ok p =>
    obtain ⟨k, a1⟩ := p
    rw [hn] at h; cases h
    obtain ⟨q1, q2, q3, q4, q5⟩ := rdByte_back h0 h1 hn
    exact ⟨q1, q2, q3, by omega, q5⟩
include hok
theorem scNum_back {n least : Int} (h : scNum l (.ok a) least = (n, .ok a')) : least ≤ n ∧ 0 ≤ n ∧ n ≤ 1099511627776 ∧ from_ l a = enc n ++ from_ l a' ∧ 0 ≤ a' ∧ a' ≤ l.length := by
  unfold scNum at h
  dsimp only at h
  cases hn : rdNum l a least with
  | error y => rw [hn] at h; cases h
  | ok p =>
    obtain ⟨k, a1⟩ := p
    rw [hn] at h; cases h
    obtain ⟨_, _, q1, q2, q3, q4, q5, q6⟩ := rdNum_back hok hn
    exact ⟨q1, q2, q3, q4, by omega, q6⟩
theorem scRow_back {d : List Int} {most : Int} (h : scRow l (.ok a) most = (d, .ok a')) : (d.length : Int) ≤ most ∧ from_ l a = enc d.length ++ (d ++ from_ l a') ∧ 0 ≤ a' ∧ a' ≤ l.length := by
  unfold scRow at h
  dsimp only at h
  cases hn : rdData l a most with
  | error y => rw [hn] at h; cases h
  | ok p =>
    obtain ⟨k, a1⟩ := p
    rw [hn] at h; cases h
    obtain ⟨_, _, q3, q4, q5, q6⟩ := rdData_back hok hn
    exact ⟨q3, q4, by omega, q6⟩
theorem scEntry_back {x : Int × Int × Int × List Int} (h : scEntry l (.ok a) = (x, .ok a')) : ¬ entBad x.1 x.2.1 x.2.2.1 x.2.2.2 ∧ x.2.2.2.length ≤ 2048 ∧ from_ l a = eBytes (toS x) ++ from_ l a' ∧ 0 ≤ a' ∧ a' ≤ l.length := by
  cases hn : rdEntry l a with
  | error y => have := entry_error hn; rw [h] at this; cases this
  | ok p =>
    obtain ⟨⟨k, t, i, d⟩, a1⟩ := p
    have := entry_ok hn
    rw [h] at this; cases this
    obtain ⟨q1, q2, q3, q4, q5⟩ := rdEntry_back hok h0 h1 hn
    exact ⟨q1, q2, q3, by omega, q5⟩
end
theorem scEnts_back {l : List Int} (hok : okBytes l = true) : ∀ (m : Nat) (acc es : List S34) (a a' : Int), 0 ≤ a → a ≤ l.length → scEnts l m acc (.ok a) = (es, .ok a') →
    ∃ fs, es = acc ++ fs ∧ fs.length = m ∧ (∀ x ∈ fs, ¬ entBad x.f0 x.f1 x.f2 x.f3) ∧ (∀ x ∈ fs, x.f3.length ≤ 2048) ∧ from_ l a = fs.flatMap eBytes ++ from_ l a' ∧ 0 ≤ a' ∧ a' ≤ l.length
  | 0, acc, es, a, a', h0, h1, h => by
    unfold scEnts at h; cases h
    exact ⟨[], by simp, rfl, by simp, by simp, by simp, h0, h1⟩
  | m + 1, acc, es, a, a', h0, h1, h => by
    obtain ⟨x, s, hx⟩ : ∃ x s, scEntry l (.ok a) = (x, s) := ⟨_, _, rfl⟩
    rw [scEnts, hx] at h
    dsimp only at h
    cases s with
    | error y => have := scEnts_err h; cases this
    | ok a1 =>
      obtain ⟨q1, q2, q3, q4, q5⟩ := scEntry_back hok h0 h1 hx
      obtain ⟨fs, r1, r2, r3, r4, r5, r6, r7⟩ := scEnts_back hok m _ es a1 a' q4 q5 h
      refine ⟨toS x :: fs, by rw [r1]; simp, by simp [r2], ?_, ?_, by rw [q3, r5]; simp, r6, r7⟩
      · intro y hy
        rcases List.mem_cons.1 hy with rfl | hy
        · exact q1
        · exact r3 y hy
      · intro y hy
        rcases List.mem_cons.1 hy with rfl | hy
        · exact q2
        · exact r4 y hy
/-! A fault is no 0. -/
def Ne0 (s : Except Int Int) : Prop := ∀ x, s = .error x → x ≠ 0
theorem scOne_ne0 {l : List Int} {s s1 : Except Int Int} {a b k : Int} (hs : Ne0 s) (h : scOne l s a b = (k, s1)) : Ne0 s1 := by
  intro x hx
  subst hx
  cases s with
  | error y => have := scOne_err h; cases this; exact hs _ rfl
  | ok p =>
    unfold scOne at h; dsimp only at h
    cases hn : rdByte l p a b with
    | error y => rw [hn] at h; cases h; exact rdByte_ne0 hn
    | ok q => obtain ⟨q1, q2⟩ := q; rw [hn] at h; cases h
theorem scNum_ne0 {l : List Int} {s s1 : Except Int Int} {a k : Int} (hs : Ne0 s) (h : scNum l s a = (k, s1)) : Ne0 s1 := by
  intro x hx
  subst hx
  cases s with
  | error y => have := scNum_err h; cases this; exact hs _ rfl
  | ok p =>
    unfold scNum at h; dsimp only at h
    cases hn : rdNum l p a with
    | error y => rw [hn] at h; cases h; exact rdNum_ne0 hn
    | ok q => obtain ⟨q1, q2⟩ := q; rw [hn] at h; cases h
theorem scRow_ne0 {l d : List Int} {s s1 : Except Int Int} {a : Int} (hs : Ne0 s) (h : scRow l s a = (d, s1)) : Ne0 s1 := by
  intro x hx
  subst hx
  cases s with
  | error y => have := scRow_err h; cases this; exact hs _ rfl
  | ok p =>
    unfold scRow at h; dsimp only at h
    cases hn : rdData l p a with
    | error y => rw [hn] at h; cases h; exact rdData_ne0 hn
    | ok q => obtain ⟨q1, q2⟩ := q; rw [hn] at h; cases h
theorem scEntry_ne0 {l : List Int} {a : Int} : Ne0 (scEntry l (.ok a)).2 := by
  intro x hx
  cases hn : rdEntry l a with
  | error y => have := entry_error hn; rw [hx] at this; cases this; exact rdEntry_ne0 hn
  | ok p => obtain ⟨q, a1⟩ := p; have := entry_ok hn; rw [this] at hx; cases hx
theorem scEnts_ne0 {l : List Int} : ∀ (m : Nat) (acc es : List S34) (s s1 : Except Int Int), Ne0 s → scEnts l m acc s = (es, s1) → Ne0 s1
  | 0, acc, es, s, s1, hs, h => by unfold scEnts at h; cases h; exact hs
  | m + 1, acc, es, .error y, s1, hs, h => by unfold scEnts at h; cases h; exact hs
  | m + 1, acc, es, .ok a, s1, hs, h => by rw [scEnts] at h; exact scEnts_ne0 m _ es _ s1 scEntry_ne0 h
theorem scLim_ne0 {n : Int} {s : Except Int Int} (hs : Ne0 s) : Ne0 (scLim n s) := by
  intro x hx
  cases s with
  | error y => unfold scLim at hx; dsimp only at hx; cases hx; exact hs _ rfl
  | ok a => unfold scLim at hx; dsimp only at hx; split at hx <;> cases hx; decide
theorem scEnd_ne0 {l : List Int} {s s1 : Except Int Int} (hs : Ne0 s) (h : scEnd l s = s1) : Ne0 s1 := by
  intro x hx
  subst h
  cases s with
  | error y => unfold scEnd at hx; dsimp only at hx; cases hx; exact hs _ rfl
  | ok a => unfold scEnd at hx; dsimp only at hx; split at hx <;> cases hx; decide
/-- What a message's bytes come to: the message whose bytes they are, or a fault and nothing. -/
theorem refMsg_cases {l : List Int} (hok : okBytes l = true) :
    (∃ x, x ≠ 0 ∧ refMsg l = msgZ x) ∨ ∃ a0 a1 a2 a3 a4 a5 a6 a7 a8 a9 es d, refMsg l = (a0, a1, a2, a3, a4, a5, a6, a7, a8, a9, es, d, 0) ∧ ¬ msgArg a0 a1 a2 a3 a4 a5 a6 a7 a8 es = true ∧ ¬ msgLim es d = true ∧ l = msgBytes a0 a1 a2 a3 a4 a5 a6 a7 a8 a9 es d := by
  obtain ⟨k, s1, h1⟩ : ∃ k s, scOne l (.ok 0) 1 7 = (k, s) := ⟨_, _, rfl⟩
  obtain ⟨f, s2, h2⟩ : ∃ k s, scOne l s1 1 9 = (k, s) := ⟨_, _, rfl⟩
  obtain ⟨t, s3, h3⟩ : ∃ k s, scOne l s2 1 9 = (k, s) := ⟨_, _, rfl⟩
  obtain ⟨o, s4, h4⟩ : ∃ k s, scOne l s3 0 1 = (k, s) := ⟨_, _, rfl⟩
  obtain ⟨n1, s5, h5⟩ : ∃ k s, scNum l s4 0 = (k, s) := ⟨_, _, rfl⟩
  obtain ⟨n2, s6, h6⟩ : ∃ k s, scNum l s5 0 = (k, s) := ⟨_, _, rfl⟩
  obtain ⟨n3, s7, h7⟩ : ∃ k s, scNum l s6 0 = (k, s) := ⟨_, _, rfl⟩
  obtain ⟨n4, s8, h8⟩ : ∃ k s, scNum l s7 0 = (k, s) := ⟨_, _, rfl⟩
  obtain ⟨n5, s9, h9⟩ : ∃ k s, scNum l s8 0 = (k, s) := ⟨_, _, rfl⟩
  obtain ⟨n6, s10, h10⟩ : ∃ k s, scNum l s9 0 = (k, s) := ⟨_, _, rfl⟩
  obtain ⟨n, s11, h11⟩ : ∃ k s, scNum l s10 0 = (k, s) := ⟨_, _, rfl⟩
  obtain ⟨es, sR, he⟩ : ∃ es s, scEnts l n.toNat [] (scLim n s11) = (es, s) := ⟨_, _, rfl⟩
  obtain ⟨d, sD, hd⟩ : ∃ d s, scRow l sR 32768 = (d, s) := ⟨_, _, rfl⟩
  obtain ⟨sE, hE⟩ : ∃ s, scEnd l sD = s := ⟨_, rfl⟩
  have hM : MsgEq l k f t o n1 n2 n3 n4 n5 n6 n s1 s2 s3 s4 s5 s6 s7 s8 s9 s10 s11 sR sD sE es d := ⟨h1, h2, h3, h4, h5, h6, h7, h8, h9, h10, h11, he, hd, hE⟩
  have z0 : Ne0 (.ok 0) := fun x hx => by cases hx
  have z1 := scOne_ne0 z0 h1
  have z2 := scOne_ne0 z1 h2
  have z3 := scOne_ne0 z2 h3
  have z4 := scOne_ne0 z3 h4
  have z5 := scNum_ne0 z4 h5
  have z6 := scNum_ne0 z5 h6
  have z7 := scNum_ne0 z6 h7
  have z8 := scNum_ne0 z7 h8
  have z9 := scNum_ne0 z8 h9
  have z10 := scNum_ne0 z9 h10
  have z11 := scNum_ne0 z10 h11
  have zR := scEnts_ne0 _ _ _ _ _ (scLim_ne0 z11) he
  have zD := scRow_ne0 zR hd
  have zE := scEnd_ne0 zD hE
  cases s1 with
  | error x => exact .inl ⟨x, z1 x rfl, hM.e1 rfl⟩
  | ok p1 =>
  obtain ⟨u1, v1, f1, y1, w1⟩ := scOne_back (by omega) (by omega) h1
  cases s2 with
  | error x => exact .inl ⟨x, z2 x rfl, hM.e2 rfl⟩
  | ok p2 =>
  obtain ⟨u2, v2, f2, y2, w2⟩ := scOne_back y1 w1 h2
  cases s3 with
  | error x => exact .inl ⟨x, z3 x rfl, hM.e3 rfl⟩
  | ok p3 =>
  obtain ⟨u3, v3, f3, y3, w3⟩ := scOne_back y2 w2 h3
  cases s4 with
  | error x => exact .inl ⟨x, z4 x rfl, hM.e4 rfl⟩
  | ok p4 =>
  obtain ⟨u4, v4, f4, y4, w4⟩ := scOne_back y3 w3 h4
  cases s5 with
  | error x => exact .inl ⟨x, z5 x rfl, hM.e5 rfl⟩
  | ok p5 =>
  obtain ⟨_, u5, v5, f5, y5, w5⟩ := scNum_back hok y4 w4 h5
  cases s6 with
  | error x => exact .inl ⟨x, z6 x rfl, hM.e6 rfl⟩
  | ok p6 =>
  obtain ⟨_, u6, v6, f6, y6, w6⟩ := scNum_back hok y5 w5 h6
  cases s7 with
  | error x => exact .inl ⟨x, z7 x rfl, hM.e7 rfl⟩
  | ok p7 =>
  obtain ⟨_, u7, v7, f7, y7, w7⟩ := scNum_back hok y6 w6 h7
  cases s8 with
  | error x => exact .inl ⟨x, z8 x rfl, hM.e8 rfl⟩
  | ok p8 =>
  obtain ⟨_, u8, v8, f8, y8, w8⟩ := scNum_back hok y7 w7 h8
  cases s9 with
  | error x => exact .inl ⟨x, z9 x rfl, hM.e9 rfl⟩
  | ok p9 =>
  obtain ⟨_, u9, v9, f9, y9, w9⟩ := scNum_back hok y8 w8 h9
  cases s10 with
  | error x => exact .inl ⟨x, z10 x rfl, hM.e10 rfl⟩
  | ok p10 =>
  obtain ⟨_, u10, v10, f10, y10, w10⟩ := scNum_back hok y9 w9 h10
  cases s11 with
  | error x => exact .inl ⟨x, z11 x rfl, hM.e11 rfl⟩
  | ok p11 =>
  obtain ⟨_, u11, v11, f11, y11, w11⟩ := scNum_back hok y10 w10 h11
  by_cases h8' : 8 < n
  · exact .inl ⟨6, by decide, hM.eL (by rw [scLim, if_pos h8'])⟩
  rw [scLim, if_neg h8'] at he
  cases sR with
  | error x => exact .inl ⟨x, zR x rfl, hM.eR rfl⟩
  | ok pR =>
  obtain ⟨fs, r1, r2, r3, r4, r5, r6, r7⟩ := scEnts_back hok _ _ _ _ _ y11 w11 he
  rw [List.nil_append] at r1
  subst r1
  cases sD with
  | error x => exact .inl ⟨x, zD x rfl, hM.eD rfl⟩
  | ok pD =>
  obtain ⟨d1, d2, d3, d4⟩ := scRow_back hok r6 r7 hd
  cases sE with
  | error x => exact .inl ⟨x, zE x rfl, hM.eE rfl⟩
  | ok pE =>
  have hend : ¬ pD < l.length := fun hh => by unfold scEnd at hE; dsimp only at hE; rw [if_pos hh] at hE; cases hE
  have hnil := from_end hend
  have hnl : (es.length : Int) = n := by omega
  refine .inr ⟨k, f, t, n1, n2, n3, n4, n5, n6, o == 1, es, d, hM.res, ?_, ?_, ?_⟩
  · intro hh
    simp only [msgArg, accN, argBad, nbad, eArg, Bool.or_eq_true, Bool.not_eq_true', decide_eq_false_iff_not, List.any_eq_true, decide_eq_true_eq, List.getD_cons_zero, List.getD_cons_succ] at hh
    rcases hh with ((((((((h | h) | h) | h) | h) | h) | h) | h) | h) | ⟨x, hx, h⟩
    · exact h ⟨u1, v1⟩
    · exact h ⟨u2, v2⟩
    · exact h ⟨u3, v3⟩
    · exact h ⟨u5, v5⟩
    · exact h ⟨u6, v6⟩
    · exact h ⟨u7, v7⟩
    · exact h ⟨u8, v8⟩
    · exact h ⟨u9, v9⟩
    · exact h ⟨u10, v10⟩
    · exact r3 x hx h
  · intro hh
    simp only [msgLim, eLim, Bool.or_eq_true, decide_eq_true_eq, List.any_eq_true] at hh
    rcases hh with (h | h) | ⟨x, hx, h⟩
    · omega
    · omega
    · have := r4 x hx; omega
  · have ho : (if (o == 1) = true then (1 : Int) else 0) = o := by
      rcases (show o = 0 ∨ o = 1 by omega) with rfl | rfl <;> rfl
    rw [← from_zero l, f1, f2, f3, f4, f5, f6, f7, f8, f9, f10, f11, r5, d2, hnil]
    simp only [msgBytes, msgHead, ho, hnl]
    simp
end Go.Proofs.Ytlbioffpcoikaaa.PW
