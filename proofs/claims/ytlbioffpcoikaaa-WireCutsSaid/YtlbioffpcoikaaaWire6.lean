import Derived.Test.YtlbioffpcoikaaaWire5
import Derived.Test.YtlbioffpcoikaaaKindsW
import Derived.Test.YtlbioffpcoikaaaEPutMsg
import Derived.Test.YtlbioffpcoikaaaPWx20
import Derived.Test.YtlbioffpcoikaaaPWx23
import Derived.Test.YtlbioffpcoikaaaPWx26
namespace Go.Proofs.Ytlbioffpcoikaaa.PW
open Go.RowKit Go.Proofs.YtlbioffpcoikaaaW.PrintWords Go.Proofs.YtlbioffpcoikaaaW.PrintLast Go.Proofs.YtlbioffpcoikaaaW.PrintMore
set_option linter.unusedVariables false
set_option linter.unusedSimpArgs false

theorem rd_T34_at {l : List S34} {i : Int} (h0 : 0 ≤ i) (h1 : i < l.length) : l.drop i.toNat = rd_T34 l i :: l.drop (i + 1).toNat := by
  have h : i.toNat < l.length := by omega
  unfold rd_T34
  rw [List.drop_eq_getElem_cons h, List.getD_eq_getElem?_getD, List.getElem?_eq_getElem h, show (i + 1).toNat = i.toNat + 1 by omega]
  rfl
theorem rd_T34_take {l : List S34} {i : Int} (h0 : 0 ≤ i) (h1 : i < l.length) : l.take i.toNat ++ [rd_T34 l i] = l.take (i + 1).toNat := by
  have h : i.toNat < l.length := by omega
  unfold rd_T34
  rw [show (i + 1).toNat = i.toNat + 1 by omega, List.take_succ_eq_append_getElem h, List.getD_eq_getElem?_getD, List.getElem?_eq_getElem h]
  rfl
/-- Lengths that a message of memory has. -/
structure Lens (es : List S34) (d : List Int) : Prop where
  le : es.length < 2932031007402
  ld : d.length < 140737488355328
  lx : ∀ x ∈ es, x.f3.length < 140737488355328
theorem CopyEntries_l0 {es : List S34} {d : List Int} (L : Lens es d) : ∀ (m k : Nat) (i : Int), 0 ≤ i → i + m = es.length → m < k → tollgateref02_CopyEntries.l0 k es (es.take i.toNat) i = some es
  | 0, k + 1, i, h0, h1, _ => by
    rw [tollgateref02_CopyEntries.l0, if_neg (by omega), show i.toNat = es.length by omega, List.take_length]
  | m + 1, k + 1, i, h0, h1, hk => by
    have hl := L.lx _ (rd_T34_mem es i h0 (by omega))
    have he := L.le
    rw [tollgateref02_CopyEntries.l0, if_pos (by omega), if_pos h0]
    simp only [Option.bind_some, List.length_nil, List.nil_append]
    rw [if_pos (by omega), if_pos (by rw [List.length_take]; omega), wrap64_in (by omega)]
    have : es.take i.toNat ++ [(⟨(rd_T34 es i).f0, (rd_T34 es i).f1, (rd_T34 es i).f2, (rd_T34 es i).f3⟩ : S34)] = es.take (i + 1).toNat := rd_T34_take h0 (by omega)
    rw [this]
    exact CopyEntries_l0 L m k (i + 1) (by omega) (by omega) (by omega)
theorem CopyMsg_f {es : List S34} {d : List Int} (L : Lens es d) {k : Nat} (hk : es.length < k) (a0 a1 a2 a3 a4 a5 a6 a7 a8 : Int) (a9 : Bool) :
    tollgateref02_CopyMsg.f k a0 a1 a2 a3 a4 a5 a6 a7 a8 a9 es d = some (a0, a1, a2, a3, a4, a5, a6, a7, a8, a9, es, d) := by
  unfold tollgateref02_CopyMsg.f
  have hd := L.ld
  simp only [Option.bind_some, List.length_nil, List.nil_append]
  rw [if_pos (by omega)]
  unfold tollgateref02_CopyEntries.f
  have := CopyEntries_l0 L es.length k 0 (by omega) (by omega) hk
  simp only [show (0 : Int).toNat = 0 from rfl, List.take_zero] at this
  rw [this]; rfl
theorem SameEntries_l0 {es : List S34} (he : es.length < 2932031007402) : ∀ (m k : Nat) (i : Int), 0 ≤ i → i + m = es.length → m < k → tollgateref02_SameEntries.l0 k es es i = some true
  | 0, k + 1, i, h0, h1, _ => by rw [tollgateref02_SameEntries.l0, if_neg (by omega)]
  | m + 1, k + 1, i, h0, h1, hk => by
    rw [tollgateref02_SameEntries.l0, if_pos (by omega), if_pos h0, if_pos (by omega)]
    simp only [tollgateref02_SameEntry.f, if_true, beq_self_eq_true, Option.bind_some]
    rw [wrap64_in (by omega)]
    exact SameEntries_l0 he m k (i + 1) (by omega) (by omega) (by omega)
theorem SameMsg_f {es : List S34} {d : List Int} (L : Lens es d) {k : Nat} (hk : es.length < k) (a0 a1 a2 a3 a4 a5 a6 a7 a8 : Int) (a9 : Bool) :
    tollgateref02_SameMsg.f k a0 a1 a2 a3 a4 a5 a6 a7 a8 a9 es d a0 a1 a2 a3 a4 a5 a6 a7 a8 a9 es d = some true := by
  unfold tollgateref02_SameMsg.f tollgateref02_SameEntries.f
  simp only [if_true, bne_self_eq_false, Bool.false_eq_true, if_false, SameEntries_l0 L.le es.length k 0 (by omega) (by omega) hk, Option.bind_some, beq_self_eq_true]
theorem RightMsg_l1 {es : List S34} {d : List Int} (he : es.length < 2932031007402) (a0 a1 a2 a3 a4 a5 a6 a7 a8 : Int) (a9 : Bool) : ∀ (m k : Nat) (x5 : Bool) (i : Int), 0 ≤ i → i + m = es.length → m + 1 < k →
    tollgateref02_RightMsg.l1 k x5 i a0 a1 a2 a3 a4 a5 a6 a7 a8 a9 es d = some (if (es.drop i.toNat).any eArg = true then 2 else if (x5 || (es.drop i.toNat).any eLim) = true then 6 else 0)
  | 0, k + 1, x5, i, h0, h1, _ => by
    rw [tollgateref02_RightMsg.l1, if_neg (by omega), List.drop_eq_nil_of_le (by omega)]
    cases x5 <;> rfl
  | m + 1, k + 1, x5, i, h0, h1, hk => by
    have ih := fun x => RightMsg_l1 (d := d) he a0 a1 a2 a3 a4 a5 a6 a7 a8 a9 m k x (i + 1) (by omega) (by omega) (by omega)
    rw [tollgateref02_RightMsg.l1, if_pos (by omega), if_pos h0, RightEntry_f (by omega), rd_T34_at h0 (by omega)]
    simp only [Option.bind_some, List.any_cons]
    rw [wrap64_in (by omega), ih, ih]
    obtain ⟨x, hx⟩ : ∃ x, rd_T34 es i = x := ⟨_, rfl⟩
    rw [hx]
    unfold entErr eArg eLim
    by_cases hb : entBad x.f0 x.f1 x.f2 x.f3
    · simp [hb]
    · by_cases hl : 2048 < x.f3.length
      · cases x5 <;> simp [hb, hl]
      · cases x5 <;> simp [hb, hl]
theorem RightMsg_l0 {es : List S34} {d : List Int} (ns : List Int) (hn : ns.length ≤ 6) (a0 a1 a2 a3 a4 a5 a6 a7 a8 : Int) (a9 : Bool) : ∀ (m k : Nat) (i : Int), 0 ≤ i → i + m = ns.length →
    tollgateref02_RightMsg.l0 (m + 1 + k) ns i a0 a1 a2 a3 a4 a5 a6 a7 a8 a9 es d = if (ns.drop i.toNat).any nbad = true then some 2 else (if (es.length : Int) > 8 then (tollgateref02_RightMsg.j2 k true a0 a1 a2 a3 a4 a5 a6 a7 a8 a9 es d) else (tollgateref02_RightMsg.j2 k (decide ((d.length : Int) > 32768)) a0 a1 a2 a3 a4 a5 a6 a7 a8 a9 es d))
  | 0, k, i, h0, h1 => by
    rw [show 0 + 1 + k = k + 1 by omega, tollgateref02_RightMsg.l0, if_neg (by omega), List.drop_eq_nil_of_le (by omega)]
    rfl
  | m + 1, k, i, h0, h1 => by
    have ih := RightMsg_l0 (es := es) (d := d) ns hn a0 a1 a2 a3 a4 a5 a6 a7 a8 a9 m k (i + 1) (by omega) (by omega)
    rw [show m + 1 + 1 + k = (m + 1 + k) + 1 by omega, tollgateref02_RightMsg.l0, if_pos (by omega), if_pos h0, wrap64_in (by omega), ih]
    have hd : ns.drop i.toNat = rd ns i :: ns.drop (i + 1).toNat := by
      have h : i.toNat < ns.length := by omega
      unfold rd
      rw [List.drop_eq_getElem_cons h, List.getD_eq_getElem?_getD, List.getElem?_eq_getElem h, show (i + 1).toNat = i.toNat + 1 by omega]
      rfl
    rw [hd, List.any_cons]
    obtain ⟨x, hx⟩ : ∃ x, rd ns i = x := ⟨_, rfl⟩
    rw [hx]
    unfold nbad
    by_cases h1 : x < 0
    · rw [if_pos h1, decide_eq_false (show ¬ (0 ≤ x ∧ x ≤ 1099511627776) by omega)]; simp
    · by_cases h2 : x > 1099511627776
      · rw [if_neg h1, if_pos h2, decide_eq_false (show ¬ (0 ≤ x ∧ x ≤ 1099511627776) by omega)]; simp
      · rw [if_neg h1, if_neg h2, decide_eq_true (show 0 ≤ x ∧ x ≤ 1099511627776 by omega)]; simp
theorem accN_any (b : Bool) (n3 n4 n5 n6 n7 n8 : Int) : accN b [n3, n4, n5, n6, n7, n8] 6 = (b || [n3, n4, n5, n6, n7, n8].any nbad) := by
  simp [accN, Bool.or_assoc]
theorem RightMsg_j0 {es : List S34} {d : List Int} (he : es.length < 2932031007402) (a0 a1 a2 a3 a4 a5 a6 a7 a8 : Int) (a9 : Bool) (k : Nat) (hk : es.length + 12 < k) (x : Bool) :
    tollgateref02_RightMsg.j0 k x a0 a1 a2 a3 a4 a5 a6 a7 a8 a9 es d = some (if x = true then 2 else if [a3, a4, a5, a6, a7, a8].any nbad = true then 2 else if es.any eArg = true then 2 else if ((decide (8 < es.length) || decide (32768 < d.length)) || es.any eLim) = true then 6 else 0) := by
  obtain ⟨k, rfl⟩ : ∃ j, k = (6 + 1 + (j + 1)) + 1 := ⟨k - 9, by omega⟩
  rw [tollgateref02_RightMsg.j0, RightMsg_l0 [a3, a4, a5, a6, a7, a8] (by simp) a0 a1 a2 a3 a4 a5 a6 a7 a8 a9 6 (k + 1) 0 (by omega) (by simp)]
  rw [tollgateref02_RightMsg.j2, tollgateref02_RightMsg.j2, RightMsg_l1 he a0 a1 a2 a3 a4 a5 a6 a7 a8 a9 es.length k _ 0 (by omega) (by omega) (by omega), RightMsg_l1 he a0 a1 a2 a3 a4 a5 a6 a7 a8 a9 es.length k _ 0 (by omega) (by omega) (by omega)]
  have e2 : decide ((d.length : Int) > 32768) = decide (32768 < d.length) := by rw [decide_eq_decide]; omega
  rw [e2]
  simp only [show (0 : Int).toNat = 0 from rfl, List.drop_zero]
  cases x with
  | true => simp
  | false =>
    simp only [Bool.false_eq_true, if_false]
    by_cases hn : [a3, a4, a5, a6, a7, a8].any nbad = true
    · rw [if_pos hn, if_pos hn]
    · rw [if_neg hn, if_neg hn]
      by_cases h8 : (es.length : Int) > 8
      · rw [if_pos h8, decide_eq_true (show 8 < es.length by omega)]; simp
      · rw [if_neg h8, decide_eq_false (show ¬ 8 < es.length by omega)]; simp
theorem RightMsg_f {es : List S34} {d : List Int} (he : es.length < 2932031007402) (a0 a1 a2 a3 a4 a5 a6 a7 a8 : Int) (a9 : Bool) (k : Nat) (hk : es.length + 12 < k) :
    tollgateref02_RightMsg.f k a0 a1 a2 a3 a4 a5 a6 a7 a8 a9 es d = some (msgErr a0 a1 a2 a3 a4 a5 a6 a7 a8 es d) := by
  have hj := RightMsg_j0 (d := d) he a0 a1 a2 a3 a4 a5 a6 a7 a8 a9 k hk
  unfold tollgateref02_RightMsg.f msgErr msgArg
  rw [hj, hj, accN_any]
  have hb : ∀ b : Bool, b = argBad a0 a1 a2 → (some (if b = true then (2 : Int) else if [a3, a4, a5, a6, a7, a8].any nbad = true then 2 else if es.any eArg = true then 2 else if ((decide (8 < es.length) || decide (32768 < d.length)) || es.any eLim) = true then 6 else 0)) = some (if (argBad a0 a1 a2 || [a3, a4, a5, a6, a7, a8].any nbad || es.any eArg) = true then 2 else if msgLim es d = true then 6 else 0) := by
    rintro b rfl
    unfold msgLim
    cases argBad a0 a1 a2 <;> cases [a3, a4, a5, a6, a7, a8].any nbad <;> cases es.any eArg <;> simp
  have hT : (1 ≤ a0 → a0 ≤ 7 → 1 ≤ a1 → a1 ≤ 9 → ¬ 1 ≤ a2) → true = argBad a0 a1 a2 := by
    intro h
    unfold argBad
    by_cases h0 : 1 ≤ a0 ∧ a0 ≤ 7
    · by_cases h1 : 1 ≤ a1 ∧ a1 ≤ 9
      · rw [decide_eq_false (show ¬ (1 ≤ a2 ∧ a2 ≤ 9) from fun hh => h h0.1 h0.2 h1.1 h1.2 hh.1)]; simp
      · rw [decide_eq_false h1]; simp
    · rw [decide_eq_false h0]; simp
  have h := hb true
  by_cases h1 : a0 < 1
  · rw [if_pos h1]; exact h (hT (by omega))
  · rw [if_neg h1]
    by_cases h2 : a0 > 7
    · rw [if_pos h2]; exact h (hT (by omega))
    · rw [if_neg h2]
      by_cases h3 : a1 < 1
      · rw [if_pos h3]; exact h (hT (by omega))
      · rw [if_neg h3]
        by_cases h4 : a1 > 9
        · rw [if_pos h4]; exact h (hT (by omega))
        · rw [if_neg h4]
          by_cases h5 : a2 < 1
          · rw [if_pos h5]; exact h (hT (by omega))
          · rw [if_neg h5]
            refine hb _ ?_
            unfold argBad
            rw [decide_eq_true (show 1 ≤ a0 ∧ a0 ≤ 7 by omega), decide_eq_true (show 1 ≤ a1 ∧ a1 ≤ 9 by omega)]
            by_cases h6 : a2 > 9
            · rw [decide_eq_true h6, decide_eq_false (show ¬ (1 ≤ a2 ∧ a2 ≤ 9) by omega)]; rfl
            · rw [decide_eq_false h6, decide_eq_true (show 1 ≤ a2 ∧ a2 ≤ 9 by omega)]; rfl
theorem refPutMsg_l0 {es : List S34} {d : List Int} (h8 : es.length ≤ 8) (hd : d.length ≤ 32768) (hb : ∀ e ∈ es, ¬ entBad e.f0 e.f1 e.f2 e.f3) (hl : ∀ e ∈ es, e.f3.length ≤ 2048) (pre : List Int) (hp : pre.length ≤ 1000) (a0 a1 a2 a3 a4 a5 a6 a7 a8 : Int) (a9 : Bool) : ∀ (m k : Nat) (i : Int), 0 ≤ i → i + m = es.length → m + 12 < k →
    tollgateref02_PutMsg.l0 k (pre ++ entsUpto es i) i a0 a1 a2 a3 a4 a5 a6 a7 a8 a9 es d = some (pre ++ es.flatMap eBytes ++ enc d.length ++ d, 0)
  | 0, k + 1, i, h0, h1, hk => by
    have hi : i = es.length := by omega
    subst hi
    have he := entsUpto_len hb hl h8 (es.length : Int)
    rw [entsUpto_all] at he
    have hn := enc_len (n := (d.length : Int)) (by omega) (by omega)
    rw [tollgateref02_PutMsg.l0, if_neg (by omega), entsUpto_all, add_f (by omega) (by omega) (by omega) (by rw [List.length_append]; omega)]
    simp only [Option.bind_some]
    rw [if_pos (by simp only [List.length_append]; omega)]
  | m + 1, k + 1, i, h0, h1, hk => by
    have ih := refPutMsg_l0 (d := d) h8 hd hb hl pre hp a0 a1 a2 a3 a4 a5 a6 a7 a8 a9 m k (i + 1) (by omega) (by omega) (by omega)
    have hm := rd_T34_mem es i h0 (by omega)
    have he := entsUpto_len hb hl h8 i
    have hx := eBytes_len (hb _ hm) (hl _ hm)
    rw [tollgateref02_PutMsg.l0, if_pos (by omega), if_pos h0, refPutEntry_f (by omega)]
    simp only [Option.bind_some]
    have e0 : entErr (rd_T34 es i).f0 (rd_T34 es i).f1 (rd_T34 es i).f2 (rd_T34 es i).f3 = 0 := by unfold entErr; rw [if_neg (hb _ hm), if_neg (by have := hl _ hm; omega)]
    rw [e0, if_pos rfl, if_pos (by have : (entBytes (rd_T34 es i).f0 (rd_T34 es i).f1 (rd_T34 es i).f2 (rd_T34 es i).f3).length = (eBytes (rd_T34 es i)).length := rfl
                                   simp only [List.length_append]; omega), wrap64_in (by omega)]
    have hs := entsUpto_step pre es i h0 (by omega)
    have : pre ++ entsUpto es i ++ entBytes (rd_T34 es i).f0 (rd_T34 es i).f1 (rd_T34 es i).f2 (rd_T34 es i).f3 = pre ++ entsUpto es (i + 1) := hs
    rw [this]
    exact ih
theorem refPutMsg_j0 {es : List S34} {d : List Int} (a0 a1 a2 a3 a4 a5 a6 a7 a8 : Int) (a9 : Bool) (hA : ¬ msgArg a0 a1 a2 a3 a4 a5 a6 a7 a8 es = true) (hL : ¬ msgLim es d = true) (k : Nat) (hk : es.length + 20 < k) (x : Int) (hx : x = if a9 = true then 1 else 0) :
    tollgateref02_PutMsg.j0 k x a0 a1 a2 a3 a4 a5 a6 a7 a8 a9 es d = some (msgBytes a0 a1 a2 a3 a4 a5 a6 a7 a8 a9 es d, 0) := by
  obtain ⟨k, rfl⟩ : ∃ j, k = j + 1 := ⟨k - 1, by omega⟩
  obtain ⟨m0, m1, m2, m3, m4, m5, m6, m7, m8, m9⟩ := msgArg_ok hA
  obtain ⟨l1, l2, l3⟩ := msgLim_ok hL
  have e3 := enc_len m3.1 m3.2
  have e4 := enc_len m4.1 m4.2
  have e5 := enc_len m5.1 m5.2
  have e6 := enc_len m6.1 m6.2
  have e7 := enc_len m7.1 m7.2
  have e8 := enc_len m8.1 m8.2
  have e9 := enc_len (n := (es.length : Int)) (by omega) (by omega)
  rw [tollgateref02_PutMsg.j0, show a0 % 256 = a0 by omega, show a1 % 256 = a1 by omega, show a2 % 256 = a2 by omega]
  rw [add_f (by omega) m3.1 m3.2 (by simp)]; simp only [Option.bind_some]
  rw [add_f (by omega) m4.1 m4.2 (by simp only [List.length_append, List.length_cons, List.length_nil]; omega)]; simp only [Option.bind_some]
  rw [add_f (by omega) m5.1 m5.2 (by simp only [List.length_append, List.length_cons, List.length_nil]; omega)]; simp only [Option.bind_some]
  rw [add_f (by omega) m6.1 m6.2 (by simp only [List.length_append, List.length_cons, List.length_nil]; omega)]; simp only [Option.bind_some]
  rw [add_f (by omega) m7.1 m7.2 (by simp only [List.length_append, List.length_cons, List.length_nil]; omega)]; simp only [Option.bind_some]
  rw [add_f (by omega) m8.1 m8.2 (by simp only [List.length_append, List.length_cons, List.length_nil]; omega)]; simp only [Option.bind_some]
  rw [add_f (by omega) (by omega) (by omega) (by simp only [List.length_append, List.length_cons, List.length_nil]; omega)]; simp only [Option.bind_some]
  have h := refPutMsg_l0 l1 l2 m9 l3 ([a0, a1, a2, x] ++ enc a3 ++ enc a4 ++ enc a5 ++ enc a6 ++ enc a7 ++ enc a8 ++ enc es.length) (by simp only [List.length_append, List.length_cons, List.length_nil]; omega) a0 a1 a2 a3 a4 a5 a6 a7 a8 a9 es.length k 0 (by omega) (by omega) (by omega)
  rw [entsUpto_zero] at h
  rw [h, hx]
  simp [msgBytes, msgHead]
theorem refPutMsg_f {es : List S34} {d : List Int} (he : es.length < 2932031007402) (a0 a1 a2 a3 a4 a5 a6 a7 a8 : Int) (a9 : Bool) (k : Nat) (hk : es.length + 20 < k) :
    tollgateref02_PutMsg.f k a0 a1 a2 a3 a4 a5 a6 a7 a8 a9 es d = some (putMsg a0 a1 a2 a3 a4 a5 a6 a7 a8 a9 es d) := by
  unfold tollgateref02_PutMsg.f putMsg
  rw [RightMsg_f he a0 a1 a2 a3 a4 a5 a6 a7 a8 a9 k (by omega)]
  simp only [Option.bind_some]
  by_cases h : msgErr a0 a1 a2 a3 a4 a5 a6 a7 a8 es d = 0
  · rw [if_pos h, if_pos h]
    have hA : ¬ msgArg a0 a1 a2 a3 a4 a5 a6 a7 a8 es = true := fun hh => by unfold msgErr at h; rw [if_pos hh] at h; cases h
    have hL : ¬ msgLim es d = true := fun hh => by unfold msgErr at h; rw [if_neg hA, if_pos hh] at h; cases h
    by_cases h9 : a9 = true
    · rw [if_pos h9]; exact refPutMsg_j0 a0 a1 a2 a3 a4 a5 a6 a7 a8 a9 hA hL k hk 1 (by rw [if_pos h9])
    · rw [if_neg h9]; exact refPutMsg_j0 a0 a1 a2 a3 a4 a5 a6 a7 a8 a9 hA hL k hk 0 (by rw [if_neg h9])
  · rw [if_neg h, if_neg h]
theorem lens_good {x : S40} (g : Good40 x) : Lens x.f10 x.f11 := by
  obtain ⟨_, _, _, _, _, _, _, _, _, _, g10, g11⟩ := g
  refine ⟨?_, ?_, fun y hy => ?_⟩
  · have := g10.1; simp only [reachBytes] at this; omega
  · have := g11.1; simp only [reachBytes] at this; omega
  · have := (g10.2.2 y hy).2.2.2.1; simp only [reachBytes] at this; omega
end Go.Proofs.Ytlbioffpcoikaaa.PW
