/- The texts of this claim's seat, joined: part 9. -/
import Derived.Test.YtmmiipnmimjojaaJ8
section
namespace Go.Proofs.Ytmmiipnmimjojaa.PS
open Go.RowKit Go.Proofs.YtmmiipnmimjojaaW.PrintWords Go.Proofs.YtmmiipnmimjojaaW.PrintLast Go.Proofs.YtmmiipnmimjojaaW.PrintMore
open Go.Maps Go.Proofs.Ytmmiipnmimjojaa.PD
set_option linter.unusedVariables false
set_option linter.unusedSimpArgs false
def wU (a : Int) : List Int → List S166
  | [] => []
  | x :: b => ⟨false, a, x⟩ :: wU (a + 1) b
def unitsOf (c : S114) : List S166 := if c.f0 = true then [⟨true, c.f1, 0⟩] else wU c.f2 c.f3
def flat : List S114 → List S166
  | [] => []
  | c :: cs => unitsOf c ++ flat cs
def u1 (u : S166) (o : List Int) : List Int := if u.f0 = true then o.take u.f1.toNat else if u.f1 < (o.length : Int) then o.set u.f1.toNat u.f2 else o ++ [u.f2]
def mkU : List S166 → List Int → List Int
  | [], o => o
  | u :: us, o => mkU us (u1 u o)
theorem mkU_append : ∀ (a b : List S166) (o : List Int), mkU (a ++ b) o = mkU b (mkU a o)
  | [], _, _ => rfl
  | _ :: a, b, o => mkU_append a b _
theorem wU_len : ∀ (a : Int) (b : List Int), (wU a b).length = b.length
  | _, [] => rfl
  | a, _ :: b => by simp [wU, wU_len (a + 1) b]
theorem wU_take : ∀ (m : Nat) (a : Int) (b : List Int), (wU a b).take m = wU a (b.take m)
  | 0, _, _ => by simp [wU]
  | m + 1, _, [] => by simp [wU]
  | m + 1, a, x :: b => by simp [wU, wU_take m (a + 1) b]
theorem wU_append : ∀ (a : Int) (b c : List Int), wU a (b ++ c) = wU a b ++ wU (a + b.length) c
  | a, [], c => by simp [wU]
  | a, x :: b, c => by
    simp only [List.cons_append, wU, wU_append (a + 1) b c, List.length_cons]
    rw [show a + 1 + (b.length : Int) = a + ((b.length + 1 : Nat) : Int) by omega]
/-- Bytes one by one. -/
theorem mkU_w : ∀ (b : List Int) (a : Int) (o : List Int), 0 ≤ a → a ≤ o.length → mkU (wU a b) o = layL o a.toNat b
  | [], a, o, h0, h1 => by rw [layL_nil (by omega)]; rfl
  | x :: b, a, o, h0, h1 => by
    show mkU (wU (a + 1) b) (u1 ⟨false, a, x⟩ o) = _
    unfold u1
    rw [if_neg (by simp)]
    by_cases hlt : a < (o.length : Int)
    · rw [if_pos hlt]
      rw [mkU_w b (a + 1) (o.set a.toNat x) (by omega) (by rw [List.length_set]; omega)]
      unfold layL
      have e : (a + 1).toNat = a.toNat + 1 := by omega
      rw [e]
      have hd : (o.set a.toNat x).drop (a.toNat + 1 + b.length) = o.drop (a.toNat + 1 + b.length) := by rw [List.drop_set_of_lt (by omega)]
      have ht : (o.set a.toNat x).take (a.toNat + 1) = o.take a.toNat ++ [x] := by
        rw [List.take_succ_eq_append_getElem (by rw [List.length_set]; omega), List.take_set_of_le (Nat.le_refl _)]
        simp
      rw [hd, ht, List.length_cons, show a.toNat + (b.length + 1) = a.toNat + 1 + b.length by omega]
      simp
    · have ea : a = o.length := by omega
      rw [if_neg hlt]
      rw [mkU_w b (a + 1) (o ++ [x]) (by omega) (by simp; omega)]
      subst ea
      unfold layL
      have e : ((o.length : Int) + 1).toNat = o.length + 1 := by omega
      rw [e, show ((o.length : Int)).toNat = o.length by omega]
      rw [List.drop_eq_nil_of_le (by simp), List.drop_eq_nil_of_le (by omega)]
      rw [List.take_of_length_le (by simp), List.take_length]
      simp
theorem unitsOf_len (c : S114) : ((unitsOf c).length : Int) = chN c := by
  unfold unitsOf chN
  split
  · rfl
  · rw [wU_len]
/-- The first units of a change. -/
theorem mkU_ap1 (c : S114) (o : List Int) (h1 : c.f0 = false → 0 ≤ c.f2 ∧ c.f2 ≤ o.length) (m : Nat) (hm : (m : Int) ≤ chN c) : mkU ((unitsOf c).take m) o = ap1 c o m := by
  by_cases h0 : m = 0
  · subst h0
    rw [List.take_zero]
    exact (ap1_zero _ _).symm
  · unfold unitsOf ap1
    unfold chN at hm
    rw [if_neg (show ¬ (m : Int) = 0 by omega)]
    by_cases hc : c.f0 = true
    · rw [if_pos hc, if_pos hc]
      rw [if_pos hc] at hm
      obtain rfl : m = 1 := by omega
      show u1 ⟨true, c.f1, 0⟩ o = _
      unfold u1
      rw [if_pos rfl]
    · rw [if_neg hc, if_neg hc]
      have hf := h1 (by simpa using hc)
      rw [wU_take, mkU_w _ _ _ hf.1 hf.2]
      rfl
theorem mkU_ap1_all (c : S114) (o : List Int) (h1 : c.f0 = false → 0 ≤ c.f2 ∧ c.f2 ≤ o.length) : mkU (unitsOf c) o = ap1 c o (chN c) := by
  have := mkU_ap1 c o h1 (unitsOf c).length (by rw [unitsOf_len]; exact Int.le_refl _)
  rw [List.take_length, unitsOf_len] at this
  exact this
theorem mkAll_flat {B : Nat} : ∀ {cs : List S114} {o : List Int}, ChB B cs o → mkU (flat cs) o = mkAll cs o
  | [], _, _ => rfl
  | c :: cs, o, h => by
    show mkU (unitsOf c ++ flat cs) o = mkAll cs (ap1 c o (chN c))
    rw [mkU_append, mkU_ap1_all c o h.2.2.1]
    exact mkAll_flat h.2.2.2.2
/-- The first k units: as the program makes them. -/
theorem aft_flat {B : Nat} (k : Int) : ∀ (cs : List S114) (o : List Int) (u : Int), u ≤ k → (u = k ∨ ChB B cs o) →
    aft k cs (o, u) = (mkU ((flat cs).take (k - u).toNat) o, u + min (k - u) (flat cs).length)
  | [], o, u, hu, _ => by
    show (o, u) = _
    simp only [flat, List.take_nil, List.length_nil]
    rw [show min (k - u) ((0 : Nat) : Int) = 0 by omega, Int.add_zero]
    rfl
  | c :: cs, o, u, hu, h => by
    have hc := chN_0 c
    have hl := unitsOf_len c
    show aft k cs (ap1 c o (min (chN c) (k - u)), u + min (chN c) (k - u)) = _
    have hfl : (flat (c :: cs)).length = (unitsOf c).length + (flat cs).length := by simp [flat]
    by_cases he : u = k
    · subst he
      rw [show min (chN c) (u - u) = 0 by omega, ap1_zero, show u - u = 0 by omega]
      have := aft_flat (B := B) u cs o u (Int.le_refl _) (.inl rfl)
      rw [Int.add_zero, this, show u - u = 0 by omega]
      congr 1
    · have hch : ChB B (c :: cs) o := by rcases h with h | h; exact absurd h he; exact h
      by_cases hh : chN c ≤ k - u
      · rw [Int.min_eq_left hh]
        rw [aft_flat (B := B) k cs _ _ (by omega) (.inr hch.2.2.2.2)]
        rw [hfl]
        refine Prod.ext ?_ ?_
        · show mkU _ _ = mkU ((unitsOf c ++ flat cs).take _) o
          rw [List.take_append, mkU_append, List.take_of_length_le (show (unitsOf c).length ≤ (k - u).toNat by rw [← hl] at hh; omega), mkU_ap1_all c o hch.2.2.1]
          rw [show (k - u).toNat - (unitsOf c).length = (k - (u + chN c)).toNat by omega]
        · show u + chN c + min (k - (u + chN c)) ((flat cs).length : Int) = u + min (k - u) (((unitsOf c).length + (flat cs).length : Nat) : Int)
          omega
      · rw [Int.min_eq_right (by omega)]
        rw [aft_flat (B := B) k cs _ _ (by omega) (.inl (by omega))]
        rw [hfl]
        refine Prod.ext ?_ ?_
        · show mkU _ _ = mkU ((unitsOf c ++ flat cs).take _) o
          rw [show (k - (u + (k - u))).toNat = 0 by omega, List.take_zero, List.take_append, show (k - u).toNat - (unitsOf c).length = 0 by omega, List.take_zero, List.append_nil]
          show ap1 c o (k - u) = _
          rw [mkU_ap1 c o hch.2.2.1 _ (by omega), show (((k - u).toNat : Nat) : Int) = k - u by omega]
        · show u + (k - u) + min (k - (u + (k - u))) ((flat cs).length : Int) = u + min (k - u) (((unitsOf c).length + (flat cs).length : Nat) : Int)
          omega
theorem flat_append : ∀ (a b : List S114), flat (a ++ b) = flat a ++ flat b
  | [], _ => rfl
  | c :: a, b => by
    show unitsOf c ++ flat (a ++ b) = unitsOf c ++ flat a ++ flat b
    rw [flat_append a b, List.append_assoc]
theorem flat_write (cs : List S114) (at_ : Int) (b : List Int) : flat (cs ++ [⟨false, 0, at_, b⟩]) = flat cs ++ wU at_ b := by
  rw [flat_append]
  show _ ++ (unitsOf ⟨false, 0, at_, b⟩ ++ []) = _
  rw [List.append_nil]
  rfl
theorem flat_cut (cs : List S114) (z : Int) : flat (cs ++ [⟨true, z, 0, []⟩]) = flat cs ++ [⟨true, z, 0⟩] := by
  rw [flat_append]
  rfl
def refF (p : Nm × Fil) : S144 := ⟨str p.1, p.2.f2, p.2.f1, flat p.2.f3⟩
def refL (l : List (Nm × Fil)) : List S144 := l.map refF
def findR (s : ByteArray) : List S144 → Nat → Int
  | [], _ => -1
  | x :: l, i => if x.f0 = s then i else findR s l (i + 1)
theorem str_inj {a b : Nm} (h : str a = str b) : a = b := by
  have : (str a).data.toList = (str b).data.toList := by rw [h]
  exact this
theorem str_eq {n : Nm} {s : ByteArray} : str n = s ↔ n = s.data.toList := ⟨fun h => by rw [← h]; rfl, fun h => by rw [h]; rfl⟩
theorem find_none {s : ByteArray} : ∀ {l : List (Nm × Fil)} {i : Nat}, aget s.data.toList l = none → findR s (refL l) i = -1
  | [], _, _ => rfl
  | p :: l, i, h => by
    unfold aget at h
    split at h
    · cases h
    · next hne =>
      show (if str p.1 = s then (i : Int) else findR s (refL l) (i + 1)) = -1
      rw [if_neg (fun e => hne (str_eq.1 e))]
      exact find_none h
theorem find_some {s : ByteArray} {f : Fil} : ∀ {l : List (Nm × Fil)} {i : Nat}, aget s.data.toList l = some f → ∃ j, findR s (refL l) i = ((i + j : Nat) : Int) ∧ j < l.length ∧ l[j]? = some (s.data.toList, f)
  | p :: l, i, h => by
    unfold aget at h
    show ∃ j, (if str p.1 = s then (i : Int) else findR s (refL l) (i + 1)) = _ ∧ _
    split at h
    · next he =>
      injection h with h
      refine ⟨0, by rw [if_pos (str_eq.2 he)]; rfl, by simp, ?_⟩
      rw [← he, ← h]; rfl
    · next hne =>
      obtain ⟨j, h1, h2, h3⟩ := find_some (i := i + 1) h
      refine ⟨j + 1, ?_, by simp; omega, by simpa using h3⟩
      rw [if_neg (fun e => hne (str_eq.1 e)), h1]
      congr 1; omega
/-- put's rounds. -/
def putP (f x : S144) (p : List S144 × Bool) : List S144 × Bool := if p.2 = false ∧ nlt x.f0.data.toList f.f0.data.toList = false then (p.1 ++ [f], true) else p
def putS (f : S144) : List S144 → List S144 × Bool → List S144 × Bool
  | [], p => p
  | x :: l, p => putS f l (if x.f0 = f.f0 then putP f x p else ((putP f x p).1 ++ [x], (putP f x p).2))
theorem putS_cons (f x : S144) (l : List S144) (p : List S144 × Bool) : putS f (x :: l) p = putS f l (if x.f0 = f.f0 then putP f x p else ((putP f x p).1 ++ [x], (putP f x p).2)) := rfl
theorem putP_done (f x : S144) (o : List S144) : putP f x (o, true) = (o, true) := by unfold putP; rw [if_neg (fun h => by cases h.1)]
theorem putP_in {f x : S144} (o : List S144) (h : nlt x.f0.data.toList f.f0.data.toList = false) : putP f x (o, false) = (o ++ [f], true) := by unfold putP; rw [if_pos ⟨rfl, h⟩]
theorem putP_on {f x : S144} (o : List S144) (h : nlt x.f0.data.toList f.f0.data.toList = true) : putP f x (o, false) = (o, false) := by unfold putP; rw [if_neg (fun h' => by rw [h] at h'; cases h'.2)]
def putR (l : List S144) (f : S144) : List S144 := if (putS f l ([], false)).2 = true then (putS f l ([], false)).1 else (putS f l ([], false)).1 ++ [f]
def woR (l : List S144) (s : ByteArray) : List S144 := l.filter fun x => !decide (x.f0 = s)
theorem putS_done {f : S144} : ∀ {l : List S144} {out : List S144}, putS f l (out, true) = (out ++ woR l f.f0, true)
  | [], out => by simp [putS, woR]
  | x :: l, out => by
    rw [putS_cons, putP_done]
    by_cases e : x.f0 = f.f0
    · rw [if_pos e, putS_done]
      simp [woR, e]
    · rw [if_neg e, putS_done]
      simp [woR, e]
theorem wo_same {s : ByteArray} {l : List (Nm × Fil)} (h : ∀ p ∈ l, p.1 ≠ s.data.toList) : woR (refL l) s = refL l := by
  unfold woR
  rw [List.filter_eq_self]
  intro x hx
  obtain ⟨p, hp, rfl⟩ := List.mem_map.1 hx
  have := h p hp
  have hn : ¬ (refF p).f0 = s := fun e => this (str_eq.1 e)
  simp [hn]
theorem wo_del {s : ByteArray} (l : List (Nm × Fil)) : woR (refL l) s = refL (adel s.data.toList l) := by
  unfold woR refL adel
  rw [List.filter_map]
  congr 1
  refine List.filter_congr fun p _ => ?_
  show (!decide (str p.1 = s)) = !(p.1 == s.data.toList)
  by_cases e : p.1 = s.data.toList
  · rw [show (p.1 == s.data.toList) = true by simpa using e, decide_eq_true (str_eq.2 e)]
  · rw [show (p.1 == s.data.toList) = false by simpa using e, decide_eq_false (fun h => e (str_eq.1 h))]
theorem putS_aput {n : Nm} {f : Fil} : ∀ {l : List (Nm × Fil)} {out : List S144}, Srt l →
    (if (putS (refF (n, f)) (refL l) (out, false)).2 = true then (putS (refF (n, f)) (refL l) (out, false)).1 else (putS (refF (n, f)) (refL l) (out, false)).1 ++ [refF (n, f)]) = out ++ refL (aput n f l)
  | [], out, _ => by simp [putS, refL, aput]
  | p :: l, out, hs => by
    obtain ⟨h1, h2⟩ := List.pairwise_cons.1 hs
    have e0 : ∀ q, putS (refF (n, f)) (refL (p :: l)) q = putS (refF (n, f)) (refL l) (if (refF p).f0 = (refF (n, f)).f0 then putP (refF (n, f)) (refF p) q else ((putP (refF (n, f)) (refF p) q).1 ++ [refF p], (putP (refF (n, f)) (refF p) q).2)) := fun q => rfl
    rw [e0]
    unfold aput
    by_cases e : p.1 = n
    · have hin := putP_in (f := refF (n, f)) (x := refF p) out (by show nlt p.1 n = false; rw [e, nlt_irrefl])
      rw [if_pos (show (refF p).f0 = (refF (n, f)).f0 by show str p.1 = str n; rw [e]), hin, if_pos e, putS_done]
      rw [if_pos rfl]
      have : woR (refL l) (refF (n, f)).f0 = refL l := wo_same (s := str n) (fun q hq => fun e' => nlt_ne (h1 q hq) (by rw [e]; exact e'.symm))
      rw [this]
      simp [refL]
    · have hne : ¬ (refF p).f0 = (refF (n, f)).f0 := fun h => e (str_inj h)
      rw [if_neg hne, if_neg e]
      by_cases hl : nlt n p.1 = true
      · have hin := putP_in (f := refF (n, f)) (x := refF p) out (by show nlt p.1 n = false; exact nlt_asymm hl)
        rw [hin, if_pos hl, putS_done, if_pos rfl]
        have : woR (refL l) (refF (n, f)).f0 = refL l := wo_same (s := str n) (fun q hq => fun e' => nlt_ne (nlt_trans hl (h1 q hq)) (by exact e'.symm))
        rw [this]
        simp [refL]
      · have hl2 : nlt p.1 n = true := by rcases nlt_total e with h | h; exact h; exact absurd h hl
        have hon := putP_on (f := refF (n, f)) (x := refF p) out (by show nlt p.1 n = true; exact hl2)
        rw [hon, if_neg hl]
        dsimp only
        rw [putS_aput h2]
        simp [refL]
theorem put_aput {n : Nm} {f : Fil} {l : List (Nm × Fil)} (h : Srt l) : putR (refL l) (refF (n, f)) = refL (aput n f l) := by
  unfold putR
  have := putS_aput (n := n) (f := f) (out := []) h
  rw [this]; rfl
theorem ref_get {l : List (Nm × Fil)} {j : Nat} {p : Nm × Fil} (h : l[j]? = some p) : (refL l)[j]? = some (refF p) := by
  unfold refL
  rw [List.getElem?_map, h]; rfl
theorem ref_len (l : List (Nm × Fil)) : (refL l).length = l.length := by simp [refL]
/-- Its bytes now. -/
def nowR (f : S144) : List Int := mkU f.f3 f.f2
theorem now_ref {N : Nat} {n : Nm} {f : Fil} (h : FInv N n f) : nowR (refF (n, f)) = f.f0 := by
  show mkU (flat f.f3) f.f1 = _
  rw [mkAll_flat h.ch, h.now]
def usedR (l : List S144) : Nat := (l.map fun f => (nowR f).length).sum
theorem used_ref {N : Nat} : ∀ {l : List (Nm × Fil)}, (∀ n f, (n, f) ∈ l → FInv N n f) → usedR (refL l) = usedB l
  | [], _ => rfl
  | p :: l, h => by
    have h1 := now_ref (h p.1 p.2 (.head _))
    have h2 := used_ref (l := l) (fun n f hx => h n f (.tail _ hx))
    show (nowR (refF p)).length + usedR (refL l) = p.2.f0.length + usedB l
    rw [h2, show refF p = refF (p.1, p.2) from rfl, h1]
/-- What a crash leaves. -/
def crR (keep : List Int) : Nat → List S144 → List S144
  | _, [] => []
  | i, f :: l => if f.f1 = false ∧ (kOf keep i = 0 ∨ f.f3.length = 0) then crR keep (i + 1) l else ⟨f.f0, true, mkU (f.f3.take (kOf keep i).toNat) f.f2, []⟩ :: crR keep (i + 1) l
theorem cr_ref {N : Nat} (keep : List Int) : ∀ (i : Nat) (l : List (Nm × Fil)), (∀ n f, (n, f) ∈ l → FInv N n f) → crR keep i (refL l) = refL (crL keep i l)
  | _, [], _ => rfl
  | i, (n, f) :: l, h => by
    have hf := h n f (.head _)
    have ih := cr_ref keep (i + 1) l (fun n f hx => h n f (.tail _ hx))
    have hk0 : 0 ≤ kOf keep i := by unfold kOf; split <;> omega
    have ha := aft_flat (B := 262144) (kOf keep i) f.f3 f.f1 0 hk0 (.inr hf.ch)
    rw [show kOf keep i - 0 = kOf keep i by omega] at ha
    show (if f.f2 = false ∧ (kOf keep i = 0 ∨ (flat f.f3).length = 0) then crR keep (i + 1) (refL l) else (⟨str n, true, mkU ((flat f.f3).take (kOf keep i).toNat) f.f1, []⟩ : S144) :: crR keep (i + 1) (refL l)) = refL (match crF f (kOf keep i) with | none => crL keep (i + 1) l | some f' => (n, f') :: crL keep (i + 1) l)
    unfold crF
    rw [ha, ih]
    by_cases hc : f.f2 = false ∧ (kOf keep i = 0 ∨ (flat f.f3).length = 0)
    · rw [if_pos hc, if_pos (by
        refine ⟨hc.1, ?_⟩
        show 0 + min (kOf keep i) ((flat f.f3).length : Int) = 0
        rcases hc.2 with h | h <;> omega)]
    · rw [if_neg hc, if_neg (by
        rintro ⟨h1, h2⟩
        have h2' : 0 + min (kOf keep i) ((flat f.f3).length : Int) = 0 := h2
        exact hc ⟨h1, by omega⟩)]
      rfl
end Go.Proofs.Ytmmiipnmimjojaa.PS
end
