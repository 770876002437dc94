/- The texts of this claim's seat, joined: part 22. -/
import Derived.Test.YtmmiipnmimjojaaJ21
section
namespace Go.Proofs.Ytmmiipnmimjojaa.PS
open Go.RowKit Go.Proofs.YtmmiipnmimjojaaW.PrintWords Go.Proofs.YtmmiipnmimjojaaW.PrintLast Go.Proofs.YtmmiipnmimjojaaW.PrintMore
open Go.Maps Go.Proofs.Ytmmiipnmimjojaa.PD
set_option linter.unusedVariables false
set_option linter.unusedSimpArgs false
/-- Changes that put bytes behind others. -/
def App : List S114 → List Int → List Int → Prop
  | [], a, b => b = a
  | c :: cs, a, b => c.f0 = false ∧ c.f2 = a.length ∧ App cs (a ++ c.f3) b
theorem App.snoc {x : List Int} : ∀ {cs : List S114} {a b : List Int}, App cs a b → App (cs ++ [⟨false, 0, b.length, x⟩]) a (b ++ x)
  | [], a, b, h => by cases h; exact ⟨rfl, rfl, rfl⟩
  | c :: cs, a, b, h => ⟨h.1, h.2.1, App.snoc h.2.2⟩
theorem aft_full (k : Int) : ∀ (cs : List S114) (x : List Int), (aft k cs (x, k)).1 = x
  | [], x => rfl
  | c :: cs, x => by
    rw [aft]
    have h0 := chN_0 c
    have e : min (chN c) (k - (x, k).2) = 0 := by dsimp only; omega
    rw [e, ap1_zero]
    dsimp only
    rw [Int.add_zero]
    exact aft_full k cs x
theorem aft_app {k : Int} : ∀ {cs : List S114} {a b : List Int} {u : Int}, App cs a b → u ≤ k → ∃ r, b = a ++ r ∧ (aft k cs (a, u)).1 = a ++ r.take (k - u).toNat
  | [], a, b, u, h, _ => by cases h; exact ⟨[], by simp, by simp [aft]⟩
  | c :: cs, a, b, u, h, hu => by
    obtain ⟨h1, h2, h3⟩ := h
    rw [aft]
    dsimp only
    have hc : chN c = c.f3.length := by unfold chN; rw [if_neg (by rw [h1]; decide)]
    rw [hc]
    by_cases hk : (c.f3.length : Int) ≤ k - u
    · have e : min (c.f3.length : Int) (k - u) = c.f3.length := by omega
      rw [e]
      have hap : ap1 c a (c.f3.length : Int) = a ++ c.f3 := by
        unfold ap1
        by_cases hz : (c.f3.length : Int) = 0
        · rw [if_pos hz]
          have : c.f3 = [] := List.eq_nil_of_length_eq_zero (by omega)
          rw [this, List.append_nil]
        · rw [if_neg hz, if_neg (by rw [h1]; decide), h2]
          unfold layL
          rw [Int.toNat_natCast, Int.toNat_natCast, List.take_length, List.take_length, List.drop_eq_nil_of_le (by omega), List.append_nil]
      rw [hap]
      obtain ⟨r, hr, ha⟩ := aft_app (k := k) (u := u + (c.f3.length : Int)) h3 (by clear e hap; omega)
      refine ⟨c.f3 ++ r, by rw [hr, List.append_assoc], ?_⟩
      have e3 : (k - (u + (c.f3.length : Int))).toNat = (k - u).toNat - c.f3.length := by clear e hap; omega
      have e4 : c.f3.take (k - u).toNat = c.f3 := List.take_of_length_le (by clear e hap; omega)
      rw [ha, List.take_append, e4, List.append_assoc, e3]
    · have e : min (c.f3.length : Int) (k - u) = k - u := by omega
      rw [e, show u + (k - u) = k by omega, aft_full]
      have hap : ap1 c a (k - u) = a ++ c.f3.take (k - u).toNat := by
        unfold ap1
        by_cases hz : k - u = 0
        · rw [if_pos hz, hz]; simp
        · rw [if_neg hz, if_neg (by rw [h1]; decide), h2]
          unfold layL
          rw [Int.toNat_natCast, List.take_length, List.drop_eq_nil_of_le (by omega), List.append_nil]
      rw [hap]
      obtain ⟨r, hr, _⟩ := aft_app (u := k) h3 (Int.le_refl k)
      refine ⟨c.f3 ++ r, by rw [hr, List.append_assoc], ?_⟩
      rw [List.take_append_of_le_length (by omega)]
/-- The log M's file on the disk D holds recs; the first p of them last. -/
structure LI (D : Dsk) (M : LM) (recs : List Rc) (p : Nat) : Prop where
  files : ∃ f, D.files = [(nm M.n, f)] ∧ f.f0 = recsB recs ∧ f.f1 = recsB (recs.take p) ∧ f.f2 = true ∧ App f.f3 f.f1 f.f0
  ok : ∀ r ∈ recs, r.ok
  run : WS.zero.run recs = some M.st
  head : ∃ i t rest, recs = .mark i t :: rest
  p : 1 ≤ p ∧ p ≤ recs.length
  sz : M.sz = ((recsB recs).length : Int)
  n : 1 ≤ M.n ∧ M.n ≤ 1000000000
theorem nm_name (n : Int) : (nameB n).data.toList = nm n := rfl
theorem nm_tmp {n : Int} (h0 : 1 ≤ n) (h1 : n ≤ 1099511627776) : nm n ≠ tmpB.data.toList := fun h => by
  rw [nm_eq] at h
  have := congrArg (fun l : List UInt8 => l[3]?) h
  simp at this
  exact absurd this (by decide)
theorem LI.get {D : Dsk} {M : LM} {recs : List Rc} {p : Nat} (h : LI D M recs p) : ∃ f, aget (nm M.n) D.files = some f ∧ D.files = [(nm M.n, f)] ∧ f.f0 = recsB recs ∧ f.f1 = recsB (recs.take p) ∧ f.f2 = true ∧ App f.f3 f.f1 f.f0 := by
  obtain ⟨f, hf, hr⟩ := h.files
  exact ⟨f, by rw [hf, aget, if_pos rfl], hf, hr⟩
theorem LI.wok {D : Dsk} {M : LM} {recs : List Rc} {p : Nat} (h : LI D M recs p) : WOk M.st := WOk.zero.run h.ok h.run
theorem LI.mok {D : Dsk} {M : LM} {recs : List Rc} {p N : Nat} (h : LI D M recs p) (hi : DInv N D) : MOk M ∧ recs.length ≤ 30000 ∧ (recsB recs).length ≤ 262144 := by
  obtain ⟨f, hg, _, hf0, _⟩ := h.get
  have h1 := (hi.get hg).short
  rw [hf0] at h1
  have h2 := (recsB_len h.ok).1
  have h3 := run_len h.run
  have h4 := h.n
  have h5 := h.sz
  have h6 : WS.zero.es.length = 0 := rfl
  exact ⟨⟨h.wok, by omega, by omega, by omega⟩, by omega, h1⟩
/-- One file, all of it lasting. -/
theorem LI.of_sure {D : Dsk} {M : LM} {recs : List Rc} (hf : D.files = [(nm M.n, ⟨recsB recs, recsB recs, true, []⟩)]) (ok : ∀ r ∈ recs, r.ok) (run : WS.zero.run recs = some M.st) (head : ∃ i t rest, recs = .mark i t :: rest) (sz : M.sz = ((recsB recs).length : Int)) (n : 1 ≤ M.n ∧ M.n ≤ 1000000000) : LI D M recs recs.length :=
  ⟨⟨_, hf, rfl, by rw [List.take_length], rfl, rfl⟩, ok, run, head, ⟨by obtain ⟨i, t, r, h⟩ := head; rw [h]; simp, Nat.le_refl _⟩, sz, n⟩
theorem recs_head (s : WS) : ∃ i t rest, s.recs = .mark i t :: rest := ⟨_, _, _, rfl⟩
theorem rm_tmp {D : Dsk} {n : Int} {f : Fil} (hf : D.files = [(nm n, f)]) (h0 : 1 ≤ n) (h1 : n ≤ 1099511627776) : (dRemove D tmpB).2 = D ∧ aget tmpB.data.toList D.files = none := by
  have hg : aget tmpB.data.toList D.files = none := by rw [hf, aget, if_neg (nm_tmp h0 h1)]; rfl
  unfold dRemove
  rw [hg]
  exact ⟨rfl, rfl⟩
/-- A log that is written anew. -/
theorem anew_ok_files {D : Dsk} {n : Int} {s : WS} {l : List (Nm × Fil)} (hs : Srt D.files) (hl : (n = 0 ∧ D.files = []) ∨ (1 ≤ n ∧ ∃ f, D.files = [(nm n, f)])) (hn : n ≤ 1000000000) (hw : (dWrite D tmpB 0 s.bytes).1 = 0) :
    (dAnew D n s).2 = ⟨D.room, [(nm (n + 1), ⟨s.bytes, s.bytes, true, []⟩)]⟩ := by
  have hnn : nm (n + 1) ≠ tmpB.data.toList := nm_tmp (by omega) (by omega)
  have hg0 : aget tmpB.data.toList D.files = none := by
    rcases hl with ⟨_, h⟩ | ⟨h1, f, h⟩
    · rw [h]; rfl
    · exact (rm_tmp h h1 (by omega)).2
  have hnb : namedB (nameB (n + 1)) = true := named_name (by omega) (by omega)
  have hW := (write_ok hw).1
  rw [hg0] at hW
  have hwf : wFil ((none : Option Fil).getD z110) 0 s.bytes = ⟨s.bytes, [], false, [⟨false, 0, 0, s.bytes⟩]⟩ := by
    unfold wFil layL
    simp [z110]
  rw [hwf] at hW
  have hS : (dSync (dWrite D tmpB 0 s.bytes).2 tmpB).2 = ⟨D.room, aput tmpB.data.toList ⟨s.bytes, s.bytes, true, []⟩ D.files⟩ := by
    rw [hW]
    unfold dSync
    rw [show aget tmpB.data.toList (aput tmpB.data.toList (_ : Fil) D.files) = _ from (aget_put hs).trans (if_pos rfl)]
    dsimp only
    rw [aput_put hs]
  have hne : ¬ tmpB = nameB (n + 1) := fun h => hnn (by rw [h]; rfl)
  have hR : (dRename ⟨D.room, aput tmpB.data.toList (⟨s.bytes, s.bytes, true, []⟩ : Fil) D.files⟩ tmpB (nameB (n + 1))).2 = ⟨D.room, aput (nm (n + 1)) ⟨s.bytes, s.bytes, true, []⟩ D.files⟩ := by
    unfold dRename
    rw [show aget tmpB.data.toList (aput tmpB.data.toList (_ : Fil) D.files) = _ from (aget_put hs).trans (if_pos rfl)]
    dsimp only
    rw [if_neg (by rw [hnb]; decide), if_neg hne]
    dsimp only
    rw [adel_put hs, adel_none hg0, nm_name]
  unfold dAnew
  rw [if_pos hw, hS, hR]
  dsimp only
  rcases hl with ⟨h0, h⟩ | ⟨h1, f, h⟩
  · rw [if_neg (by omega), h]
    rfl
  · rw [if_pos (by omega), h]
    unfold dRemove
    have hne2 : nm n ≠ nm (n + 1) := fun h => by have := nm_inj (by omega) (by omega) (by omega) (by omega) h; omega
    have hs1 : Srt [(nm n, f)] := by rw [← h]; exact hs
    have hg : aget (nameB n).data.toList (aput (nm (n + 1)) (⟨s.bytes, s.bytes, true, []⟩ : Fil) [(nm n, f)]) = some f := by
      rw [aget_put hs1, nm_name, if_neg hne2, aget, if_pos rfl]
    rw [hg]
    dsimp only
    rw [nm_name, put_del hs1 (fun h => hne2 h.symm)]
    have : adel (nm n) [(nm n, f)] = [] := by simp [adel]
    rw [this]
    rfl
theorem anew_bad_files {D : Dsk} {n : Int} {s : WS} (hg0 : aget tmpB.data.toList D.files = none) (hw : ¬ (dWrite D tmpB 0 s.bytes).1 = 0) : (dAnew D n s).2 = D ∧ (dAnew D n s).1 = (dWrite D tmpB 0 s.bytes).1 := by
  have h2 : (dWrite D tmpB 0 s.bytes).2 = D := by
    unfold dWrite at hw ⊢
    split
    · rfl
    · next h1 =>
      rw [if_neg h1] at hw
      unfold dW2 at hw ⊢
      split
      · rfl
      · next h3 =>
        rw [if_neg h3] at hw
        split
        · rfl
        · next h4 =>
          rw [if_neg h4] at hw
          split
          · rfl
          · next h5 => rw [if_neg h5] at hw; exact absurd rfl hw
  unfold dAnew
  rw [if_neg hw]
  dsimp only
  rw [h2]
  unfold dRemove
  rw [hg0]
  exact ⟨rfl, rfl⟩
theorem LI.anew {D : Dsk} {M : LM} {recs : List Rc} {p : Nat} {s : WS} (h : LI D M recs p) (hs : Srt D.files) (hn : M.n ≤ 900000000) (hw : WOk s) :
    ((lgAnew D M s).1 = 0 → LI (lgAnew D M s).2.1 (lgAnew D M s).2.2 s.recs s.recs.length ∧ (lgAnew D M s).2.2 = ⟨M.n + 1, s.bytes.length, s⟩) ∧ (¬ (lgAnew D M s).1 = 0 → (lgAnew D M s).2 = (D, M)) := by
  obtain ⟨f, hf, _⟩ := h.files
  have h0 := h.n
  have hg := (rm_tmp hf h0.1 (by omega)).2
  unfold lgAnew mAnew
  dsimp only
  by_cases hd : (dWrite D tmpB 0 s.bytes).1 = 0
  · have h1 : (dAnew D M.n s).1 = 0 := by unfold dAnew; rw [if_pos hd]
    rw [if_pos hd]
    refine ⟨fun _ => ⟨?_, rfl⟩, fun hn => absurd h1 hn⟩
    have := anew_ok_files (n := M.n) (s := s) (l := []) hs (.inr ⟨h0.1, f, hf⟩) (by omega) hd
    rw [this]
    exact LI.of_sure rfl hw.recs_ok (hw.recs_run _) (recs_head s) rfl ⟨by dsimp only; omega, by dsimp only; omega⟩
  · have hb := anew_bad_files (n := M.n) hg hd
    rw [if_neg hd, hb.1, hb.2]
    exact ⟨fun h => absurd h hd, fun _ => rfl⟩
/-- Records behind the file's. -/
theorem LI.put1 {D : Dsk} {M : LM} {recs rs : List Rc} {p : Nat} {st' : WS} (h : LI D M recs p) (hs : Srt D.files) (hok : ∀ r ∈ rs, r.ok) (hrun : M.st.run rs = some st') :
    ((lgPut1 D M (recsB rs)).1 = 0 → LI (lgPut1 D M (recsB rs)).2.1 { (lgPut1 D M (recsB rs)).2.2 with st := st' } (recs ++ rs) p ∧ (lgPut1 D M (recsB rs)).2.2.n = M.n) ∧ (¬ (lgPut1 D M (recsB rs)).1 = 0 → (lgPut1 D M (recsB rs)).2 = (D, M)) := by
  obtain ⟨f, hg, hf, hf0, hf1, hf2, hap⟩ := h.get
  unfold lgPut1
  dsimp only
  by_cases hd : (dWrite D (nameB M.n) M.sz (recsB rs)).1 = 0
  · rw [if_pos hd]
    refine ⟨fun _ => ⟨?_, rfl⟩, fun hn => absurd hd hn⟩
    have hW := (write_ok hd).1
    rw [nm_name, hg] at hW
    rw [hW]
    have hwf : wFil ((some f).getD z110) M.sz (recsB rs) = ⟨recsB (recs ++ rs), f.f1, f.f2, f.f3 ++ [⟨false, 0, ((recsB recs).length : Int), recsB rs⟩]⟩ := by
      unfold wFil
      show (⟨layL f.f0 M.sz.toNat (recsB rs), f.f1, f.f2, f.f3 ++ [⟨false, 0, M.sz, recsB rs⟩]⟩ : Fil) = _
      rw [h.sz, hf0, Int.toNat_natCast]
      unfold layL
      rw [List.take_length, List.drop_eq_nil_of_le (by omega), List.append_nil, recsB_append]
    rw [hwf]
    refine ⟨⟨⟨recsB (recs ++ rs), f.f1, f.f2, f.f3 ++ [⟨false, 0, ((recsB recs).length : Int), recsB rs⟩]⟩, ?_, rfl, ?_, hf2, ?_⟩, fun r hr => ?_, ?_, ?_, ?_, ?_, h.n⟩
    · dsimp only
      rw [hf, aput, if_pos rfl]
    · dsimp only
      rw [hf1, List.take_append_of_le_length h.p.2]
    · dsimp only
      rw [recsB_append, ← hf0]
      have := App.snoc (x := recsB rs) hap
      rw [hf0] at this ⊢
      exact this
    · rcases List.mem_append.1 hr with hr | hr
      · exact h.ok r hr
      · exact hok r hr
    · rw [WS.run_append, h.run]; exact hrun
    · obtain ⟨i, t, rest, hh⟩ := h.head
      exact ⟨i, t, rest ++ rs, by rw [hh]; rfl⟩
    · exact ⟨h.p.1, by rw [List.length_append]; have := h.p.2; omega⟩
    · dsimp only
      rw [h.sz, recsB_append, List.length_append]; omega
  · rw [if_neg hd]
    refine ⟨fun hn => absurd hn hd, fun _ => ?_⟩
    have h2 : (dWrite D (nameB M.n) M.sz (recsB rs)).2 = D := by
      unfold dWrite at hd ⊢
      split
      · rfl
      · next h1 =>
        rw [if_neg h1] at hd
        unfold dW2 at hd ⊢
        split
        · rfl
        · next h3 =>
          rw [if_neg h3] at hd
          split
          · rfl
          · next h4 =>
            rw [if_neg h4] at hd
            split
            · rfl
            · next h5 => rw [if_neg h5] at hd; exact absurd rfl hd
    rw [h2]
end Go.Proofs.Ytmmiipnmimjojaa.PS
end
section
namespace Go.Proofs.Ytmmiipnmimjojaa.PS
open Go.RowKit Go.Proofs.YtmmiipnmimjojaaW.PrintWords Go.Proofs.YtmmiipnmimjojaaW.PrintLast Go.Proofs.YtmmiipnmimjojaaW.PrintMore
open Go.Maps Go.Proofs.Ytmmiipnmimjojaa.PD
set_option linter.unusedVariables false
set_option linter.unusedSimpArgs false
section
variable {D : Dsk} {M : LM} {recs : List Rc} {p : Nat}
theorem LI.sync (h : LI D M recs p) : (dSync D (nameB M.n)).1 = 0 ∧ LI (dSync D (nameB M.n)).2 M recs recs.length := by
  obtain ⟨f, hg, hf, hf0, _⟩ := h.get
  unfold dSync
  rw [nm_name, hg]
  refine ⟨rfl, LI.of_sure ?_ h.ok h.run h.head h.sz h.n⟩
  dsimp only
  rw [hf, aput, if_pos rfl, hf0]
theorem LI.crash (h : LI D M recs p) (keep : List Int) : ∃ q t, p ≤ q ∧ q ≤ recs.length ∧ Torn t ∧ (dCrash D keep).files = [(nm M.n, ⟨recsB (recs.take q) ++ t, recsB (recs.take q) ++ t, true, []⟩)] := by
  obtain ⟨f, hg, hf, hf0, hf1, hf2, hap⟩ := h.get
  have hk : 0 ≤ kOf keep 0 := by unfold kOf; split <;> omega
  obtain ⟨r, hr, ha⟩ := aft_app (u := 0) hap hk
  have hrr : r = recsB (recs.drop p) := by
    have h1 : recsB recs = recsB (recs.take p) ++ recsB (recs.drop p) := by rw [← recsB_append, List.take_append_drop]
    rw [hf0, hf1, h1] at hr
    exact (List.append_cancel_left hr).symm
  obtain ⟨a, b, t, hab, ht, hT⟩ := recs_take (rs := recs.drop p) (fun r hr => h.ok r (List.mem_of_mem_drop hr)) (kOf keep 0 - 0).toNat
  have htk : recs.take (p + a.length) = recs.take p ++ a := by
    rw [List.take_add, hab, List.take_left']
    rfl
  have hlen : a.length ≤ recs.length - p := by
    have := congrArg List.length hab
    rw [List.length_drop, List.length_append] at this
    omega
  have hp := h.p.2
  refine ⟨p + a.length, t, Nat.le_add_right _ _, by omega, hT, ?_⟩
  unfold dCrash
  dsimp only
  rw [hf]
  unfold crL crF
  rw [if_neg (by rw [hf2]; simp)]
  dsimp only
  rw [ha, hrr, ht, hf1, htk, recsB_append, List.append_assoc]
  rfl
theorem run_take {s : WS} {q : Nat} (h : WS.zero.run recs = some s) : ∃ st, WS.zero.run (recs.take q) = some st := by
  rw [← List.take_append_drop q recs, WS.run_append] at h
  cases h1 : WS.zero.run (recs.take q) with
  | none => rw [h1] at h; cases h
  | some st => exact ⟨st, rfl⟩
/-- A file that Open takes. -/
structure OpenOk (D : Dsk) (n : Int) (recs : List Rc) (t : List Int) (s : WS) : Prop where
  file : ∃ f, D.files = [(nm n, f)] ∧ f.f0 = recsB recs ++ t
  torn : Torn t
  ok : ∀ r ∈ recs, r.ok
  run : WS.zero.run recs = some s
  head : ∃ i t rest, recs = .mark i t :: rest
  n : 1 ≤ n ∧ n ≤ 1000000000
theorem head_take {q : Nat} (h : ∃ i t rest, recs = .mark i t :: rest) (hq : 1 ≤ q) : ∃ i t rest, recs.take q = .mark i t :: rest := by
  obtain ⟨i, t, rest, rfl⟩ := h
  obtain ⟨q, rfl⟩ : ∃ j, q = j + 1 := ⟨q - 1, by omega⟩
  exact ⟨i, t, rest.take q, rfl⟩
theorem LI.crash_open (h : LI D M recs p) (keep : List Int) : ∃ q t st, p ≤ q ∧ q ≤ recs.length ∧ WS.zero.run (recs.take q) = some st ∧ OpenOk (dCrash D keep) M.n (recs.take q) t st := by
  obtain ⟨q, t, h1, h2, hT, hf⟩ := h.crash keep
  obtain ⟨st, hst⟩ := run_take (q := q) h.run
  exact ⟨q, t, st, h1, h2, hst, ⟨_, hf, rfl⟩, hT, fun r hr => h.ok r (List.mem_of_mem_take hr), hst, head_take h.head (Nat.le_trans h.p.1 h1), h.n⟩
theorem OpenOk.pre {n : Int} {t : List Int} {s : WS} (h : OpenOk D n recs t s) : namesB (dRemove D tmpB).2.files = [n].map nameB ∧ maxL [n] = n ∧ dropL n [n] (dRemove D tmpB).2 = D ∧ (dRead D (nameB n)).1 = recsB recs ++ t := by
  obtain ⟨f, hf, hf0⟩ := h.file
  have hn := h.n
  rw [(rm_tmp hf hn.1 (by omega)).1]
  refine ⟨?_, ?_, ?_, ?_⟩
  · rw [hf]
    show [str (nm n)] = [nameB n]
    rfl
  · show max 0 n = n
    omega
  · show (if n < n then _ else D) = D
    rw [if_neg (Int.lt_irrefl n)]
  · unfold dRead
    rw [nm_name, hf, aget, if_pos rfl]
    exact hf0
theorem OpenOk.li {n : Int} {t : List Int} {s : WS} (h : OpenOk D n recs t s) : LI (opD D n recs t) ⟨n, (recsB recs).length, s⟩ recs recs.length := by
  obtain ⟨f, hf, hf0⟩ := h.file
  have hg : aget (nm n) D.files = some f := by rw [hf, aget, if_pos rfl]
  unfold opD
  by_cases ht : t = []
  · rw [if_pos ht]
    unfold dSync
    rw [nm_name, hg]
    refine LI.of_sure ?_ h.ok h.run h.head rfl h.n
    dsimp only
    rw [hf, aput, if_pos rfl, hf0, ht, List.append_nil]
  · rw [if_neg ht]
    unfold dCut
    rw [nm_name, hg]
    dsimp only
    rw [if_neg (by rw [hf0, List.length_append]; omega)]
    unfold dSync
    dsimp only
    rw [nm_name, hf, aput, if_pos rfl, aget, if_pos rfl]
    refine LI.of_sure ?_ h.ok h.run h.head rfl h.n
    dsimp only
    rw [aput, if_pos rfl, hf0, Int.toNat_natCast, List.take_left']
    rfl
/-- What a deed leaves. -/
structure Stp (D : Dsk) (M : LM) (recs : List Rc) (p : Nat) (r : Int × Dsk × LM) (st' : WS) (rs : List Rc) : Prop where
  good : r.1 = 0 → ∃ recs' p', LI r.2.1 { r.2.2 with st := st' } recs' p' ∧ ((recs' = recs ++ rs ∧ p' = p) ∨ (recs' = M.st.recs ++ rs ∧ p' = M.st.recs.length))
  bad : ¬ r.1 = 0 → ∃ recs' p', LI r.2.1 r.2.2 recs' p' ∧ r.2.2.st = M.st ∧ ((recs' = recs ∧ p' = p) ∨ (recs' = M.st.recs ∧ p' = M.st.recs.length))
  n : r.2.2.n ≤ M.n + 1
theorem LI.put {rs : List Rc} {st' : WS} {N : Nat} (h : LI D M recs p) (hi : DInv N D) (hn : M.n ≤ 900000000) (hok : ∀ r ∈ rs, r.ok) (hrun : M.st.run rs = some st') : Stp D M recs p (lgPut D M (recsB rs)) st' rs := by
  unfold lgPut
  by_cases hb : 262144 < M.sz + ((recsB rs).length : Int)
  · rw [if_pos hb]
    have ha := h.anew (s := M.st) hi.srt hn h.wok
    by_cases ha0 : (lgAnew D M M.st).1 = 0
    · rw [if_pos ha0]
      obtain ⟨hl, hm⟩ := ha.1 ha0
      have hd : Srt (lgAnew D M M.st).2.1.files := by
        obtain ⟨f, hf, _⟩ := hl.files
        rw [hf]
        exact List.pairwise_singleton _ _
      have hst : (lgAnew D M M.st).2.2.st = M.st := by rw [hm]
      have h1 := hl.put1 (rs := rs) (st' := st') hd hok (by rw [hst]; exact hrun)
      have hmn : (lgAnew D M M.st).2.2.n = M.n + 1 := by rw [hm]
      refine ⟨fun h0 => ⟨_, _, (h1.1 h0).1, .inr ⟨rfl, rfl⟩⟩, fun h0 => ?_, ?_⟩
      · have h2 := h1.2 h0
        rw [h2]
        exact ⟨_, _, hl, hst, .inr ⟨rfl, rfl⟩⟩
      · by_cases h0 : (lgPut1 (lgAnew D M M.st).2.1 (lgAnew D M M.st).2.2 (recsB rs)).1 = 0
        · rw [(h1.1 h0).2, hmn]; exact Int.le_refl _
        · rw [h1.2 h0]; dsimp only; rw [hmn]; exact Int.le_refl _
    · rw [if_neg ha0]
      have h2 := ha.2 ha0
      refine ⟨fun h0 => absurd h0 ha0, fun _ => ?_, ?_⟩
      · rw [h2]; exact ⟨_, _, h, rfl, .inl ⟨rfl, rfl⟩⟩
      · rw [h2]; dsimp only; omega
  · rw [if_neg hb]
    have h1 := h.put1 (rs := rs) (st' := st') hi.srt hok hrun
    refine ⟨fun h0 => ⟨_, _, (h1.1 h0).1, .inl ⟨rfl, rfl⟩⟩, fun h0 => ?_, ?_⟩
    · rw [h1.2 h0]; exact ⟨_, _, h, rfl, .inl ⟨rfl, rfl⟩⟩
    · by_cases h0 : (lgPut1 D M (recsB rs)).1 = 0
      · rw [(h1.1 h0).2]; omega
      · rw [h1.2 h0]; dsimp only; omega
theorem run_adds {s : WS} {es : List S48} (h : fitsOk s es) : s.run (es.map .ent) = some (s.adds es) := by
  have key : ∀ i : Nat, i ≤ es.length → s.run ((es.take i).map .ent) = some (s.adds (es.take i)) := by
    intro i
    induction i with
    | zero => intro _; rfl
    | succ i ih =>
      intro hi
      have hx : es[i]? = some (rd_T48 es i) := rd48_at (i := (i : Int)) (by omega) (by omega)
      have htk : es.take (i + 1) = es.take i ++ [rd_T48 es i] := by rw [List.take_add_one, hx]; rfl
      rw [htk, List.map_append, adds_snoc]
      refine (WS.run_snoc _ (ih (by omega))).trans ?_
      show (if (s.adds (es.take i)).fit (rd_T48 es i) then _ else none) = _
      rw [if_pos (adds_fit h i (by omega)).1]
  have := key es.length (Nat.le_refl _)
  rwa [List.take_length] at this
theorem LI.append {es : List S48} {N : Nat} (h : LI D M recs p) (hi : DInv N D) (hn : M.n ≤ 900000000) (hb : ∀ x ∈ es, okBytes x.f3 = true) :
    ((lgAppend D M es).1 = 0 → fitsOk M.st es ∧ ∃ recs' p', LI (lgAppend D M es).2.1 (lgAppend D M es).2.2 recs' p' ∧ (lgAppend D M es).2.2.st = M.st.adds es ∧ ((recs' = recs ++ es.map .ent ∧ p' = p) ∨ (recs' = M.st.recs ++ es.map .ent ∧ p' = M.st.recs.length))) ∧
    (¬ (lgAppend D M es).1 = 0 → ∃ recs' p', LI (lgAppend D M es).2.1 (lgAppend D M es).2.2 recs' p' ∧ (lgAppend D M es).2.2.st = M.st ∧ ((recs' = recs ∧ p' = p) ∨ (recs' = M.st.recs ∧ p' = M.st.recs.length))) ∧ (lgAppend D M es).2.2.n ≤ M.n + 1 := by
  unfold lgAppend
  by_cases h1 : entsErr es = 0
  · rw [if_neg (by rw [h1]; decide)]
    by_cases h2 : fitsOk M.st es
    · rw [if_neg (fun hh => hh h2)]
      by_cases h3 : es = []
      · rw [if_pos h3]
        subst h3
        exact ⟨fun _ => ⟨h2, recs, p, h, rfl, .inl ⟨by simp, rfl⟩⟩, fun hh => absurd rfl hh, by dsimp only; omega⟩
      · rw [if_neg h3]
        have hok : ∀ r ∈ es.map Rc.ent, r.ok := fun r hr => by
          obtain ⟨x, hx, rfl⟩ := List.mem_map.1 hr
          exact ⟨entsErr_zero h1 x hx, hb x hx⟩
        have hp := h.put hi hn hok (run_adds h2)
        by_cases h4 : (lgPut D M (recsB (es.map .ent))).1 = 0
        · rw [if_pos h4]
          obtain ⟨recs', p', hl, hc⟩ := hp.good h4
          exact ⟨fun _ => ⟨h2, recs', p', hl, rfl, hc⟩, fun hh => absurd rfl hh, hp.n⟩
        · rw [if_neg h4]
          exact ⟨fun hh => absurd hh h4, fun _ => hp.bad h4, hp.n⟩
    · rw [if_pos h2]
      exact ⟨fun hh => absurd hh (show ¬ (2 : Int) = 0 by decide), fun _ => ⟨recs, p, h, rfl, .inl ⟨rfl, rfl⟩⟩, by dsimp only; omega⟩
  · rw [if_pos h1]
    exact ⟨fun hh => absurd hh h1, fun _ => ⟨recs, p, h, rfl, .inl ⟨rfl, rfl⟩⟩, by dsimp only; omega⟩
theorem LI.hard {t u : Int} {N : Nat} (h : LI D M recs p) (hi : DInv N D) (hn : M.n ≤ 900000000) :
    (∃ recs' p', LI (lgHard D M t u).2.1 (lgHard D M t u).2.2 recs' p' ∧ ((lgHard D M t u).2.2.st = M.st ∨ (lgHard D M t u).1 = 0 ∧ (lgHard D M t u).2.2.st = { M.st with ht := t, hv := u }) ∧
      ((recs' = recs ∧ p' = p) ∨ (recs' = M.st.recs ∧ p' = M.st.recs.length) ∨ (((recs' = recs ++ [.hard t u] ∧ p' = p) ∨ (recs' = M.st.recs ++ [.hard t u] ∧ p' = M.st.recs.length)) ∧ (lgHard D M t u).2.2.st = { M.st with ht := t, hv := u }))) ∧ (lgHard D M t u).2.2.n ≤ M.n + 1 := by
  unfold lgHard
  by_cases h1 : hardErr t u = 0
  · rw [if_neg (by rw [h1]; decide)]
    by_cases h2 : t = M.st.ht ∧ u = M.st.hv
    · rw [if_pos h2]
      exact ⟨⟨recs, p, h, .inl rfl, .inl ⟨rfl, rfl⟩⟩, by dsimp only; omega⟩
    · rw [if_neg h2]
      have hp := h.put (rs := [.hard t u]) (st' := { M.st with ht := t, hv := u }) hi hn (fun r hr => by rw [List.mem_singleton.1 hr]; exact h1) rfl
      by_cases h4 : (lgPut D M (recsB [.hard t u])).1 = 0
      · rw [if_pos h4]
        obtain ⟨recs', p', hl, hc⟩ := hp.good h4
        exact ⟨⟨recs', p', hl, .inr ⟨rfl, rfl⟩, .inr (.inr ⟨hc, rfl⟩)⟩, hp.n⟩
      · rw [if_neg h4]
        obtain ⟨recs', p', hl, hst, hc⟩ := hp.bad h4
        exact ⟨⟨recs', p', hl, .inl hst, hc.elim .inl (fun h => .inr (.inl h))⟩, hp.n⟩
  · rw [if_pos h1]
    exact ⟨⟨recs, p, h, .inl rfl, .inl ⟨rfl, rfl⟩⟩, by dsimp only; omega⟩
end
end Go.Proofs.Ytmmiipnmimjojaa.PS
end
section
namespace Go.Proofs.Ytmmiipnmimjojaa.PS
open Go.RowKit Go.Proofs.YtmmiipnmimjojaaW.PrintWords Go.Proofs.YtmmiipnmimjojaaW.PrintLast Go.Proofs.YtmmiipnmimjojaaW.PrintMore
attribute [local go_sem] max2_int min2_int max_two min_two max_three min_three max_four min_four   -- for this text's walks alone
set_option linter.unusedVariables false
set_option linter.unusedSimpArgs false

def tollgatelaw06_short.l0 : Nat → Int → Int → Int → List (S48) → Int → Int → Int → Int → List Int → Option (Bool)
  | 0, _, _, _, _, _, _, _, _, _ => none
  | k + 1, x3, x4, x256000, x256001, x256002, x256003, x256004, x256005, x256006 => if x4 < (x256001.length : Int) then (if x3 ≤ 6000 then (if 0 ≤ x4 then (tollgatelaw06_short.l0 k (wrap64 (x3 + (20 + (mn (((rd_T48 x256001 x4).f3).length : Int) 6000)))) (wrap64 (x4 + 1)) x256000 x256001 x256002 x256003 x256004 x256005 x256006) else (none)) else (some false)) else (if x3 ≤ 6000 then (some (decide ((x256006.length : Int) ≤ 50))) else (some false))
def tollgatelaw06_short.f (k : Nat) (a0_0 : Int) (l0_1 : List (S48)) (a0_2 : Int) (a0_3 : Int) (a0_4 : Int) (a0_5 : Int) (l0_6 : List Int) : Option (Bool) := tollgatelaw06_short.l0 k 0 0 a0_0 l0_1 a0_2 a0_3 a0_4 a0_5 l0_6
theorem tollgatelaw06_short.mono_l : ∀ k, (∀ y0 y1 y2 y3 y4 y5 y6 y7 y8, LeO (tollgatelaw06_short.l0 k y0 y1 y2 y3 y4 y5 y6 y7 y8) (tollgatelaw06_short.l0 (k + 1) y0 y1 y2 y3 y4 y5 y6 y7 y8))
  | 0 => fun _ _ _ _ _ _ _ _ _ r h => by simp [tollgatelaw06_short.l0] at h
  | k + 1 => by
    have ih0 := tollgatelaw06_short.mono_l k
    · intro y0 y1 y2 y3 y4 y5 y6 y7 y8
      unfold tollgatelaw06_short.l0
      repeat' first
      | (with_reducible exact ih0 _ _ _ _ _ _ _ _ _)
      | (with_reducible exact LeO.refl _)
      | (with_reducible exact LeO.none _)
      | (with_reducible refine LeO.ite ?_ ?_)
      | (with_reducible refine LeO.bind ?_ (fun _ => ?_))
      | exact ih0 _ _ _ _ _ _ _ _ _
      | exact LeO.none _
      | refine LeO.ite ?_ ?_
      | refine LeO.bind ?_ (fun _ => ?_)
theorem tollgatelaw06_short.mono : ∀ a0 a1 a2 a3 a4 a5 a6 k, LeO (tollgatelaw06_short.f k a0 a1 a2 a3 a4 a5 a6) (tollgatelaw06_short.f (k + 1) a0 a1 a2 a3 a4 a5 a6) := by
  intro a0 a1 a2 a3 a4 a5 a6 k
  have ih0 := tollgatelaw06_short.mono_l k
  unfold tollgatelaw06_short.f
  repeat' first
      | (with_reducible exact ih0 _ _ _ _ _ _ _ _ _)
      | (with_reducible exact LeO.refl _)
      | (with_reducible exact LeO.none _)
      | (with_reducible refine LeO.ite ?_ ?_)
      | (with_reducible refine LeO.bind ?_ (fun _ => ?_))
      | exact ih0 _ _ _ _ _ _ _ _ _
      | exact LeO.none _
      | refine LeO.ite ?_ ?_
      | refine LeO.bind ?_ (fun _ => ?_)
set_option maxHeartbeats 8000000 in
set_option maxRecDepth 100000 in
theorem tollgatelaw06_short.calls (k : Nat) (a0_0 : Int) (A0_1 : Option Addr) (c0_1 : Nat) (l0_1 : List (S48)) (a0_2 : Int) (a0_3 : Int) (a0_4 : Int) (a0_5 : Int) (A0_6 : Option Addr) (c0_6 : Nat) (l0_6 : List Int) (r : Bool) (w : World) (hr0_1 : Kd.C k48 w A0_1 l0_1.length l0_1) (hc0_1 : l0_1.length ≤ c0_1) (hr0_6 : Kd.C (Kd.int .i64) w A0_6 l0_6.length l0_6) (hc0_6 : l0_6.length ≤ c0_6) (h : tollgatelaw06_short.f k a0_0 l0_1 a0_2 a0_3 a0_4 a0_5 l0_6 = some r) :
    Calls Try.prog 48 #[.agg #[.int .i64 a0_0, .slice A0_1 l0_1.length c0_1, .int .i64 a0_2, .int .i64 a0_3, .int .i64 a0_4, .int .i64 a0_5, .slice A0_6 l0_6.length c0_6]] w fun e w' => e = .returned (.bool r) ∧ Below w.heap.size w w' := by
  have hu85 := Try.underlying85
  have HR0_1 := Aside0.mk hr0_1
  have HC0_1 := Aside0.mk hc0_1
  clear hr0_1 hc0_1
  have HR0_6 := Aside0.mk hr0_6
  have HC0_6 := Aside0.mk hc0_6
  clear hr0_6 hc0_6
  have HB := Aside0.mk (Below.refl w.heap.size w)
  have H : (tollgatelaw06_short.l0 k 0 0 a0_0 l0_1 a0_2 a0_3 a0_4 a0_5 l0_6) = some r := h
  clear h
  have H' := Aside0.mk H
  clear H
  go_enter Try.func48, Try.ntmps48
  go_wp2_with (first | ((with_reducible refine gate_dst (N := 1) rfl ?_); (try (refine gate_guard (by rfl) ?_; dsimp only)); refine box_event ?hg (N := 1) ?hd (cs := #[.int .i64 a0_0, .slice A0_1 l0_1.length c0_1, .int .i64 a0_2, .int .i64 a0_3, .int .i64 a0_4, .int .i64 a0_5, .slice A0_6 l0_6.length c0_6]) (t := 85) ?hr ?_; (case hd => rfl); (case hg => rfl); (case hr => first | (go_simp; done) | (go_simp; rfl)); intro gb255 hg w2 hbox hb; have n0_ := Aside0.mk (below_step (by repeat (first | (with_reducible first | exact HB.out | apply below_alloc | apply pw_below_drewN | apply below_drew1) | exact HB.out)) hb); have n1_ := Aside0.mk (hbox); have n2_ := Aside0.mk ((by rw [hg]; exact (below_size (by repeat (first | (with_reducible first | exact HB.out | apply below_alloc | apply pw_below_drewN | apply below_drew1) | exact HB.out))) : w.heap.size ≤ gb255)); have n3_ := Aside0.mk ((by rw [hg]; exact (below_size (by repeat (first | (with_reducible first | exact HB.out | apply below_alloc | apply pw_below_drewN | apply below_drew1) | exact HB.out))) : w.heap.size ≤ gb255)); clear HB; have HB := n0_; have BK255 := n1_; have GW255 := n2_; have GE255 := n3_; clear n0_ n1_ n2_ n3_; clear hb hbox hg))
  go_loopg [3, 4] k (fun kq v3 v4 w' => ∃ (x3_1 : Int) (x4_1 : Int), v3 = .int .i64 x3_1 ∧ v4 = .int .i64 x4_1 ∧ Aside0 (tollgatelaw06_short.l0 kq x3_1 x4_1 a0_0 l0_1 a0_2 a0_3 a0_4 a0_5 l0_6 = some r) ∧ Aside0 (kq ≤ k) ∧ Aside0 (w'.heap[gb255]? = some (.cells #[.int .i64 a0_0, (.slice A0_1 l0_1.length c0_1), .int .i64 a0_2, .int .i64 a0_3, .int .i64 a0_4, .int .i64 a0_5, (.slice A0_6 l0_6.length c0_6)] 85 (0, 0))) ∧ Aside0 (Below w.heap.size w w'))
  case atStart => exact ⟨(0), (0), (by first | rfl | (simp; done) | (simp [*]; done)), (by first | rfl | (simp; done) | (simp [*]; done)), H', ⟨Nat.le_refl _⟩, ⟨by (with_reducible repeat (first | refine blk_drewN ?_ _ | refine blk_drew ?_ | refine blk_alloc ?_ _)); exact BK255.out⟩, ⟨by repeat (first | (with_reducible first | exact HB.out | apply below_alloc | apply pw_below_drewN | apply below_drew1 | refine below_set ?_ GE255.out) | exact HB.out)⟩⟩
  case round =>
    clear H'
    try clear p2
    obtain ⟨x3_1, x4_1, rfl, rfl, HA, HK1, BK255, HB⟩ := hrel
    cases gk with
    | zero => exact absurd HA.out (by simp [tollgatelaw06_short.l0])
    | succ k1 =>
      have H := HA.out
      clear HA
      simp only [tollgatelaw06_short.l0] at H
      by_cases c3 : x4_1 < (l0_1.length : Int)
      · rw [if_pos c3] at H
        have c3b0 : decide (x4_1 < (l0_1.length : Int)) = true := decide_eq_true c3
        clear c3
        by_cases c4 : x3_1 ≤ 6000
        · rw [if_pos c4] at H
          have c4b0 : decide (x3_1 ≤ 6000) = true := decide_eq_true c4
          clear c4
          by_cases c5 : 0 ≤ x4_1
          · rw [if_pos c5] at H
            have c5b0 : decide (0 ≤ x4_1) = true := decide_eq_true c5
            clear c5
            obtain ⟨ji6, hji6⟩ : ∃ j_ : Int, (mn (((rd_T48 l0_1 x4_1).f3).length : Int) 6000) = j_ := ⟨_, rfl⟩
            replace H : (tollgatelaw06_short.l0 k1 (wrap64 (x3_1 + (20 + (ji6)))) (wrap64 (x4_1 + 1)) a0_0 l0_1 a0_2 a0_3 a0_4 a0_5 l0_6) = some r := by first | (rw [hji6] at H; exact H) | (simp only [hji6] at H ⊢; exact H)
            have hji6_ : (if 6000 < (((rd_T48 l0_1 x4_1).f3).length : Int) then 6000 else (((rd_T48 l0_1 x4_1).f3).length : Int)) = ji6 := hji6
            have H' := Aside0.mk H
            clear H
            have hcz7_0 : wr.cell? ⟨gb255, 0, none⟩ = some (.int .i64 a0_0) := (blk_cell BK255.out 0).trans rfl
            have hcz7_1 : wr.cell? ⟨gb255, 1, none⟩ = some (.slice A0_1 l0_1.length c0_1) := (blk_cell BK255.out 1).trans rfl
            have hcz7_2 : wr.cell? ⟨gb255, 2, none⟩ = some (.int .i64 a0_2) := (blk_cell BK255.out 2).trans rfl
            have hcz7_3 : wr.cell? ⟨gb255, 3, none⟩ = some (.int .i64 a0_3) := (blk_cell BK255.out 3).trans rfl
            have hcz7_4 : wr.cell? ⟨gb255, 4, none⟩ = some (.int .i64 a0_4) := (blk_cell BK255.out 4).trans rfl
            have hcz7_5 : wr.cell? ⟨gb255, 5, none⟩ = some (.int .i64 a0_5) := (blk_cell BK255.out 5).trans rfl
            have hcz7_6 : wr.cell? ⟨gb255, 6, none⟩ = some (.slice A0_6 l0_6.length c0_6) := (blk_cell BK255.out 6).trans rfl
            have hfz7_0 := blk_frozen BK255.out 0
            have hfz7_1 := blk_frozen BK255.out 1
            have hfz7_2 := blk_frozen BK255.out 2
            have hfz7_3 := blk_frozen BK255.out 3
            have hfz7_4 := blk_frozen BK255.out 4
            have hfz7_5 := blk_frozen BK255.out 5
            have hfz7_6 := blk_frozen BK255.out 6
            have p256 : 0 ≤ (x4_1 : Int) := of_decide_eq_true (by first | (with_reducible assumption) | assumption)
            have q256 : x4_1 < (l0_1.length : Int) := of_decide_eq_true (by first | (with_reducible assumption) | assumption)
            obtain ⟨ad256, A256_3, c256_3, e256, hx256_0, hx256_1, hx256_2, hx256_3, hl256_3, hi256_3⟩ := at_T48 HR0_1.out x4_1 p256 q256
            cases e256
            replace hx256_0 := (HB.out.cell (World.block_lt_of_cell? w _ hx256_0)).trans hx256_0
            replace hx256_1 := (HB.out.cell (World.block_lt_of_cell? w _ hx256_1)).trans hx256_1
            replace hx256_2 := (HB.out.cell (World.block_lt_of_cell? w _ hx256_2)).trans hx256_2
            replace hx256_3 := (HB.out.cell (World.block_lt_of_cell? w _ hx256_3)).trans hx256_3
            have HR256_3 := Aside0.mk hi256_3
            have HC256_3 := Aside0.mk hl256_3
            clear hi256_3 hl256_3
            replace p256 := eq_true p256
            replace q256 := eq_true q256
            go_wp2
            go_roundg k1
            case measure => have := HK1.out; omega
            case rel => exact ⟨(wrap64 (x3_1 + (20 + (ji6)))), (wrap64 (x4_1 + 1)), (by first | rfl | (simp; done) | (simp only [← hji6] <;> (first | rfl | simp)) | (simp [*]; done)), (by first | rfl | (simp; done) | (simp [*]; done)), H', ⟨by have := HK1.out; omega⟩, ⟨by (with_reducible repeat (first | refine blk_drewN ?_ _ | refine blk_drew ?_ | refine blk_alloc ?_ _)); exact BK255.out⟩, ⟨by repeat (first | (with_reducible first | exact HB.out | apply below_alloc | apply pw_below_drewN | apply below_drew1 | refine below_set ?_ GE255.out) | exact HB.out)⟩⟩
          · rw [if_neg c5] at H
            exact absurd H (by simp)
        · rw [if_neg c4] at H
          have c4b0 : decide (x3_1 ≤ 6000) = false := decide_eq_false c4
          clear c4
          obtain rfl := Option.some.inj H
          have hcz8_0 : wr.cell? ⟨gb255, 0, none⟩ = some (.int .i64 a0_0) := (blk_cell BK255.out 0).trans rfl
          have hcz8_1 : wr.cell? ⟨gb255, 1, none⟩ = some (.slice A0_1 l0_1.length c0_1) := (blk_cell BK255.out 1).trans rfl
          have hcz8_2 : wr.cell? ⟨gb255, 2, none⟩ = some (.int .i64 a0_2) := (blk_cell BK255.out 2).trans rfl
          have hcz8_3 : wr.cell? ⟨gb255, 3, none⟩ = some (.int .i64 a0_3) := (blk_cell BK255.out 3).trans rfl
          have hcz8_4 : wr.cell? ⟨gb255, 4, none⟩ = some (.int .i64 a0_4) := (blk_cell BK255.out 4).trans rfl
          have hcz8_5 : wr.cell? ⟨gb255, 5, none⟩ = some (.int .i64 a0_5) := (blk_cell BK255.out 5).trans rfl
          have hcz8_6 : wr.cell? ⟨gb255, 6, none⟩ = some (.slice A0_6 l0_6.length c0_6) := (blk_cell BK255.out 6).trans rfl
          have hfz8_0 := blk_frozen BK255.out 0
          have hfz8_1 := blk_frozen BK255.out 1
          have hfz8_2 := blk_frozen BK255.out 2
          have hfz8_3 := blk_frozen BK255.out 3
          have hfz8_4 := blk_frozen BK255.out 4
          have hfz8_5 := blk_frozen BK255.out 5
          have hfz8_6 := blk_frozen BK255.out 6
          go_wp2
          go_ret
          exact ⟨by first | rfl | (simp [errW_none, errW_some] <;> rfl) | (simp [*, errW_none, errW_some] <;> rfl), by repeat (first | (with_reducible first | exact HB.out | apply below_alloc | apply pw_below_drewN | apply below_drew1 | refine below_set ?_ GE255.out) | exact HB.out)⟩
      · rw [if_neg c3] at H
        have c3b0 : decide (x4_1 < (l0_1.length : Int)) = false := decide_eq_false c3
        clear c3
        by_cases c9 : x3_1 ≤ 6000
        · rw [if_pos c9] at H
          have c9b0 : decide (x3_1 ≤ 6000) = true := decide_eq_true c9
          clear c9
          obtain rfl := Option.some.inj H
          have hcz10_0 : wr.cell? ⟨gb255, 0, none⟩ = some (.int .i64 a0_0) := (blk_cell BK255.out 0).trans rfl
          have hcz10_1 : wr.cell? ⟨gb255, 1, none⟩ = some (.slice A0_1 l0_1.length c0_1) := (blk_cell BK255.out 1).trans rfl
          have hcz10_2 : wr.cell? ⟨gb255, 2, none⟩ = some (.int .i64 a0_2) := (blk_cell BK255.out 2).trans rfl
          have hcz10_3 : wr.cell? ⟨gb255, 3, none⟩ = some (.int .i64 a0_3) := (blk_cell BK255.out 3).trans rfl
          have hcz10_4 : wr.cell? ⟨gb255, 4, none⟩ = some (.int .i64 a0_4) := (blk_cell BK255.out 4).trans rfl
          have hcz10_5 : wr.cell? ⟨gb255, 5, none⟩ = some (.int .i64 a0_5) := (blk_cell BK255.out 5).trans rfl
          have hcz10_6 : wr.cell? ⟨gb255, 6, none⟩ = some (.slice A0_6 l0_6.length c0_6) := (blk_cell BK255.out 6).trans rfl
          have hfz10_0 := blk_frozen BK255.out 0
          have hfz10_1 := blk_frozen BK255.out 1
          have hfz10_2 := blk_frozen BK255.out 2
          have hfz10_3 := blk_frozen BK255.out 3
          have hfz10_4 := blk_frozen BK255.out 4
          have hfz10_5 := blk_frozen BK255.out 5
          have hfz10_6 := blk_frozen BK255.out 6
          go_wp2
          go_ret
          exact ⟨by first | rfl | (simp [errW_none, errW_some] <;> rfl) | (simp [*, errW_none, errW_some] <;> rfl), by repeat (first | (with_reducible first | exact HB.out | apply below_alloc | apply pw_below_drewN | apply below_drew1 | refine below_set ?_ GE255.out) | exact HB.out)⟩
        · rw [if_neg c9] at H
          have c9b0 : decide (x3_1 ≤ 6000) = false := decide_eq_false c9
          clear c9
          obtain rfl := Option.some.inj H
          have hcz11_0 : wr.cell? ⟨gb255, 0, none⟩ = some (.int .i64 a0_0) := (blk_cell BK255.out 0).trans rfl
          have hcz11_1 : wr.cell? ⟨gb255, 1, none⟩ = some (.slice A0_1 l0_1.length c0_1) := (blk_cell BK255.out 1).trans rfl
          have hcz11_2 : wr.cell? ⟨gb255, 2, none⟩ = some (.int .i64 a0_2) := (blk_cell BK255.out 2).trans rfl
          have hcz11_3 : wr.cell? ⟨gb255, 3, none⟩ = some (.int .i64 a0_3) := (blk_cell BK255.out 3).trans rfl
          have hcz11_4 : wr.cell? ⟨gb255, 4, none⟩ = some (.int .i64 a0_4) := (blk_cell BK255.out 4).trans rfl
          have hcz11_5 : wr.cell? ⟨gb255, 5, none⟩ = some (.int .i64 a0_5) := (blk_cell BK255.out 5).trans rfl
          have hcz11_6 : wr.cell? ⟨gb255, 6, none⟩ = some (.slice A0_6 l0_6.length c0_6) := (blk_cell BK255.out 6).trans rfl
          have hfz11_0 := blk_frozen BK255.out 0
          have hfz11_1 := blk_frozen BK255.out 1
          have hfz11_2 := blk_frozen BK255.out 2
          have hfz11_3 := blk_frozen BK255.out 3
          have hfz11_4 := blk_frozen BK255.out 4
          have hfz11_5 := blk_frozen BK255.out 5
          have hfz11_6 := blk_frozen BK255.out 6
          go_wp2
          go_ret
          exact ⟨by first | rfl | (simp [errW_none, errW_some] <;> rfl) | (simp [*, errW_none, errW_some] <;> rfl), by repeat (first | (with_reducible first | exact HB.out | apply below_alloc | apply pw_below_drewN | apply below_drew1 | refine below_set ?_ GE255.out) | exact HB.out)⟩

end Go.Proofs.Ytmmiipnmimjojaa.PS
end
section
namespace Go.Proofs.Ytmmiipnmimjojaa.PS
open Go.RowKit Go.Proofs.YtmmiipnmimjojaaW.PrintWords Go.Proofs.YtmmiipnmimjojaaW.PrintLast Go.Proofs.YtmmiipnmimjojaaW.PrintMore
open Go.Maps Go.Proofs.Ytmmiipnmimjojaa.PD
set_option linter.unusedVariables false
set_option linter.unusedSimpArgs false
theorem zero_len : WS.zero.bytes.length = 22 := by
  unfold WS.bytes
  show (frameB (Rc.enc (.mark 0 0)) ++ (frameB (Rc.enc (.hard 0 0)) ++ [])).length = 22
  rw [List.append_nil, List.length_append, frameB_len, frameB_len]
  rfl
theorem named_tmp : namedB tmpB = true := by rfl
theorem new_write {room : Int} : (dWrite ⟨room, []⟩ tmpB 0 WS.zero.bytes).1 = if room < 22 then 9 else 0 := by
  unfold dWrite
  rw [if_neg (by rw [named_tmp]; decide)]
  unfold dW2
  have hg : aget tmpB.data.toList ([] : List (Nm × Fil)) = none := rfl
  rw [hg]
  have hm : moreB ((none : Option Fil).getD z110) 0 WS.zero.bytes = 22 := by
    unfold moreB
    rw [zero_len]
    show (max 0 (0 + (22 : Nat) - ((z110.f0.length : Nat) : Int)) : Int) = 22
    rfl
  rw [hm]
  rw [if_neg (by show ¬ ((0 : Int) < 0 ∨ ((z110.f0.length : Int)) < 0); decide), if_neg (by show ¬ ((false = false ∧ 16 ≤ 0) ∨ (262144 : Int) < ((z110.f0.length : Nat) : Int) + 22); decide)]
  have hu : usedB ([] : List (Nm × Fil)) = 0 := rfl
  rw [show (⟨room, []⟩ : Dsk).files = [] from rfl, hu]
  by_cases h : room < 22
  · rw [if_pos h, if_pos (by dsimp only; omega)]
  · rw [if_neg h, if_neg (by dsimp only; omega)]
theorem rm_empty (room : Int) : (dRemove ⟨room, []⟩ tmpB).2 = ⟨room, []⟩ := rfl
theorem begin_ok {room : Int} (h : 22 ≤ room) : (lgAnew ⟨room, []⟩ ⟨0, 0, WS.zero⟩ WS.zero).1 = 0 ∧ (lgAnew ⟨room, []⟩ ⟨0, 0, WS.zero⟩ WS.zero).2.1 = ⟨room, [(nm 1, ⟨WS.zero.bytes, WS.zero.bytes, true, []⟩)]⟩ := by
  have hw : (dWrite ⟨room, []⟩ tmpB 0 WS.zero.bytes).1 = 0 := by rw [new_write, if_neg (by omega)]
  refine ⟨?_, ?_⟩
  · unfold lgAnew dAnew
    rw [if_pos hw]
  · exact anew_ok_files (D := ⟨room, []⟩) (n := 0) (s := WS.zero) (l := []) srt_nil (.inl ⟨rfl, rfl⟩) (by decide) hw
theorem begin_open {room : Int} : OpenOk ⟨room, [(nm 1, ⟨WS.zero.bytes, WS.zero.bytes, true, []⟩)]⟩ 1 WS.zero.recs [] WS.zero :=
  ⟨⟨_, rfl, (List.append_nil _).symm⟩, torn_nil, WOk.zero.recs_ok, WOk.zero.recs_run _, recs_head _, ⟨by decide, by decide⟩⟩
theorem opD_room (D : Dsk) (n : Int) (recs : List Rc) (t : List Int) : (opD D n recs t).room = D.room := by
  unfold opD
  rw [room_sync']
  split
  · rfl
  · unfold dCut; split
    · rfl
    · split <;> rfl
where room_sync' {D : Dsk} {s : ByteArray} : (dSync D s).2.room = D.room := by unfold dSync; split <;> rfl
/-- A log and its file. -/
structure LG (W0 W : World) (S Q : Nat → Prop) (g N L : Nat) (D : Dsk) (M : LM) (recs : List Rc) (p : Nat) : Prop where
  wl : Wl W0 W S Q g N L D M
  li : LI D M recs p
  n : M.n ≤ N + 1
theorem LG.mok {W0 W : World} {S Q : Nat → Prop} {g N L : Nat} {D : Dsk} {M : LM} {recs : List Rc} {p : Nat} (h : LG W0 W S Q g N L D M recs p) : MOk M := (h.li.mok h.wl.dk.2.2.2).1
theorem LG.below {W0 W w' : World} {S Q : Nat → Prop} {g N L : Nat} {D : Dsk} {M : LM} {recs : List Rc} {p : Nat} (h : LG W0 W S Q g N L D M recs p) (hb : Below W.heap.size W w') : LG W0 w' S Q g N L D M recs p := ⟨h.wl.below hb, h.li, h.n⟩
theorem LG.named {W0 W : World} {S Q : Nat → Prop} {g N L : Nat} {D : Dsk} {M : LM} {recs : List Rc} {p : Nat} (h : LG W0 W S Q g N L D M recs p) (hN : N ≤ 800000) : namedB (nameB (M.n + 1)) = true := named_name (by have := h.li.n; omega) (by have := h.n; omega)
/-- A new disk's log. -/
theorem lg_begin {W0 W : World} {S : Nat → Prop} {g : Nat} {room : Int} (h : Dk W0 W S g 0 ⟨room, []⟩) (hr : 22 ≤ room) :
    Calls Try.prog 26 #[.pointer (some ⟨g, 0, none⟩)] W fun e w' => ∃ S' Q' L D M, e = .returned (.tuple #[.pointer (some ⟨L, 0, none⟩), .int .i64 0]) ∧ LG W0 w' S' Q' g 2 L D M WS.zero.recs 2 ∧ M.n = 1 ∧ M.st = WS.zero ∧ D.room = room ∧ Bys W S w' S' L ∧ W.heap.size ≤ L ∧ ∀ k, Q' k → W.heap.size ≤ k := by
  have hb := begin_ok hr
  have ho := begin_open (room := room)
  have hp := ho.pre
  have hli := ho.li
  refine (open_new h (by decide) (by rw [rm_empty]) (by rw [rm_empty]; exact hb.1) (by rw [rm_empty, hb.2, hp.2.2.2, List.append_nil]; rfl)).mono ?_
  rintro e w' ⟨S', Q', rfl, hw, hB, hq⟩
  rw [rm_empty, hb.2] at hw
  exact ⟨S', Q', _, _, _, rfl, ⟨hw, hli, by decide⟩, rfl, rfl, opD_room _ _ _ _, hB, Nat.le_refl _, hq⟩
/-- A log that is opened. -/
theorem lg_open {W0 W : World} {S : Nat → Prop} {g N : Nat} {D : Dsk} {n : Int} {recs : List Rc} {t : List Int} {s : WS} (h : Dk W0 W S g N D) (hN : N ≤ 800000) (ho : OpenOk D n recs t s) (hn : n ≤ N + 1) :
    Calls Try.prog 26 #[.pointer (some ⟨g, 0, none⟩)] W fun e w' => ∃ S' Q' L D' M, e = .returned (.tuple #[.pointer (some ⟨L, 0, none⟩), .int .i64 0]) ∧ LG W0 w' S' Q' g (N + 2) L D' M recs recs.length ∧ M.n = n ∧ M.st = s ∧ D'.room = D.room ∧ Bys W S w' S' L ∧ W.heap.size ≤ L ∧ ∀ k, Q' k → W.heap.size ≤ k := by
  have hp := ho.pre
  have hli := ho.li
  refine (open_old (ks := [n]) h hN hp.1 (fun k hk => by rw [List.mem_singleton.1 hk]; exact ho.n) (by simp) (by simp) (by rw [hp.2.1, hp.2.2.1]; exact hp.2.2.2) ho.ok ho.run ho.head ho.torn).mono ?_
  rintro e w' ⟨S', Q', rfl, hw, hB, hq⟩
  rw [hp.2.1, hp.2.2.1] at hw
  exact ⟨S', Q', _, _, _, rfl, ⟨hw, hli, by dsimp only; omega⟩, rfl, rfl, opD_room _ _ _ _, hB, Nat.le_refl _, hq⟩
/-- What a deed leaves. -/
def AfL (W0 W : World) (S Q : Nat → Prop) (g N L : Nat) (r : Int × Dsk × LM) (P : List Rc → Nat → Prop) (w' : World) : Prop :=
  ∃ S' Q' recs' p', LG W0 w' S' Q' g N L r.2.1 r.2.2 recs' p' ∧ P recs' p' ∧ Bys W S w' S' L ∧ ∀ k, k < W.heap.size → Q' k → Q k
section
variable {W0 W : World} {S Q : Nat → Prop} {g N L p : Nat} {D : Dsk} {M : LM} {recs : List Rc}
theorem lg_sync (h : LG W0 W S Q g N L D M recs p) (hN : N ≤ 800000) :
    Calls Try.prog 28 #[.pointer (some ⟨L, 0, none⟩)] W fun e w' => e = .returned (.int .i64 0) ∧ AfL W0 W S Q g N L (0, (dSync D (nameB M.n)).2, M) (fun recs' p' => recs' = recs ∧ p' = recs.length) w' := by
  have hs := h.li.sync
  refine (wsync_calls h.wl h.mok (by omega)).mono ?_
  rintro e w' ⟨rfl, S', Q', hw, hB, hq⟩
  exact ⟨by show Ending.returned (.int .i64 (dSync D (nameB M.n)).1) = _; rw [hs.1], S', Q', recs, recs.length, ⟨hw, hs.2, h.n⟩, ⟨rfl, rfl⟩, hB, hq⟩
/-- Room enough. -/
theorem write_room {rs : List Rc} (h : LI D M recs p) (h1 : ((recsB recs).length : Int) + (recsB rs).length ≤ 262144) (h2 : ((recsB recs).length : Int) + (recsB rs).length ≤ D.room) : (lgPut D M (recsB rs)).1 = 0 := by
  obtain ⟨f, hg, hf, hf0, _⟩ := h.get
  have hn := h.n
  unfold lgPut
  rw [if_neg (by rw [h.sz]; omega)]
  unfold lgPut1
  dsimp only
  unfold dWrite
  rw [if_neg (by rw [named_name hn.1 (by omega)]; decide), nm_name, hg]
  unfold dW2
  have hm : moreB ((some f).getD z110) M.sz (recsB rs) = (recsB rs).length := by
    unfold moreB
    show max 0 (M.sz + ((recsB rs).length : Int) - (f.f0.length : Int)) = _
    rw [h.sz, hf0]
    omega
  rw [hm]
  have hfl : (((some f).getD z110).f0.length : Int) = (recsB recs).length := by show ((f.f0.length : Nat) : Int) = _; rw [hf0]
  have hu : usedB D.files = (recsB recs).length := by rw [hf]; unfold usedB; simp [hf0]
  rw [hfl, hu, h.sz]
  rw [if_neg (by omega), if_neg (by rintro (⟨h3, _⟩ | h3); cases h3; omega), if_neg (by omega)]
theorem append_room {es : List S48} (h : LI D M recs p) (he : entsErr es = 0) (hf : fitsOk M.st es) (h1 : ((recsB recs).length : Int) + (recsB (es.map .ent)).length ≤ 262144) (h2 : ((recsB recs).length : Int) + (recsB (es.map .ent)).length ≤ D.room) : (lgAppend D M es).1 = 0 := by
  unfold lgAppend
  rw [if_neg (by rw [he]; decide), if_neg (fun hh => hh hf)]
  split
  · rfl
  · have := write_room (rs := es.map .ent) h h1 h2
    rw [if_pos this]
end
end Go.Proofs.Ytmmiipnmimjojaa.PS
end
section
namespace Go.Proofs.Ytmmiipnmimjojaa.PS
open Go.RowKit Go.Proofs.YtmmiipnmimjojaaW.PrintWords Go.Proofs.YtmmiipnmimjojaaW.PrintLast Go.Proofs.YtmmiipnmimjojaaW.PrintMore
open Go.Maps Go.Proofs.Ytmmiipnmimjojaa.PD
set_option linter.unusedVariables false
set_option linter.unusedSimpArgs false
attribute [local go_sem high] eqA81
theorem wroom_write (D : Dsk) (s : ByteArray) (at_ : Int) (b : List Int) : (dWrite D s at_ b).2.room = D.room := by
  unfold dWrite dW2; split; rfl; split; rfl; split; rfl; split <;> rfl
theorem wroom_sync (D : Dsk) (s : ByteArray) : (dSync D s).2.room = D.room := by unfold dSync; split <;> rfl
theorem wroom_remove (D : Dsk) (s : ByteArray) : (dRemove D s).2.room = D.room := by unfold dRemove; split <;> rfl
theorem wroom_rename (D : Dsk) (s t : ByteArray) : (dRename D s t).2.room = D.room := by unfold dRename; split; rfl; split; rfl; split <;> rfl
theorem wroom_anew (D : Dsk) (M : LM) (s : WS) : (lgAnew D M s).2.1.room = D.room := by
  unfold lgAnew dAnew
  dsimp only
  split
  · dsimp only
    split
    · rw [wroom_remove, wroom_rename, wroom_sync, wroom_write]
    · rw [wroom_rename, wroom_sync, wroom_write]
  · dsimp only
    rw [wroom_remove, wroom_write]
theorem wroom_put1 (D : Dsk) (M : LM) (b : List Int) : (lgPut1 D M b).2.1.room = D.room := wroom_write _ _ _ _
theorem wroom_put (D : Dsk) (M : LM) (b : List Int) : (lgPut D M b).2.1.room = D.room := by
  unfold lgPut
  split
  · split
    · rw [wroom_put1, wroom_anew]
    · exact wroom_anew _ _ _
  · exact wroom_put1 _ _ _
theorem wroom_append (D : Dsk) (M : LM) (es : List S48) : (lgAppend D M es).2.1.room = D.room := by
  unfold lgAppend
  split; rfl
  split; rfl
  split; rfl
  split
  · exact wroom_put _ _ _
  · exact wroom_put _ _ _
end Go.Proofs.Ytmmiipnmimjojaa.PS
end
section
namespace Go.Proofs.Ytmmiipnmimjojaa.PS
open Go.RowKit Go.Proofs.YtmmiipnmimjojaaW.PrintWords Go.Proofs.YtmmiipnmimjojaaW.PrintLast Go.Proofs.YtmmiipnmimjojaaW.PrintMore
open Go.Maps Go.Proofs.Ytmmiipnmimjojaa.PD
set_option linter.unusedVariables false
set_option linter.unusedSimpArgs false
end Go.Proofs.Ytmmiipnmimjojaa.PS
end
section
namespace Go.Proofs.Ytmmiipnmimjojaa.PS
open Go.RowKit Go.Proofs.YtmmiipnmimjojaaW.PrintWords Go.Proofs.YtmmiipnmimjojaaW.PrintLast Go.Proofs.YtmmiipnmimjojaaW.PrintMore
open Go.Maps Go.Proofs.Ytmmiipnmimjojaa.PD
set_option linter.unusedVariables false
set_option linter.unusedSimpArgs false
/-- What is known of a deed. -/
structure DOk (x : S85) : Prop where
  es : ∀ y ∈ x.f1, okBytes y.f3 = true
  mark : -9223372036854775808 ≤ x.f3.f0 ∧ x.f3.f0 ≤ 9223372036854775807
  len : x.f1.length ≤ 140737488355328
/-- A deed, as it is read at W; its cells. -/
structure DeedC (W : World) (ad : Addr) (i : Int) (x : S85) (A1 : Option Addr) (c1 : Nat) (A6 : Option Addr) (c6 : Nat) : Prop where
  n0 : W.cell? (ad.add (i.toNat * 7)) = some (.int .i64 x.f0)
  n1 : W.cell? ⟨(ad.add (i.toNat * 7)).block, (ad.add (i.toNat * 7)).off + 1, none⟩ = some (.slice A1 x.f1.length c1)
  n2 : W.cell? ⟨(ad.add (i.toNat * 7)).block, (ad.add (i.toNat * 7)).off + 2, none⟩ = some (.int .i64 x.f2.f0)
  n3 : W.cell? ⟨(ad.add (i.toNat * 7)).block, (ad.add (i.toNat * 7)).off + 3, none⟩ = some (.int .i64 x.f2.f1)
  n4 : W.cell? ⟨(ad.add (i.toNat * 7)).block, (ad.add (i.toNat * 7)).off + 4, none⟩ = some (.int .i64 x.f3.f0)
  n5 : W.cell? ⟨(ad.add (i.toNat * 7)).block, (ad.add (i.toNat * 7)).off + 5, none⟩ = some (.int .i64 x.f3.f1)
  n6 : W.cell? ⟨(ad.add (i.toNat * 7)).block, (ad.add (i.toNat * 7)).off + 6, none⟩ = some (.slice A6 x.f4.length c6)
theorem DeedC.below {W W1 : World} {ad : Addr} {i : Int} {x : S85} {A1 A6 : Option Addr} {c1 c6 : Nat} (h : DeedC W ad i x A1 c1 A6 c6) (hb : Below W.heap.size W W1) : DeedC W1 ad i x A1 c1 A6 c6 :=
  ⟨(hb.cell (World.block_lt_of_cell? W _ h.n0)).trans h.n0, (hb.cell (World.block_lt_of_cell? W _ h.n1)).trans h.n1, (hb.cell (World.block_lt_of_cell? W _ h.n2)).trans h.n2, (hb.cell (World.block_lt_of_cell? W _ h.n3)).trans h.n3,
    (hb.cell (World.block_lt_of_cell? W _ h.n4)).trans h.n4, (hb.cell (World.block_lt_of_cell? W _ h.n5)).trans h.n5, (hb.cell (World.block_lt_of_cell? W _ h.n6)).trans h.n6⟩
/-- Its rows. -/
structure DeedF (W : World) (x : S85) (A1 : Option Addr) (c1 : Nat) (A6 : Option Addr) (c6 : Nat) : Prop where
  l1 : x.f1.length ≤ c1
  C1 : k48.C W A1 x.f1.length x.f1
  l6 : x.f4.length ≤ c6
  C6 : (Kd.int .i64).C W A6 x.f4.length x.f4
theorem DeedF.ents {W w : World} {S Q : Nat → Prop} {g N L : Nat} {D : Dsk} {M : LM} {x : S85} {A1 A6 : Option Addr} {c1 c6 : Nat} (h : DeedF W x A1 c1 A6 c6) (hw : Wl W w S Q g N L D M) : Kd.F k48 w (fun k => (¬ S k ∧ k ≠ L) ∧ k < w.heap.size) A1 x.f1.length x.f1 := by
  have hb := hw.dk.1
  refine Kd.F_mono (Kd.F_step (Kd.C_F k48_heap h.C1) (fun k _ hlt => hb.block k hlt)) (fun k hk => ⟨⟨fun hS => ?_, fun e => ?_⟩, Nat.lt_of_lt_of_le hk hb.size⟩)
  · have := (hw.dk.2.1 k hS).1; omega
  · have := (hw.q L hw.lg.1).1; omega
/-- A state that was told: its entries. -/
def WasF (w : World) (S : Nat → Prop) (L : Nat) (s : WS) (A : Option Addr) (c : Nat) : Prop := s.es.length ≤ c ∧ Kd.F k48 w (fun k => (¬ S k ∧ k ≠ L) ∧ k < w.heap.size) A s.es.length s.es
theorem WasF.bys {w w' : World} {S S' : Nat → Prop} {L : Nat} {s : WS} {A : Option Addr} {c : Nat} (h : WasF w S L s A c) (hb : Bys w S w' S' L) : WasF w' S' L s A c := ⟨h.1, F_bysE hb h.2 hb.size⟩
theorem WasF.below {w w' : World} {S : Nat → Prop} {L : Nat} {s : WS} {A : Option Addr} {c : Nat} (h : WasF w S L s A c) (hb : Below w.heap.size w w') : WasF w' S L s A c := h.bys (Bys.of_below hb)
theorem LG.few {W0 W : World} {S Q : Nat → Prop} {g N L p : Nat} {D : Dsk} {M : LM} {recs : List Rc} (h : LG W0 W S Q g N L D M recs p) : M.st.es.length ≤ 1000000000 := by
  have := h.mok.few
  omega
/-- What a deed of a script leaves; r: its answer. -/
def DidA (W0 W : World) (S Q : Nat → Prop) (g N L : Nat) (M : LM) (r : Int) (w' : World) : Prop := ∃ S' Q' D' M' recs' p', LG W0 w' S' Q' g (N + 2) L D' M' recs' p' ∧ (r ≠ 0 → M'.st = M.st) ∧ Bys W S w' S' L
theorem DidA.of {W0 W : World} {S Q : Nat → Prop} {g N N' L : Nat} {M : LM} {r : Int × Dsk × LM} {P : List Rc → Nat → Prop} {w' : World} (h : AfL W0 W S Q g N' L r P w') (hN : N' ≤ N + 2) (hr : ∀ recs' p', P recs' p' → r.1 ≠ 0 → r.2.2.st = M.st) : DidA W0 W S Q g N L M r.1 w' := by
  obtain ⟨S', Q', recs', p', hl, hp, hb, _⟩ := h
  exact ⟨S', Q', _, _, recs', p', ⟨hl.wl.mono hN, hl.li, by have := hl.n; omega⟩, hr recs' p' hp, hb⟩
end Go.Proofs.Ytmmiipnmimjojaa.PS
end
section
namespace Go.Proofs.Ytmmiipnmimjojaa.PS
open Go.RowKit Go.Proofs.YtmmiipnmimjojaaW.PrintWords Go.Proofs.YtmmiipnmimjojaaW.PrintLast Go.Proofs.YtmmiipnmimjojaaW.PrintMore
open Go.Maps Go.Proofs.Ytmmiipnmimjojaa.PD
set_option linter.unusedVariables false
set_option linter.unusedSimpArgs false
/-- The log of this law. -/
structure OvI (W0 w : World) (S Q : Nat → Prop) (g N L : Nat) (D : Dsk) (M : LM) (recs : List Rc) (p : Nat) (E : List S48) (m : Nat) : Prop where
  lg : LG W0 w S Q g N L D M recs p
  st : M.st = ⟨0, 0, 0, 0, E⟩
  room : D.room = 262144
  recs : recs.length ≤ m + 2
  es : E.length ≤ m
  nn : N ≤ 1000
end Go.Proofs.Ytmmiipnmimjojaa.PS
end
section
namespace Go.Proofs.Ytmmiipnmimjojaa.PS
open Go.RowKit Go.Proofs.YtmmiipnmimjojaaW.PrintWords Go.Proofs.YtmmiipnmimjojaaW.PrintLast Go.Proofs.YtmmiipnmimjojaaW.PrintMore
open Go.Maps Go.Proofs.Ytmmiipnmimjojaa.PD
set_option linter.unusedVariables false
set_option linter.unusedSimpArgs false
/-- No block of the disk, nor of the log. -/
def okQ (S Q : Nat → Prop) (L k : Nat) : Prop := ¬ S k ∧ k ≠ L ∧ ¬ Q k
theorem LG.grown {W0 w w1 : World} {S Q : Nat → Prop} {g N L p : Nat} {D : Dsk} {M : LM} {recs : List Rc} {row : Option Nat} (h : LG W0 w S Q g N L D M recs p) (hg : w.grownBy w1 row) (hb : Below W0.heap.size W0 w1) (hr : ∀ k, row = some k → k < w.heap.size → okQ S Q L k) : LG W0 w1 S Q g N L D M recs p := by
  obtain ⟨hQ, v, hh, hv⟩ := h.wl.lg
  have hL := h.wl.q L hQ
  have keep : ∀ k, Q k → w1.heap[k]? = w.heap[k]? := fun k hk => hg.block k (h.wl.q k hk).2.1 (fun e => (hr k e.symm (h.wl.q k hk).2.1).2.2 hk)
  refine ⟨⟨h.wl.dk.kp hb (P := fun k => row = some k) ⟨hg.os, hg.tape, hg.output, hg.size, fun k hk hn => hg.block k hk (fun e => hn e.symm)⟩ (fun k hS e => (hr k e (h.wl.dk.2.1 k hS).2).1 hS), ⟨hQ, v, (keep L hQ).trans hh, Kd.V_map hv fun A hF => Kd.F_step hF fun k hk _ => keep k hk.1⟩, fun k hk => ⟨(h.wl.q k hk).1, Nat.lt_of_lt_of_le (h.wl.q k hk).2.1 hg.size, (h.wl.q k hk).2.2⟩⟩, h.li, h.n⟩
theorem OvI.grown {W0 w w1 : World} {S Q : Nat → Prop} {g N L p m : Nat} {D : Dsk} {M : LM} {recs : List Rc} {E : List S48} {row : Option Nat} (h : OvI W0 w S Q g N L D M recs p E m) (hg : w.grownBy w1 row) (hb : Below W0.heap.size W0 w1) (hr : ∀ k, row = some k → k < w.heap.size → okQ S Q L k) : OvI W0 w1 S Q g N L D M recs p E m :=
  ⟨h.lg.grown hg hb hr, h.st, h.room, h.recs, h.es, h.nn⟩
theorem OvI.below {W0 w w1 : World} {S Q : Nat → Prop} {g N L p m : Nat} {D : Dsk} {M : LM} {recs : List Rc} {E : List S48} (h : OvI W0 w S Q g N L D M recs p E m) (hb : Below w.heap.size w w1) : OvI W0 w1 S Q g N L D M recs p E m :=
  ⟨h.lg.below hb, h.st, h.room, h.recs, h.es, h.nn⟩
end Go.Proofs.Ytmmiipnmimjojaa.PS
end
