/- The texts of this claim's seat, joined: part 23. -/
import Derived.Test.YtmmiipnmimjojaaJ22
import Derived.Test.YtmmiipnmimjojaaRows
import Derived.Deep.Slices
import Derived.SizedLaws
import Derived.ProofKit
import Derived.KernelRfl
section
namespace Go.Proofs.Ytmmiipnmimjojaa.PS
open Go.RowKit Go.Proofs.YtmmiipnmimjojaaW.PrintWords Go.Proofs.YtmmiipnmimjojaaW.PrintLast Go.Proofs.YtmmiipnmimjojaaW.PrintMore
open Go.Maps Go.Proofs.Ytmmiipnmimjojaa.PD
set_option linter.unusedVariables false
set_option linter.unusedSimpArgs false
def b8 (n : Int) : Int := n % 256
theorem b8_in (n : Int) : 0 ≤ b8 n ∧ b8 n ≤ 255 := by unfold b8; omega
/-- The entries that lives add. -/
structure TrE (E : List S48) (t : Int) : Prop where
  kind : ∀ x ∈ E, x.f0 = 2
  at_ : ∀ (j : Nat) (x : S48), E[j]? = some x → x.f2 = (j : Int) + 1
  dat : ∀ (j : Nat) (x : S48), E[j]? = some x → x.f3 = [b8 ((j : Int) + 1)]
  mon : E.Pairwise fun x y => x.f1 ≤ y.f1
  top : ∀ x ∈ E, 1 ≤ x.f1 ∧ x.f1 ≤ t
theorem TrE.nil (t : Int) : TrE [] t := ⟨fun _ h => (List.not_mem_nil h).elim, fun j x h => by simp at h, fun j x h => by simp at h, List.Pairwise.nil, fun _ h => (List.not_mem_nil h).elim⟩
theorem TrE.mono {E : List S48} {t u : Int} (h : TrE E t) (hu : t ≤ u) : TrE E u := ⟨h.kind, h.at_, h.dat, h.mon, fun x hx => ⟨(h.top x hx).1, Int.le_trans (h.top x hx).2 hu⟩⟩
theorem TrE.take {E : List S48} {t : Int} (h : TrE E t) (n : Nat) : TrE (E.take n) t := by
  refine ⟨fun x hx => h.kind x (List.mem_of_mem_take hx), fun j x hj => h.at_ j x ?_, fun j x hj => h.dat j x ?_, h.mon.sublist (List.take_sublist n E), fun x hx => h.top x (List.mem_of_mem_take hx)⟩
  all_goals
    rw [List.getElem?_take] at hj
    split at hj
    · exact hj
    · cases hj
theorem TrE.more {E : List S48} {t : Int} {n : Nat} (h : TrE E t) (ht : 1 ≤ t) (hn : E.length = n) : TrE (E ++ [⟨2, t, (n : Int) + 1, [b8 ((n : Int) + 1)]⟩]) t := by
  have key : ∀ (j : Nat) (x : S48), (E ++ [⟨2, t, (n : Int) + 1, [b8 ((n : Int) + 1)]⟩])[j]? = some x → E[j]? = some x ∨ (j = n ∧ x = ⟨2, t, (n : Int) + 1, [b8 ((n : Int) + 1)]⟩) := by
    intro j x hj
    by_cases h1 : j < E.length
    · rw [List.getElem?_append_left h1] at hj; exact .inl hj
    · rw [List.getElem?_append_right (by omega)] at hj
      have h2 : j - E.length = 0 := by
        rcases Nat.eq_zero_or_pos (j - E.length) with h0 | h0
        · exact h0
        · rw [List.getElem?_eq_none (by simp; omega)] at hj; cases hj
      rw [h2] at hj
      simp only [List.getElem?_cons_zero, Option.some.injEq] at hj
      exact .inr ⟨by omega, hj.symm⟩
  refine ⟨fun x hx => ?_, fun j x hj => ?_, fun j x hj => ?_, ?_, fun x hx => ?_⟩
  · rcases List.mem_append.1 hx with hx | hx
    · exact h.kind x hx
    · rw [List.mem_singleton.1 hx]
  · rcases key j x hj with hj | ⟨rfl, rfl⟩
    · exact h.at_ j x hj
    · rfl
  · rcases key j x hj with hj | ⟨rfl, rfl⟩
    · exact h.dat j x hj
    · rfl
  · rw [List.pairwise_append]
    exact ⟨h.mon, List.pairwise_singleton _ _, fun x hx y hy => by rw [List.mem_singleton.1 hy]; exact (h.top x hx).2⟩
  · rcases List.mem_append.1 hx with hx | hx
    · exact h.top x hx
    · rw [List.mem_singleton.1 hx]; exact ⟨ht, Int.le_refl _⟩
/-- One record's bytes are few. -/
theorem tr_rec {x : S48} (h1 : 1 ≤ x.f1 ∧ x.f1 ≤ 1000) (h2 : 1 ≤ x.f2 ∧ x.f2 ≤ 1000000) {b : Int} (h3 : x.f3 = [b]) : (recsB [.ent x]).length ≤ 30 := by
  have e1 := enc_len (n := x.f1) (by omega) (by omega)
  have e2 := enc_len (n := x.f2) (by omega) (by omega)
  have e3 := enc_len (n := (x.f3.length : Int)) (by omega) (by rw [h3]; show ((1 : Nat) : Int) ≤ 1099511627776; decide)
  rw [recsB_one, frameB_len]
  simp only [Rc.enc, entBytes, List.length_cons, List.length_append]
  rw [h3] at e3 ⊢
  simp only [List.length_cons, List.length_nil] at e3 ⊢
  omega
theorem tr_recs {t : Int} (ht : t ≤ 1000) : ∀ {E : List S48}, TrE E t → E.length ≤ 1000000 → (recsB (E.map .ent)).length ≤ 30 * E.length := by
  intro E h hl
  have key : ∀ n, n ≤ E.length → (recsB ((E.take n).map .ent)).length ≤ 30 * n := by
    intro n
    induction n with
    | zero => intro _; rw [List.take_zero]; simp [recsB_nil]
    | succ n ih =>
      intro hn
      have h1 := ih (by omega)
      have hx : E[n]? = some (E[n]'(by omega)) := List.getElem?_eq_getElem (by omega)
      rw [List.take_add_one, hx]
      simp only [Option.toList]
      rw [List.map_append, recsB_append, List.length_append]
      have h2 := h.at_ n _ hx
      have h3 := tr_rec (x := E[n]'(by omega)) ⟨(h.top _ (List.getElem_mem _)).1, by have := (h.top _ (List.getElem_mem (l := E) (n := n) (by omega))).2; omega⟩ ⟨by omega, by omega⟩ (h.dat n _ hx)
      show _ + (recsB [.ent _]).length ≤ _
      omega
  have := key E.length (Nat.le_refl _)
  rwa [List.take_length] at this
/-- The log of this law: its entries are E; p of its records last. -/
structure TrI (W0 w : World) (S Q : Nat → Prop) (g N L : Nat) (D : Dsk) (M : LM) (recs : List Rc) (p : Nat) (E : List S48) (t : Int) : Prop where
  lg : LG W0 w S Q g N L D M recs p
  st : M.st = ⟨0, 0, 0, 0, E⟩
  room : D.room = 131072
  recs : recs = WS.zero.recs ++ E.map .ent
  ents : TrE E t
theorem TrI.below {W0 w w1 : World} {S Q : Nat → Prop} {g N L p : Nat} {D : Dsk} {M : LM} {recs : List Rc} {E : List S48} {t : Int} (h : TrI W0 w S Q g N L D M recs p E t) (hb : Below w.heap.size w w1) : TrI W0 w1 S Q g N L D M recs p E t := ⟨h.lg.below hb, h.st, h.room, h.recs, h.ents⟩
theorem tr_eok {t : Int} {n : Nat} (ht : 1 ≤ t ∧ t ≤ 1000) (hn : n ≤ 100000) : EOk ⟨2, t, (n : Int) + 1, [b8 ((n : Int) + 1)]⟩ := by
  refine ⟨?_, ?_⟩
  · show entErr 2 t ((n : Int) + 1) [b8 ((n : Int) + 1)] = 0
    unfold entErr entBad
    simp
    omega
  · have := b8_in ((n : Int) + 1)
    unfold okBytes
    simp
    omega
theorem tr_append {W0 w : World} {S Q : Nat → Prop} {g N L p n : Nat} {D : Dsk} {M : LM} {recs : List Rc} {E : List S48} {t : Int} {Ab : Option Addr} {cb : Nat} (h : TrI W0 w S Q g N L D M recs p E t) (ht : 1 ≤ t ∧ t ≤ 1000) (hn : E.length = n) (hN : N ≤ 100000) (hl : n ≤ 3000)
    (hF : Kd.F k48 w (fun k => (¬ S k ∧ k ≠ L) ∧ k < w.heap.size) Ab 1 [⟨2, t, (n : Int) + 1, [b8 ((n : Int) + 1)]⟩]) (hc : 1 ≤ cb) :
    Calls Try.prog 27 #[.pointer (some ⟨L, 0, none⟩), .slice Ab 1 cb] w fun e w' => e = .returned (.int .i64 0) ∧ ∃ S' Q' D' M' recs', TrI W0 w' S' Q' g (N + 2) L D' M' recs' p (E ++ [⟨2, t, (n : Int) + 1, [b8 ((n : Int) + 1)]⟩]) t ∧ Bys w S w' S' L := by
  obtain ⟨x, hx⟩ : ∃ x : S48, (⟨2, t, (n : Int) + 1, [b8 ((n : Int) + 1)]⟩ : S48) = x := ⟨_, rfl⟩
  have hok := tr_eok (n := n) ht (by omega)
  have hx2 : x.f2 = (n : Int) + 1 := by rw [← hx]
  have hx1 : x.f1 = t := by rw [← hx]
  have hx3 : x.f3 = [b8 ((n : Int) + 1)] := by rw [← hx]
  have hent := h.ents.more ht.1 hn
  rw [hx] at hok hF hent ⊢
  have hr1 := tr_recs ht.2 h.ents (by omega)
  have hr2 := tr_rec (x := x) ⟨by omega, by omega⟩ ⟨by omega, by omega⟩ hx3
  have hrl : (recsB recs).length ≤ 22 + 30 * n := by
    rw [h.recs, recsB_append, List.length_append]
    have : (recsB WS.zero.recs).length = 22 := zero_len
    omega
  have hfit : fitsOk M.st [x] := by rw [h.st]; exact ⟨⟨by show (0 : Int) < x.f2; omega, by show x.f2 ≤ 0 + (E.length : Int) + 1; omega⟩, trivial⟩
  have hz : (lgAppend D M [x]).1 = 0 := append_room h.lg.li (by unfold entsErr; rw [if_pos hok.1]; rfl) hfit (by show _ + ((recsB [.ent x]).length : Int) ≤ _; omega) (by rw [h.room]; show _ + ((recsB [.ent x]).length : Int) ≤ _; omega)
  have hnp : lgPut D M (recsB [.ent x]) = lgPut1 D M (recsB [.ent x]) := by
    unfold lgPut
    rw [if_neg (by rw [h.lg.li.sz]; omega)]
  have hadd : M.st.adds [x] = ⟨0, 0, 0, 0, E ++ [x]⟩ := by
    rw [h.st]
    show (⟨0, 0, 0, 0, E⟩ : WS).add x = _
    unfold WS.add
    dsimp only
    rw [show (x.f2 - 0 - 1).toNat = E.length by omega, List.take_length]
  have hl1 := h.lg.li.put1 (rs := [.ent x]) (st' := M.st.adds [x]) h.lg.wl.dk.2.2.2.srt (fun r hr => by rw [List.mem_singleton.1 hr]; exact hok) (by
    show (if M.st.fit x then some (M.st.add x) else none).bind _ = _
    rw [if_pos (by rw [h.st]; unfold WS.fit; dsimp only; omega)]
    rfl)
  have e0 : lgAppend D M [x] = (if (lgPut1 D M (recsB [.ent x])).1 = 0 then (0, (lgPut1 D M (recsB [.ent x])).2.1, { (lgPut1 D M (recsB [.ent x])).2.2 with st := M.st.adds [x] }) else lgPut1 D M (recsB [.ent x])) := by
    unfold lgAppend
    rw [if_neg (by unfold entsErr; rw [if_pos hok.1]; decide), if_neg (fun hh => hh hfit), if_neg (by simp)]
    show (if (lgPut D M (recsB [.ent x])).1 = 0 then (0, (lgPut D M (recsB [.ent x])).2.1, { (lgPut D M (recsB [.ent x])).2.2 with st := M.st.adds [x] }) else lgPut D M (recsB [.ent x])) = _
    rw [hnp]
  have hp10 : (lgPut1 D M (recsB [.ent x])).1 = 0 := by
    rw [e0] at hz
    by_cases h0 : (lgPut1 D M (recsB [.ent x])).1 = 0
    · exact h0
    · rw [if_neg h0] at hz; exact hz
  have hap := e0.trans (if_pos hp10)
  obtain ⟨hli, hn1⟩ := hl1.1 hp10
  have hmk := h.lg.li.mok h.lg.wl.dk.2.2.2
  have hfew : M.st.es.length ≤ 30000 := by rw [h.st]; show E.length ≤ 30000; omega
  have hnn := h.lg.n
  refine (append_calls h.lg.wl hmk.1 (by omega) (by omega) (h.lg.named (by omega)) (es := [x]) hF hc (by simp) (fun y hy => by rw [List.mem_singleton.1 hy]; exact hok.2) (by simp; omega)).mono ?_
  rintro e w' ⟨rfl, S', Q', hw, hB, hq⟩
  rw [hz]
  rw [hap] at hw
  refine ⟨rfl, S', Q', _, _, _, ⟨⟨hw, hli, by show (lgPut1 D M (recsB [.ent x])).2.2.n ≤ _; rw [hn1]; omega⟩, hadd, ?_, ?_, hent⟩, hB⟩
  · show (lgPut1 D M (recsB [.ent x])).2.1.room = 131072
    have h1 := wroom_append (D := D) (M := M) (es := [x])
    rw [hap] at h1
    rw [h1, h.room]
  · rw [h.recs, List.map_append, List.append_assoc]
    rfl
/-- What a crash leaves. -/
theorem tr_crash {W0 w : World} {S Q : Nat → Prop} {g N L p : Nat} {D : Dsk} {M : LM} {recs : List Rc} {E : List S48} {t : Int} (h : TrI W0 w S Q g N L D M recs p E t) (hp : 2 ≤ p) (keep : List Int) :
    ∃ (m : Nat) (z : List Int), p ≤ m + 2 ∧ m ≤ E.length ∧ OpenOk (dCrash D keep) M.n (WS.zero.recs ++ (E.take m).map .ent) z ⟨0, 0, 0, 0, E.take m⟩ := by
  obtain ⟨q, z, st, h1, h2, hr, ho⟩ := h.lg.li.crash_open keep
  have hz2 : WS.zero.recs.length = 2 := rfl
  have htk : recs.take q = WS.zero.recs ++ (E.take (q - 2)).map .ent := by
    rw [h.recs, List.take_append, List.take_of_length_le (by rw [hz2]; omega), hz2, List.map_take]
  have hst : st = ⟨0, 0, 0, 0, E.take (q - 2)⟩ := by
    rw [htk, WS.run_append, WOk.zero.recs_run] at hr
    have h3 := run_ents (bi := 0) (bt := 0) (ht := 0) (hv := 0) (E.take (q - 2)) [] (fun j x hj => by rw [List.nil_append] at hj; have := (h.ents.take (q - 2)).at_ j x hj; omega)
    exact (Option.some.inj (h3.symm.trans hr)).symm
  rw [h.recs, List.length_append, hz2, List.length_map] at h2
  rw [htk, hst] at ho
  exact ⟨q - 2, z, by omega, by omega, ho⟩
theorem lit_F8 (w : World) (b : Int) : Kd.F k8 (w.alloc (.cells #[.int .u8 b] 5)) (fun k => k = w.heap.size) (some ⟨w.heap.size, 0, none⟩) 1 [b] := fun W' hW => by
  have hb := (hW w.heap.size rfl (by rw [World.size_alloc]; omega)).trans (blk_new w (.cells #[.int .u8 b] 5))
  have hc : W'.cell? ⟨w.heap.size, 0, none⟩ = some (.int .u8 b) := blk_cell hb 0
  refine ⟨rfl, by decide, fun _ => ⟨_, rfl, fun j p hj => ⟨[.int .u8 p], rfl, rfl, fun i u hu => ?_⟩⟩⟩
  have hi : i = 0 := by
    rcases i with _ | i
    · rfl
    · simp at hu
  have hj0 : j = 0 := by
    rcases j with _ | j
    · rfl
    · simp at hj
  subst hi
  subst hj0
  simp at hu hj
  rw [← hu, ← hj]
  exact hc
/-- The entry that is added, in a literal's row. -/
theorem tr_lit {W0 w : World} {S Q : Nat → Prop} {g N L : Nat} {D : Dsk} {M : LM} (h : Wl W0 w S Q g N L D M) (t a b : Int) :
    Kd.F k48 ((w.alloc (.cells #[.int .u8 b] 5)).alloc (.cells #[.int .i64 2, .int .i64 t, .int .i64 a, .slice (some ⟨w.heap.size, 0, none⟩) 1 1] 48)) (fun k => (¬ S k ∧ k ≠ L) ∧ k < ((w.alloc (.cells #[.int .u8 b] 5)).alloc (.cells #[.int .i64 2, .int .i64 t, .int .i64 a, .slice (some ⟨w.heap.size, 0, none⟩) 1 1] 48)).heap.size) (some ⟨w.heap.size + 1, 0, none⟩) 1 [⟨2, t, a, [b]⟩] := by
  have hb := blk_new (w.alloc (.cells #[.int .u8 b] 5)) (.cells #[.int .i64 2, .int .i64 t, .int .i64 a, .slice (some ⟨w.heap.size, 0, none⟩) 1 1] 48)
  rw [World.size_alloc] at hb
  have hf := Kd.F_below (lit_F8 w b) (below_alloc (Below.refl _ (w.alloc (.cells #[.int .u8 b] 5))) (.cells #[.int .i64 2, .int .i64 t, .int .i64 a, .slice (some ⟨w.heap.size, 0, none⟩) 1 1] 48))
  refine Kd.F_mono (F_one (x := ⟨2, t, a, [b]⟩) (Ax := some ⟨w.heap.size, 0, none⟩) (cx := 1) (ok := fun k => k = w.heap.size) hb (Nat.le_refl _) hf) (fun k hk => ?_)
  rw [World.size_alloc, World.size_alloc]
  have h1 := fun (k : Nat) (hS : S k) => (h.dk.2.1 k hS).2
  have h2 := (h.q L h.lg.1).2.1
  rcases hk with hk | hk
  · exact ⟨⟨fun hS => by have := h1 k hS; omega, fun e => by omega⟩, by omega⟩
  · exact ⟨⟨fun hS => by have := h1 k hS; omega, fun e => by omega⟩, by omega⟩
theorem tr_from {E : List S48} {m : Nat} (hm : E.length = m) : (⟨0, 0, 0, 0, E⟩ : WS).from_ 1 (m : Int) = E := by
  subst hm
  unfold WS.from_ WS.last
  dsimp only
  rw [show min (E.length : Int) (0 + (E.length : Int)) = (E.length : Int) by omega, show max (1 : Int) (0 + 1) = 1 by omega]
  by_cases h : (E.length : Int) < 1
  · rw [if_pos h]; exact (List.eq_nil_of_length_eq_zero (by omega)).symm
  · rw [if_neg h, show ((E.length : Int) - 0).toNat = E.length by omega, List.take_length, show ((1 : Int) - 0 - 1).toNat = 0 by omega, List.drop_zero]
theorem TrI.sync {W0 w w' : World} {S Q S' Q' : Nat → Prop} {g N L p : Nat} {D : Dsk} {M : LM} {recs : List Rc} {E : List S48} {t : Int} (h : TrI W0 w S Q g N L D M recs p E t) (hl : LG W0 w' S' Q' g N L (dSync D (nameB M.n)).2 M recs recs.length) : TrI W0 w' S' Q' g N L (dSync D (nameB M.n)).2 M recs (2 + E.length) E t := by
  have e : recs.length = 2 + E.length := by
    have h0 : WS.zero.recs.length = 2 := rfl
    rw [h.recs, List.length_append, List.length_map, h0]
  rw [e] at hl
  exact ⟨hl, h.st, by rw [wroom_sync]; exact h.room, h.recs, h.ents⟩
end Go.Proofs.Ytmmiipnmimjojaa.PS
end
section
namespace Go.Proofs.Ytmmiipnmimjojaa.PS
open Go.RowKit Go.Proofs.YtmmiipnmimjojaaW.PrintWords Go.Proofs.YtmmiipnmimjojaaW.PrintLast Go.Proofs.YtmmiipnmimjojaaW.PrintMore
open Go.Maps Go.Proofs.Ytmmiipnmimjojaa.PD
set_option linter.unusedVariables false
set_option linter.unusedSimpArgs false
/-- What a crash may leave is among what was seen; the last of it is what the log is. -/
structure Seen (M : LM) (recs : List Rc) (p : Nat) (l : List WS) : Prop where
  all : ∀ q st, p ≤ q → q ≤ recs.length → WS.zero.run (recs.take q) = some st → st ∈ l
  last : ∃ l0, l = l0 ++ [M.st]
theorem Seen.one {D : Dsk} {M : LM} {recs : List Rc} {p : Nat} (h : LI D M recs p) (hp : p = recs.length) : Seen M recs p [M.st] := by
  refine ⟨fun q st h1 h2 hr => ?_, [], rfl⟩
  have hq : q = recs.length := by omega
  rw [hq, List.take_length, h.run] at hr
  cases hr
  exact List.mem_singleton.2 rfl
theorem Seen.mem {M : LM} {recs : List Rc} {p : Nat} {l : List WS} (h : Seen M recs p l) : M.st ∈ l := by
  obtain ⟨l0, rfl⟩ := h.last
  exact List.mem_append_right _ (.head _)
theorem Seen.next {D D' : Dsk} {M M' : LM} {recs recs' rs : List Rc} {p p' : Nat} {l : List WS} (h : Seen M recs p l) (li : LI D M recs p) (li' : LI D' M' recs' p') (hrs : rs.length ≤ 1)
    (hc : (recs' = recs ++ rs ∧ p' = p) ∨ (recs' = M.st.recs ++ rs ∧ p' = M.st.recs.length)) : Seen M' recs' p' (l ++ [M'.st]) := by
  refine ⟨fun q st h1 h2 hr => ?_, l, rfl⟩
  by_cases hq : q = recs'.length
  · rw [hq, List.take_length, li'.run] at hr
    cases hr
    exact List.mem_append_right _ (.head _)
  · refine List.mem_append_left _ ?_
    rcases hc with ⟨e, hp⟩ | ⟨e, hp⟩
    · rw [e, List.length_append] at h2 hq
      rw [e, List.take_append_of_le_length (by omega)] at hr
      exact h.all q st (by omega) (by omega) hr
    · rw [e, List.length_append] at h2 hq
      have hq2 : q = M.st.recs.length := by omega
      rw [e, hq2, List.take_append_of_le_length (Nat.le_refl _), List.take_length, li.wok.recs_run] at hr
      cases hr
      exact h.mem
def WS.s87 (s : WS) : S87 := ⟨⟨s.bi, s.bt⟩, ⟨s.ht, s.hv⟩, s.es⟩
theorem N_bysQ {α : Type} {d : Kd α} {e base : Nat} {w w' : World} {S Q S' Q' : Nat → Prop} {L : Nat} {v : Value} {xs : List α} (h : Bys w S w' S' L) (hq : ∀ k, k < w.heap.size → Q' k → Q k) (hr : Kd.N d e w base (okQ S Q L) v xs) : Kd.N d e w' base (okQ S' Q' L) v xs :=
  Kd.N_mono (Kd.N_step (Kd.N_bound hr) (fun k hk hlt => (h.step hlt hk.1.1 hk.1.2.1).1)) (fun k hk => ⟨(h.step hk.2 hk.1.1 hk.1.2.1).2, hk.1.2.1, fun hQ => hk.1.2.2 (hq k hk.2 hQ)⟩)
/-- The states that were seen lie in a row beside the log. -/
def SeenR (W0 w : World) (S Q : Nat → Prop) (L : Nat) (v : Value) (l : List WS) : Prop := Kd.N k87 87 w W0.heap.size (okQ S Q L) v (l.map WS.s87)
theorem SeenR.bys {W0 w w' : World} {S Q S' Q' : Nat → Prop} {L : Nat} {v : Value} {l : List WS} (h : SeenR W0 w S Q L v l) (hb : Bys w S w' S' L) (hq : ∀ k, k < w.heap.size → Q' k → Q k) : SeenR W0 w' S' Q' L v l := N_bysQ hb hq h
theorem SeenR.below {W0 w w' : World} {S Q : Nat → Prop} {L : Nat} {v : Value} {l : List WS} (h : SeenR W0 w S Q L v l) (hb : Below w.heap.size w w') : SeenR W0 w' S Q L v l := Kd.N_below h hb
/-- The state that was seen last. -/
theorem row87_at {w : World} {base : Nat} {ok : Nat → Prop} {v : Value} {l : List WS} (h : Kd.N k87 87 w base ok v (l.map WS.s87)) {j : Nat} {s : WS} (hj : l[j]? = some s) :
    ∃ ad c A4 c4, v = .slice (some ad) l.length c ∧ w.cell? (ad.add (j * 5)) = some (.int .i64 s.bi) ∧ w.cell? ⟨(ad.add (j * 5)).block, (ad.add (j * 5)).off + 1, none⟩ = some (.int .i64 s.bt) ∧ w.cell? ⟨(ad.add (j * 5)).block, (ad.add (j * 5)).off + 2, none⟩ = some (.int .i64 s.ht) ∧ w.cell? ⟨(ad.add (j * 5)).block, (ad.add (j * 5)).off + 3, none⟩ = some (.int .i64 s.hv) ∧ w.cell? ⟨(ad.add (j * 5)).block, (ad.add (j * 5)).off + 4, none⟩ = some (.slice A4 s.es.length c4) ∧ s.es.length ≤ c4 ∧ k48.C w A4 s.es.length s.es := by
  obtain ⟨A, c, rfl, hc, hC⟩ := Kd.N_reads h
  rw [List.length_map] at hC hc ⊢
  have hlt : j < l.length := by
    rcases Nat.lt_or_ge j l.length with h1 | h1
    · exact h1
    · rw [List.getElem?_eq_none h1] at hj; cases hj
  obtain ⟨ad, A4, c4, hA, x0, x1, x2, x3, x4, l4, C4⟩ := at_T87 hC (j : Int) (by omega) (by omega)
  have hr : rd_T87 (l.map WS.s87) (j : Int) = s.s87 := by
    unfold rd_T87
    rw [Int.toNat_natCast, List.getD_eq_getElem?_getD, List.getElem?_map, hj]
    rfl
  rw [hr] at x0 x1 x2 x3 x4 l4 C4
  rw [Int.toNat_natCast] at x0 x1 x2 x3 x4
  subst hA
  exact ⟨ad, c, A4, c4, rfl, x0, x1, x2, x3, x4, l4, C4⟩
theorem SeenR.at_ {W0 w : World} {S Q : Nat → Prop} {L : Nat} {v : Value} {l : List WS} (h : SeenR W0 w S Q L v l) {j : Nat} {s : WS} (hj : l[j]? = some s) :
    ∃ ad c A4 c4, v = .slice (some ad) l.length c ∧ w.cell? (ad.add (j * 5)) = some (.int .i64 s.bi) ∧ s.es.length ≤ c4 ∧ k48.C w A4 s.es.length s.es := by
  obtain ⟨ad, c, A4, c4, e, x0, _, _, _, _, l4, C4⟩ := row87_at h hj
  exact ⟨ad, c, A4, c4, e, x0, l4, C4⟩
/-- A state that was seen, in its row; a state in a block of its own. -/
def RowC (w : World) (ad : Addr) (j : Nat) (s : WS) (A : Option Addr) (c : Nat) : Prop := w.cell? (ad.add (j * 5)) = some (.int .i64 s.bi) ∧ w.cell? ⟨(ad.add (j * 5)).block, (ad.add (j * 5)).off + 1, none⟩ = some (.int .i64 s.bt) ∧ w.cell? ⟨(ad.add (j * 5)).block, (ad.add (j * 5)).off + 2, none⟩ = some (.int .i64 s.ht) ∧ w.cell? ⟨(ad.add (j * 5)).block, (ad.add (j * 5)).off + 3, none⟩ = some (.int .i64 s.hv) ∧ w.cell? ⟨(ad.add (j * 5)).block, (ad.add (j * 5)).off + 4, none⟩ = some (.slice A s.es.length c)
def OwnC (w : World) (U : Nat) (s : WS) (A : Option Addr) (c : Nat) : Prop := w.cell? ⟨U, 0, none⟩ = some (.int .i64 s.bi) ∧ w.cell? ⟨U, 1, none⟩ = some (.int .i64 s.bt) ∧ w.cell? ⟨U, 2, none⟩ = some (.int .i64 s.ht) ∧ w.cell? ⟨U, 3, none⟩ = some (.int .i64 s.hv) ∧ w.cell? ⟨U, 4, none⟩ = some (.slice A s.es.length c)
theorem cell_below {w w' : World} {a : Addr} {v : Value} (hb : Below w.heap.size w w') (h : w.cell? a = some v) : w'.cell? a = some v := (hb.cell (World.block_lt_of_cell? w _ h)).trans h
theorem RowC.below {w w' : World} {ad : Addr} {j : Nat} {s : WS} {A : Option Addr} {c : Nat} (h : RowC w ad j s A c) (hb : Below w.heap.size w w') : RowC w' ad j s A c := ⟨cell_below hb h.1, cell_below hb h.2.1, cell_below hb h.2.2.1, cell_below hb h.2.2.2.1, cell_below hb h.2.2.2.2⟩
theorem OwnC.below {w w' : World} {U : Nat} {s : WS} {A : Option Addr} {c : Nat} (h : OwnC w U s A c) (hb : Below w.heap.size w w') : OwnC w' U s A c := ⟨cell_below hb h.1, cell_below hb h.2.1, cell_below hb h.2.2.1, cell_below hb h.2.2.2.1, cell_below hb h.2.2.2.2⟩
/-- The log of WalLasts, and what was seen of it. -/
structure LsI (W0 w : World) (S Q : Nat → Prop) (g N L : Nat) (D : Dsk) (M : LM) (recs : List Rc) (p : Nat) (v : Value) (l : List WS) : Prop where
  lg : LG W0 w S Q g N L D M recs p
  seen : Seen M recs p l
  row : SeenR W0 w S Q L v l
  few : ∀ s ∈ l, s.es.length ≤ 1000000000
/-- The same ahead of the state's being seen. -/
structure LsP (W0 w : World) (S Q : Nat → Prop) (g N L : Nat) (D : Dsk) (M : LM) (recs : List Rc) (p : Nat) (v : Value) (l : List WS) : Prop where
  lg : LG W0 w S Q g N L D M recs p
  seen : Seen M recs p (l ++ [M.st])
  row : SeenR W0 w S Q L v l
  few : ∀ s ∈ l, s.es.length ≤ 1000000000
section
variable {W0 w w' w2 : World} {S Q S' Q' : Nat → Prop} {g N N' L p p' : Nat} {D D' : Dsk} {M M' : LM} {recs recs' rs : List Rc} {v v' : Value} {l : List WS}
theorem LsI.below (h : LsI W0 w S Q g N L D M recs p v l) (hb : Below w.heap.size w w') : LsI W0 w' S Q g N L D M recs p v l := ⟨h.lg.below hb, h.seen, h.row.below hb, h.few⟩
theorem LsP.below (h : LsP W0 w S Q g N L D M recs p v l) (hb : Below w.heap.size w w') : LsP W0 w' S Q g N L D M recs p v l := ⟨h.lg.below hb, h.seen, h.row.below hb, h.few⟩
theorem LsP.mono (h : LsP W0 w S Q g N L D M recs p v l) (hN : N ≤ N') : LsP W0 w S Q g N' L D M recs p v l := ⟨⟨h.lg.wl.mono hN, h.lg.li, by have := h.lg.n; omega⟩, h.seen, h.row, h.few⟩
/-- A deed that leaves what was seen. -/
theorem LsI.deed (h : LsI W0 w S Q g N L D M recs p v l) (hl : LG W0 w' S' Q' g N' L D' M' recs' p') (hrs : rs.length ≤ 1) (hc : (recs' = recs ++ rs ∧ p' = p) ∨ (recs' = M.st.recs ++ rs ∧ p' = M.st.recs.length)) (hb : Bys w S w' S' L) (hq : ∀ k, k < w.heap.size → Q' k → Q k) : LsP W0 w' S' Q' g N' L D' M' recs' p' v l :=
  ⟨hl, h.seen.next h.lg.li hl.li hrs hc, h.row.bys hb hq, h.few⟩
/-- The state is seen. -/
theorem LsP.more {row : Option Nat} (h : LsP W0 w S Q g N L D M recs p v l) (hv : row = v.ownBlock) (hg : w.grownBy w2 row) (hb : Below W0.heap.size W0 w2) (hN : Kd.N k87 87 w2 W0.heap.size (okQ S Q L) v' (l.map WS.s87 ++ [M.st.s87])) : LsI W0 w2 S Q g N L D M recs p v' (l ++ [M.st]) :=
  ⟨h.lg.grown hg hb (fun k hk _ => h.row.1 k (hv ▸ hk)), h.seen, by unfold SeenR; rw [List.map_append]; exact hN, fun s hs => (List.mem_append.1 hs).elim (h.few s) (fun hs => by rw [List.mem_singleton.1 hs]; exact h.lg.few)⟩
end
end Go.Proofs.Ytmmiipnmimjojaa.PS
end
section
namespace Go.Proofs.Ytmmiipnmimjojaa.OpenK
open Go.RowKit Go.Deep Go.ChangeShapes Go.WideShapes Go.Proofs.YtmmiipnmimjojaaW.PrintWords

/-- Whatever can be read at this type, and is no larger than the form lets in, is told by this kind. 'small': with the datum's bulk, what its lengths are at most. -/
structure Opens {α : Type} (P : Program) (t : TypeId) (d : Kd α) (good : α → Prop) (small : Nat → α → Prop) : Prop where
  mono : ∀ (B B' : Nat) (a : α), B ≤ B' → small B a → small B' a
  open_ : ∀ {H : Type} {enc : TypeId × Value → H} {w : World} {base : Nat} {spare : Nat → Bool} {held : Bool} {n : Nat} {cs : List Value} {x : DataW H × List MemPlace},
    DataW.trod enc P w base spare held n t cs = some x → (∀ m ∈ x.1.weights P t, m ≤ reachBytes) → ∃ a, d.K w a cs ∧ good a ∧ small (Rows.uptoBulk x.1) a

theorem one_le {H : Type} (d : DataW H) : 1 ≤ Rows.uptoBulk d := by
  cases d with
  | lit l => cases l <;> simp [Rows.uptoBulk]
  | nil => simp [Rows.uptoBulk]
  | ptr d => simp [Rows.uptoBulk]
  | slice elems spare => simp [Rows.uptoBulk]
  | agg parts => simp [Rows.uptoBulk]
  | iface t d => simp [Rows.uptoBulk]
  | map entries => simp [Rows.uptoBulk]
  | held h => simp [Rows.uptoBulk]
theorem part_le {H : Type} {d : DataW H} {l : List (DataW H)} (h : d ∈ l) : Rows.uptoBulk d ≤ Rows.uptoBulkAll l := by
  induction l with
  | nil => cases h
  | cons x r ih =>
    simp only [Rows.uptoBulkAll]
    rcases List.mem_cons.1 h with rfl | e
    · omega
    · have := ih e; omega
theorem length_le {H : Type} (l : List (DataW H)) : l.length ≤ Rows.uptoBulkAll l := by
  induction l with
  | nil => simp [Rows.uptoBulkAll]
  | cons x r ih => have := one_le x; simp only [Rows.uptoBulkAll, List.length_cons]; omega

theorem opens_int {P : Program} {t : TypeId} {k : IntKind} (ht : P.underlying t = some (.int k)) : Opens P t (Kd.int k) (fun n => (Lit.int k n).wf = true) (fun _ _ => True) where
  mono := fun _ _ _ _ h => h
  open_ := by
    intro H enc w base spare held n cs x h _
    obtain ⟨z, rfl, _, hw⟩ := DataW.trod_int ht h
    exact ⟨z, rfl, hw, trivial⟩
theorem weights_all {H : Type} {P : Program} {e : TypeId} : ∀ {l : List (DataW H)} {d : DataW H}, d ∈ l → ∀ m ∈ d.weights P e, m ∈ DataW.weightsAll P e l
  | [], _, h, _, _ => by cases h
  | d0 :: l, d, h, m, hm => by
    simp only [DataW.weightsAll, List.mem_append]
    rcases List.mem_cons.1 h with rfl | h
    · exact .inl hm
    · exact .inr (weights_all h m hm)
theorem opens_slice {α : Type} {P : Program} {t e : TypeId} {d : Kd α} {g : α → Prop} {s : Nat → α → Prop} {B : Nat} (ht : P.underlying t = some (.slice e)) (hE : Opens P e d g s) (hc : P.cellsOf e = d.sz) (hB : P.bytesOf e = B) :
    Opens P t (Kd.slice e d) (fun xs => xs.length * B ≤ reachBytes ∧ xs.length ≤ maxLen ∧ ∀ x ∈ xs, g x) (fun b xs => xs.length ≤ b ∧ ∀ x ∈ xs, s b x) := by
  refine ⟨fun b b' xs hb h => ⟨Nat.le_trans h.1 hb, fun x hx => hE.mono _ _ _ hb (h.2 x hx)⟩, ?_⟩
  intro H enc w base spare held n cs x h hs
  rcases open_slice ht h with ⟨rfl, rfl⟩ | ⟨a, len, cap, m, n', D, Pl, rfl, hb, hl, hm, hmm, rfl, hi⟩
  · exact ⟨[], ⟨none, 0, rfl, Nat.le_refl _, Kd.C_nil d w⟩, ⟨by simp, by simp, by simp⟩, by simp, by simp⟩
  · have hle : len ≤ m := by rw [hmm]; split <;> omega
    obtain ⟨bk, hbk⟩ : ∃ bk, bk = Rows.uptoBulk (DataW.slice ((List.range len).map D) ((List.range (m - len)).map fun j => D (len + j))) := ⟨_, rfl⟩
    have hblen : len ≤ bk := by
      have := length_le ((List.range len).map D)
      simp only [List.length_map, List.length_range] at this
      rw [hbk]; simp only [Rows.uptoBulk]; omega
    have hel : ∀ i, i < len → ∃ a', ∃ c, w.cells? base (a.add (i * P.cellsOf e)) (P.cellsOf e) = some c ∧ d.K w a' c ∧ g a' ∧ s bk a' := by
      intro i hil
      obtain ⟨c, h1, h2⟩ := hi i (by omega)
      obtain ⟨a', h3, h4, h5⟩ := hE.open_ h2 (fun q hq => hs q (by
        simp only [DataW.weights, ht, List.mem_cons, List.mem_append]
        exact .inr (.inl (weights_all (List.mem_map.2 ⟨i, by simpa using hil, rfl⟩) q hq))))
      refine ⟨a', c, h1, h3, h4, hE.mono _ _ _ ?_ h5⟩
      have := part_le (l := (List.range len).map D) (d := D i) (List.mem_map.2 ⟨i, by simpa using hil, rfl⟩)
      rw [hbk]; simp only [Rows.uptoBulk]; omega
    have hex : ∃ xs : List α, xs.length = len ∧ ∀ (i : Nat) (y : α), xs[i]? = some y → ∃ c, w.cells? base (a.add (i * P.cellsOf e)) (P.cellsOf e) = some c ∧ d.K w y c ∧ g y ∧ s bk y := by
      clear hs hi hmm hm hl hle h hbk hblen
      induction len with
      | zero => exact ⟨[], rfl, fun i y hy => by simp at hy⟩
      | succ k ih =>
        obtain ⟨xs, h1, h2⟩ := ih (fun i hik => hel i (by omega))
        obtain ⟨y, c, h3, h4, h5⟩ := hel k (by omega)
        refine ⟨xs ++ [y], by simp [h1], fun i z hz => ?_⟩
        rcases Nat.lt_or_ge i xs.length with hix | hix
        · rw [List.getElem?_append_left hix] at hz
          exact h2 i z hz
        · rw [List.getElem?_append_right hix] at hz
          have hik : i = k := by
            rcases Nat.lt_or_ge (i - xs.length) 1 with h6 | h6
            · omega
            · rw [List.getElem?_eq_none (by simpa using h6)] at hz; cases hz
          subst hik
          rw [h1, Nat.sub_self] at hz
          simp at hz
          subst hz
          exact ⟨c, h3, h4, h5⟩
    obtain ⟨xs, hxl, hx⟩ := hex
    have hw := hs ((((List.range len).map D).length + ((List.range (m - len)).map fun j => D (len + j)).length) * P.bytesOf e) (by simp [DataW.weights, ht])
    refine ⟨xs, ⟨some a, cap, by rw [hxl], by omega, rfl, by rw [hxl]; exact Nat.le_trans hl (Nat.le_trans hm (by decide)), fun _ => ⟨a, rfl, fun j y hy => ?_⟩⟩, ⟨?_, by omega, fun y hy => ?_⟩, by show xs.length ≤ _; rw [← hbk]; omega, fun y hy => ?_⟩
    · obtain ⟨c, h1, h2, _⟩ := hx j y hy
      obtain ⟨_, hcl, hat⟩ := World.cells?_some h1
      refine ⟨c, by rw [hcl, hc], h2, fun i u hu => ?_⟩
      have hic : i < P.cellsOf e := by rw [← hcl]; exact (List.getElem?_eq_some_iff.1 hu).1
      have := hat i hic
      rw [Go.Deep.add_add, hc] at this
      rw [this, hu]
    · rw [hB] at hw
      simp only [List.length_map, List.length_range] at hw
      exact Nat.le_trans (Nat.mul_le_mul_right B (by omega)) hw
    · obtain ⟨i, hi', rfl⟩ := List.mem_iff_getElem.1 hy
      obtain ⟨_, _, _, h3, _⟩ := hx i _ (List.getElem?_eq_getElem hi')
      exact h3
    · obtain ⟨i, hi', rfl⟩ := List.mem_iff_getElem.1 hy
      obtain ⟨_, _, _, _, h3⟩ := hx i _ (List.getElem?_eq_getElem hi')
      show s (Rows.uptoBulk (DataW.slice _ _)) _
      rw [← hbk]
      exact h3

/-- Fields, one behind the other. -/
inductive Fs (P : Program) : List Field → Nat → {α : Type} → Kd α → (α → Prop) → (Nat → α → Prop) → Prop
  | one {f : Field} {o : Nat} {α : Type} {d : Kd α} {g : α → Prop} {s : Nat → α → Prop} (ho : f.offset = o) (hc : P.cellsOf f.type = d.sz) (h : Opens P f.type d g s) : Fs P [f] o d g s
  | cons {f : Field} {fs : List Field} {o : Nat} {α β : Type} {d : Kd α} {g : α → Prop} {s : Nat → α → Prop} {d' : Kd β} {g' : β → Prop} {s' : Nat → β → Prop} (ho : f.offset = o) (hc : P.cellsOf f.type = d.sz) (h : Opens P f.type d g s)
      (hr : Fs P fs (o + d.sz) d' g' s') : Fs P (f :: fs) o (Kd.pair d d') (fun x => g x.1 ∧ g' x.2) (fun b x => s b x.1 ∧ s' b x.2)
/-- An argument: its datum's own weights are among the form's. -/
theorem arg_sized {H : Type} {P : Program} {ts : List TypeId} {ds : List (DataW H)} {j : Nat} {t : TypeId} {d : DataW H} (hsz : (DataW.weightsEach P ts ds).all (· ≤ reachBytes) = true) (ht : ts[j]? = some t) (hd : ds[j]? = some d) :
    ∀ m ∈ d.weights P t, m ≤ reachBytes := fun m hm => by
  have := List.all_eq_true.1 hsz m (DataW.weights_mem_each ht hd m hm)
  simpa using this
end Go.Proofs.Ytmmiipnmimjojaa.OpenK
end
section
namespace Go.Proofs.Ytmmiipnmimjojaa.PS
open Go.RowKit Go.Proofs.YtmmiipnmimjojaaW.PrintWords Go.Proofs.Ytmmiipnmimjojaa.OpenK
set_option linter.unusedVariables false

end Go.Proofs.Ytmmiipnmimjojaa.PS
end
section
namespace Go.Proofs.Ytmmiipnmimjojaa.PS
open Go.RowKit Go.Proofs.YtmmiipnmimjojaaW.PrintWords Go.Proofs.Ytmmiipnmimjojaa.OpenK
set_option linter.unusedVariables false

end Go.Proofs.Ytmmiipnmimjojaa.PS
end
section
namespace Go.Proofs.Ytmmiipnmimjojaa.PS
open Go.RowKit Go.Proofs.YtmmiipnmimjojaaW.PrintWords Go.Proofs.Ytmmiipnmimjojaa.OpenK
set_option linter.unusedVariables false
theorem i64_of {y : Int} (h : (Lit.int .i64 y).wf = true) : -9223372036854775808 ≤ y ∧ y ≤ 9223372036854775807 := by
  simp [Lit.wf, IntKind.min, IntKind.max, IntKind.signed, IntKind.bits] at h
  omega
theorem u8_of {y : Int} (h : (Lit.int .u8 y).wf = true) : 0 ≤ y ∧ y ≤ 255 := by
  simp [Lit.wf, IntKind.min, IntKind.max, IntKind.signed, IntKind.bits] at h
  omega
/-- A row of numbers. -/
def Nums (l : List Int) : Prop := l.length * 8 ≤ 140737488351232 ∧ ∀ y ∈ l, -9223372036854775808 ≤ y ∧ y ≤ 9223372036854775807
/-- A row of bytes. -/
def Byts (l : List Int) : Prop := l.length ≤ 140737488351232 ∧ ∀ y ∈ l, 0 ≤ y ∧ y ≤ 255
/-- A deed of a script. -/
structure Deed5 (x : S58) : Prop where
  kind : -9223372036854775808 ≤ x.f0 ∧ x.f0 ≤ 9223372036854775807
  name : x.f1.size ≤ maxLen
  to_ : x.f2.size ≤ maxLen
  at_ : -9223372036854775808 ≤ x.f3 ∧ x.f3 ≤ 9223372036854775807
  bytes : Byts x.f4
  keep : Nums x.f5
theorem nums_of {l : List Int} (h : l.length * 8 ≤ reachBytes ∧ l.length ≤ maxLen ∧ ∀ y ∈ l, (Lit.int .i64 y).wf = true) : Nums l := ⟨h.1, fun y hy => i64_of (h.2.2 y hy)⟩
end Go.Proofs.Ytmmiipnmimjojaa.PS
end
