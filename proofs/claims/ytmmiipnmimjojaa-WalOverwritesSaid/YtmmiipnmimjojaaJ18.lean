/- The texts of this claim's seat, joined: part 18. -/
import Derived.Test.YtmmiipnmimjojaaJ17
section
/- wal.state: take. -/
namespace Go.Proofs.Ytmmiipnmimjojaa.PS
open Go.RowKit Go.Proofs.YtmmiipnmimjojaaW.PrintWords Go.Proofs.YtmmiipnmimjojaaW.PrintLast Go.Proofs.YtmmiipnmimjojaaW.PrintMore
open Go.Maps Go.Proofs.Ytmmiipnmimjojaa.PD
set_option linter.unusedVariables false
set_option linter.unusedSimpArgs false
/-- What taking a record leaves: the state s in block T. -/
def TkP (W : World) (T : Nat) (P : Nat → Prop) (s : WS) (e : Ending) (w' : World) : Prop :=
  e = .returned (.bool true) ∧ ∃ v, w'.heap[T]? = some (.cells #[.int .i64 s.bi, .int .i64 s.bt, .int .i64 s.ht, .int .i64 s.hv, v] 124 (0, 0)) ∧ Kd.V k48 48 w' 0 (Pn W P) v s.es ∧ Kp W w' (fun k => k = T)
theorem kp_set {W w : World} {T : Nat} (h : Kp W w (fun k => k = T)) (i : Nat) (u : Value) : Kp W (w.setCell ⟨T, i, none⟩ u) (fun k => k = T) := Kp.setCell (p := ⟨T, i, none⟩) h (.inl rfl) u
theorem mark_fin {W w : World} {T : Nat} {a b c d v x y z : Value} (h : w.heap[T]? = some (.cells #[a, b, c, d, v] 124 (0, 0))) (hb : Below W.heap.size W w) :
    (((w.setCell ⟨T, 0, none⟩ x).setCell ⟨T, 1, none⟩ y).setCell ⟨T, 4, none⟩ z).heap[T]? = some (.cells #[x, y, c, d, z] 124 (0, 0)) ∧ Kp W (((w.setCell ⟨T, 0, none⟩ x).setCell ⟨T, 1, none⟩ y).setCell ⟨T, 4, none⟩ z) (fun k => k = T) :=
  ⟨blk_set (blk_set (blk_set h 0 x) 1 y) 4 z, kp_set (kp_set (kp_set (Kp.of_below hb (fun k => k = T)) 0 x) 1 y) 4 z⟩
theorem hard_fin {W w : World} {T : Nat} {a b c d v x y : Value} (h : w.heap[T]? = some (.cells #[a, b, c, d, v] 124 (0, 0))) (hb : Below W.heap.size W w) :
    ((w.setCell ⟨T, 2, none⟩ x).setCell ⟨T, 3, none⟩ y).heap[T]? = some (.cells #[a, b, x, y, v] 124 (0, 0)) ∧ Kp W ((w.setCell ⟨T, 2, none⟩ x).setCell ⟨T, 3, none⟩ y) (fun k => k = T) :=
  ⟨blk_set (blk_set h 2 x) 3 y, kp_set (kp_set (Kp.of_below hb (fun k => k = T)) 2 x) 3 y⟩
set_option maxHeartbeats 4000000 in
set_option maxRecDepth 100000 in
theorem take_mark {W : World} {T g c : Nat} {b : List Int} {s : WS} {v : Value} {P : Nat → Prop} {i t : Int} (first : Bool) (hT : W.heap[T]? = some (.cells #[.int .i64 s.bi, .int .i64 s.bt, .int .i64 s.ht, .int .i64 s.hv, v] 124 (0, 0)))
    (hb : b = Rc.enc (.mark i t)) (hok : Rc.ok (.mark i t)) (hC : k8.C W (some ⟨g, 0, none⟩) b.length b) (hc : b.length ≤ c) :
    Calls Try.prog 69 #[.pointer (some ⟨T, 0, none⟩), .slice (some ⟨g, 0, none⟩) b.length c, .bool first] W (TkP W T P { s with bi := i, bt := t, es := [] }) := by
  have hbb := Rc.enc_bytes hok
  rw [← hb] at hbb
  have h1 : takeNum b 1 = (i, 1 + ((enc i).length : Int), 0) := by
    have := takeNum_enc [1] (enc t) i hok.1.1 hok.1.2
    rw [hb]; exact this
  have h2 : takeNum b (1 + ((enc i).length : Int)) = (t, (b.length : Int), 0) := by
    have := takeNum_enc (1 :: enc i) [] t hok.2.1 hok.2.2
    rw [List.append_nil] at this
    have e : ((1 :: enc i).length : Int) = 1 + (enc i).length := by rw [List.length_cons]; omega
    rw [e] at this
    rw [hb]
    refine this.trans ?_
    rw [show ((Rc.enc (.mark i t)).length : Int) = 1 + (enc i).length + (enc t).length by simp only [Rc.enc, List.length_cons, List.length_append]; omega]
  have hd0 : b.getD 0 0 = 1 := by rw [hb]; rfl
  have hpos : 0 < b.length := by omega
  have hcell : W.cell? ⟨g, 0, none⟩ = some (.int .u8 1) := by
    obtain ⟨ad, cc, e, _, hcs, hx0⟩ := Kd.C_get hC 0 0 (by omega) (by omega)
    cases e
    rw [show cc = [.int .u8 (b.getD (0 : Int).toNat 0)] from hcs, show (0 : Int).toNat = 0 from rfl, hd0] at hx0
    have := hx0 0 _ rfl
    simpa [Addr.add] using this
  have HT1 := Aside0.mk (show ∀ w, k8.C w (some ⟨g, 0, none⟩) b.length b → Calls Try.prog 100 #[.slice (some ⟨g, 0, none⟩) b.length c, .int .i64 1] w fun e w' => e = .returned (.tuple #[.int .i64 i, .int .i64 (1 + (enc i).length), .int .i64 0]) ∧ Drawn0 w w' from fun w hw =>
    wire_TakeNumber.calls _ c b 1 i _ 0 w hw hc (by unfold wire_TakeNumber.f; rw [if_pos ⟨hbb.1, by omega⟩, h1]))
  have HT2 := Aside0.mk (show ∀ w, k8.C w (some ⟨g, 0, none⟩) b.length b → Calls Try.prog 100 #[.slice (some ⟨g, 0, none⟩) b.length c, .int .i64 (1 + (enc i).length)] w fun e w' => e = .returned (.tuple #[.int .i64 t, .int .i64 b.length, .int .i64 0]) ∧ Drawn0 w w' from fun w hw =>
    wire_TakeNumber.calls _ c b _ t _ 0 w hw hc (by unfold wire_TakeNumber.f; rw [if_pos ⟨hbb.1, by omega⟩, h2]))
  have HC := Aside0.mk hC
  have HTb := Aside0.mk hT
  obtain ⟨j, hj⟩ : ∃ j : Int, 1 + ((enc i).length : Int) = j := ⟨_, rfl⟩
  rw [hj] at HT1 HT2
  have hlz : ((b.length : Int) == 0) = false := beq_eq_false_iff_ne.mpr (by omega)
  have hpi : (0 : Int) < b.length := by omega
  clear h1 h2 hd0 hb hbb hT hC hj
  go_enter Try.func69, Try.ntmps69
  cases first
  all_goals
    go_wp2_with fail
    refine (HT1.out _ HC.out).mono ?_
    rintro e w1 ⟨rfl, hd⟩
    have HB1 := Aside0.mk hd.below
    clear hd hcell
    go_wp2_with fail
    refine (HT2.out _ (Kd.C_below HC.out HB1.out)).mono ?_
    rintro e w2 ⟨rfl, hd⟩
    have HB2 := Aside0.mk (below_step HB1.out hd.below)
    have HTb2 := Aside0.mk ((HB2.out.block T (blk_lt HTb.out)).trans HTb.out)
    have n0 : w2.cell? ⟨T, 0, none⟩ = some (.int .i64 s.bi) := blk_cell HTb2.out 0
    have n1 : w2.cell? ⟨T, 1, none⟩ = some (.int .i64 s.bt) := blk_cell HTb2.out 1
    have n4 : w2.cell? ⟨T, 4, none⟩ = some v := blk_cell HTb2.out 4
    have nf := blk_frozen HTb2.out
    clear hd
    go_wp2_with fail
    go_ret
    have hfin := mark_fin (x := .int .i64 i) (y := .int .i64 t) (z := .slice none 0 0) HTb2.out HB2.out
    exact ⟨rfl, .slice none 0 0, hfin.1, ⟨none, 0, rfl, Nat.zero_le _, Kd.F_nil _ _ _⟩, hfin.2⟩
theorem head_cell {W : World} {g n : Nat} {b : List Int} {x : Int} (hC : k8.C W (some ⟨g, 0, none⟩) n b) (hn : 0 < n) (hd0 : b.getD 0 0 = x) : W.cell? ⟨g, 0, none⟩ = some (.int .u8 x) := by
  obtain ⟨ad, cc, e, _, hcs, hx0⟩ := Kd.C_get hC 0 0 (by omega) (by omega)
  cases e
  rw [show cc = [.int .u8 (b.getD (0 : Int).toNat 0)] from hcs, show (0 : Int).toNat = 0 from rfl, hd0] at hx0
  have := hx0 0 _ rfl
  simpa [Addr.add] using this
theorem tail_C {W : World} {g c : Nat} {b l : List Int} {x : Int} (hb : b = x :: l) (hC : k8.C W (some ⟨g, 0, none⟩) b.length b) (hc : b.length ≤ c) (hc1 : 1 < c) : k8.C W (some ⟨g, 1, none⟩) l.length l := by
  have h := Kd.C_drop (m := 1) hC (by rw [hb, List.length_cons]; omega) hc
  rw [if_neg (by omega)] at h
  rw [show b.drop 1 = l by rw [hb]; rfl] at h
  exact h
theorem hardK {W : World} {A : Option Addr} {c n : Nat} {t v : Int} (hC : k8.C W A (enc t ++ enc v).length (enc t ++ enc v)) (hn : (enc t ++ enc v).length = n) (hc : n ≤ c) (h : hardErr t v = 0) :
    Calls Try.prog 101 #[.slice A n c] W fun e w' => e = .returned (.tuple #[.agg #[.int .i64 t, .int .i64 v], .int .i64 0]) ∧ Below W.heap.size W w' := by
  subst hn
  have hh := hard_ok h
  have l1 := enc_len hh.1.1 hh.1.2
  have l2 := enc_len hh.2.1 (by omega)
  refine wire_GetHard.calls A c _ t v 0 W hC hc ?_
  unfold wire_GetHard.f
  rw [if_pos ⟨okBytes_append (okBytes_of (PS.enc_bytes hh.1.1 hh.1.2)) (okBytes_of (PS.enc_bytes hh.2.1 (by omega))), by rw [List.length_append]; omega⟩, getHard_put h]
set_option maxHeartbeats 4000000 in
set_option maxRecDepth 100000 in
theorem take_hard {W : World} {T g c : Nat} {b : List Int} {s : WS} {v : Value} {P : Nat → Prop} {t u : Int} (hT : W.heap[T]? = some (.cells #[.int .i64 s.bi, .int .i64 s.bt, .int .i64 s.ht, .int .i64 s.hv, v] 124 (0, 0))) (hV : Kd.V k48 48 W 0 P v s.es) (hTP : ¬ P T)
    (hb : b = Rc.enc (.hard t u)) (hok : Rc.ok (.hard t u)) (hC : k8.C W (some ⟨g, 0, none⟩) b.length b) (hc : b.length ≤ c) :
    Calls Try.prog 69 #[.pointer (some ⟨T, 0, none⟩), .slice (some ⟨g, 0, none⟩) b.length c, .bool false] W (TkP W T P { s with ht := t, hv := u }) := by
  have hbb := Rc.enc_bytes hok
  rw [← hb] at hbb
  have hcell := head_cell hC (by omega) (x := 2) (by rw [hb]; rfl)
  obtain ⟨m, hm⟩ : ∃ m, b.length = m + 1 := ⟨b.length - 1, by omega⟩
  have hlm : (enc t ++ enc u).length = m := by rw [hb] at hm; simpa [Rc.enc] using hm
  have HG := Aside0.mk (hardK (tail_C (l := enc t ++ enc u) hb hC hc (by omega)) hlm (c := c - 1) (by omega) hok)
  have HV := Aside0.mk hV
  have HTb := Aside0.mk hT
  have HTP := Aside0.mk hTP
  have hlz : ((m : Int) + 1 == 0) = false := beq_eq_false_iff_ne.mpr (by omega)
  have hc1 : ¬ c = 1 := by omega
  have hc2 : 1 ≤ m + 1 := by omega
  rw [hm]
  clear hb hbb hT hC hV hTP hlm hm
  go_enter Try.func69, Try.ntmps69
  go_wp2_with fail
  refine HG.out.mono ?_
  rintro e w1 ⟨rfl, hb1⟩
  have HB1 := Aside0.mk hb1
  have hT1 := (hb1.block T (blk_lt HTb.out)).trans HTb.out
  have hTa := ((below_alloc (Below.refl w1.heap.size w1) (.cells #[.int .i64 t, .int .i64 u] 81)).block T (blk_lt hT1)).trans hT1
  have HTa := Aside0.mk hTa
  have n2 : (w1.alloc (.cells #[.int .i64 t, .int .i64 u] 81)).cell? ⟨T, 2, none⟩ = some (.int .i64 s.ht) := blk_cell hTa 2
  have n3 : (w1.alloc (.cells #[.int .i64 t, .int .i64 u] 81)).cell? ⟨T, 3, none⟩ = some (.int .i64 s.hv) := blk_cell hTa 3
  have nf2 : (w1.alloc (.cells #[.int .i64 t, .int .i64 u] 81)).frozen? ⟨T, 2, none⟩ = false := blk_frozen hTa 2
  have nf3 : (w1.alloc (.cells #[.int .i64 t, .int .i64 u] 81)).frozen? ⟨T, 3, none⟩ = false := blk_frozen hTa 3
  clear hb1 hT1 hcell hTa
  go_wp2_with fail
  go_ret
  have hBa := below_alloc HB1.out (.cells #[.int .i64 t, .int .i64 u] 81)
  obtain ⟨w5, hw5⟩ : ∃ w5, w5 = w1.alloc (.cells #[.int .i64 t, .int .i64 u] 81) := ⟨_, rfl⟩
  have HTa' := HTa.out
  rw [← hw5] at hBa HTa' ⊢
  have hfin := hard_fin (x := .int .i64 t) (y := .int .i64 u) HTa' hBa
  refine ⟨rfl, v, hfin.1, Kd.V_map HV.out fun A hF => ?_, hfin.2⟩
  exact Kd.F_mono (Kd.F_far (Kd.F_far (Kd.F_below (Kd.F_bound hF) hBa) (p := ⟨T, 2, none⟩) (fun k hk (e : k = T) => HTP.out (e ▸ hk.1)) _) (p := ⟨T, 3, none⟩) (fun k hk (e : k = T) => HTP.out (e ▸ hk.1)) _) (fun k hk => .inl hk)
theorem entK {W : World} {A : Option Addr} {c n : Nat} {x : S48} (hC : k8.C W A (entBytes x.f0 x.f1 x.f2 x.f3).length (entBytes x.f0 x.f1 x.f2 x.f3)) (hn : (entBytes x.f0 x.f1 x.f2 x.f3).length = n) (hc : n ≤ c) (h : EOk x) :
    Calls Try.prog 102 #[.slice A n c] W fun e w' => ∃ v3 : Value, e = .returned (.tuple #[.agg #[.int .i64 x.f0, .int .i64 x.f1, .int .i64 x.f2, v3], .int .i64 0]) ∧ k8.R 5 w' W.heap.size (fun _ => True) v3 x.f3 ∧ Below W.heap.size W w' := by
  subst hn
  have hh := ent_bad h
  have hl := entBytes_len hh.1 hh.2
  refine wire_GetEntry.calls A c _ x.f0 x.f1 x.f2 x.f3 0 W hC hc ?_
  unfold wire_GetEntry.f
  rw [if_pos ⟨okBytes_of (entBytes_bytes hh.1 hh.2 (okBytes_mem h.2)), by omega⟩, getEntry_put hh.1 hh.2]
set_option maxHeartbeats 4000000 in
set_option maxRecDepth 100000 in
theorem take_ent {W : World} {T g c : Nat} {b : List Int} {s : WS} {v : Value} {P : Nat → Prop} {x : S48} (hT : W.heap[T]? = some (.cells #[.int .i64 s.bi, .int .i64 s.bt, .int .i64 s.ht, .int .i64 s.hv, v] 124 (0, 0))) (hV : Kd.V k48 48 W 0 P v s.es) (hTP : ¬ P T)
    (hs : WOk s) (hsl : s.es.length ≤ 1000000) (hf : s.fit x) (hb : b = Rc.enc (.ent x)) (hok : EOk x) (hC : k8.C W (some ⟨g, 0, none⟩) b.length b) (hc : b.length ≤ c) :
    Calls Try.prog 69 #[.pointer (some ⟨T, 0, none⟩), .slice (some ⟨g, 0, none⟩) b.length c, .bool false] W (TkP W T P (s.add x)) := by
  have hbb := Rc.enc_bytes (r := .ent x) hok
  rw [← hb] at hbb
  have hcell := head_cell hC (by omega) (x := 3) (by rw [hb]; rfl)
  obtain ⟨m, hm⟩ : ∃ m, b.length = m + 1 := ⟨b.length - 1, by omega⟩
  have hlm : (entBytes x.f0 x.f1 x.f2 x.f3).length = m := by rw [hb] at hm; simpa [Rc.enc] using hm
  have HG := Aside0.mk (entK (tail_C (l := entBytes x.f0 x.f1 x.f2 x.f3) hb hC hc (by omega)) hlm (c := c - 1) (by omega) hok)
  obtain ⟨As, cs, rfl, hle, hF0⟩ := hV
  have HF0 := Aside0.mk hF0
  have HLE := Aside0.mk hle
  have HTb := Aside0.mk hT
  have HTP := Aside0.mk hTP
  have HS := Aside0.mk hs
  have HF := Aside0.mk hf
  have hxb := (ent_bad hok).1
  unfold entBad at hxb
  have HXB := Aside0.mk hxb
  have hlz : ((m : Int) + 1 == 0) = false := beq_eq_false_iff_ne.mpr (by omega)
  have hc1 : ¬ c = 1 := by omega
  have hc2 : 1 ≤ m + 1 := by omega
  rw [hm]
  clear hb hbb hT hC hF0 hle hTP hlm hm hs hf hok hxb
  go_enter Try.func69, Try.ntmps69
  go_wp2_with fail
  refine HG.out.mono ?_
  rintro e w1 ⟨v3, rfl, hr1, hb1⟩
  obtain ⟨A3, c3, rfl⟩ := Kd.R_slice hr1
  have hT1 := (hb1.block T (blk_lt HTb.out)).trans HTb.out
  have hTa := ((below_alloc (Below.refl w1.heap.size w1) (.cells #[.int .i64 x.f0, .int .i64 x.f1, .int .i64 x.f2, .slice A3 x.f3.length c3] 48)).block T (blk_lt hT1)).trans hT1
  have HBa := Aside0.mk (below_alloc hb1 (.cells #[.int .i64 x.f0, .int .i64 x.f1, .int .i64 x.f2, .slice A3 x.f3.length c3] 48))
  have HR3 := Aside0.mk (Kd.R_alloc hr1 (.cells #[.int .i64 x.f0, .int .i64 x.f1, .int .i64 x.f2, .slice A3 x.f3.length c3] 48))
  have HTa := Aside0.mk hTa
  clear hb1 hT1 hcell hTa hr1
  have HFA := Aside0.mk (Kd.F_mono (Kd.F_below (Kd.F_bound HF0.out) HBa.out) (ok' := Pn W P) (fun k hk => .inl hk))
  have HXA := Aside0.mk (Kd.F_mono (Kd.R_F (Kd.R_bound HR3.out)) (ok' := Pn W P) (fun k hk => .inr hk.2.1))
  have HC3 := Aside0.mk (Kd.R_reads' HR3.out).2.1
  have HTN := Aside0.mk (show ¬ Pn W P T from fun h => h.elim (fun h => HTP.out h.1) (fun h => by have := blk_lt HTb.out; omega))
  have hfb := HF.out
  unfold WS.fit at hfb
  have hmk := HS.out.mark
  have HAD := Aside0.mk (add_fit (o := 0) (bt := s.bt) (ht := s.ht) (hv := s.hv) (x := x) ⟨HTa.out, rfl, rfl, rfl, rfl, rfl⟩ HFA.out HLE.out HTN.out HXA.out HC3.out hmk.1 ⟨by have := HXB.out; omega, by have := HXB.out; omega⟩ hsl (x.f2 - s.bi - 1).toNat (by omega) (by omega) (by decide))
  clear hfb hmk
  go_wp2_with fail
  refine HAD.out.mono ?_
  rintro e w4 ⟨rfl, v4, hst, hv4, hk4⟩
  have HST := Aside0.mk hst
  have HV4 := Aside0.mk hv4
  have HK4 := Aside0.mk hk4
  clear hst hv4 hk4
  go_wp2_with fail
  go_ret
  refine ⟨rfl, v4, HST.out.blk, Kd.V_map HV4.out fun A hF => Kd.F_mono hF (fun k hk => ?_), ?_⟩
  · have hsz := HBa.out.size
    rcases hk with ⟨hk, _⟩ | hk
    · exact hk
    · exact .inr (Nat.le_trans hsz hk)
  · exact (Kp.of_below HBa.out (fun k => k = T)).trans HK4.out (fun _ _ h => h)
end Go.Proofs.Ytmmiipnmimjojaa.PS
end
section
/- wal.Log: Last. -/
namespace Go.Proofs.Ytmmiipnmimjojaa.PS
open Go.RowKit Go.Proofs.YtmmiipnmimjojaaW.PrintWords Go.Proofs.YtmmiipnmimjojaaW.PrintLast Go.Proofs.YtmmiipnmimjojaaW.PrintMore
set_option linter.unusedVariables false
set_option linter.unusedSimpArgs false
set_option maxHeartbeats 2000000 in
set_option maxRecDepth 100000 in
theorem last_calls {W : World} {L m c : Nat} {bi : Int} {E : Option Addr} (h1 : W.cell? ⟨L, 1, none⟩ = some (.int .i64 bi)) (h5 : W.cell? ⟨L, 5, none⟩ = some (.slice E m c)) (hb : 0 ≤ bi ∧ bi ≤ 1099511627776) (hm : m ≤ 1000000000) :
    Calls Try.prog 29 #[.pointer (some ⟨L, 0, none⟩)] W fun e w' => e = .returned (.int .i64 (bi + m)) ∧ w' = W.drew := by
  have hw : IntKind.i64.wrap (bi + (m : Int)) = bi + m := IntWalk.i64_in _ ⟨by omega, by omega⟩
  go_enter Try.func29, Try.ntmps29
  go_wp2_with fail
  go_region
  go_wp2_with fail
  go_ret
  exact ⟨rfl, rfl⟩
end Go.Proofs.Ytmmiipnmimjojaa.PS
end
section
/- wal.Log: Hard, Base, and what a nil log, a nil disk answer. -/
namespace Go.Proofs.Ytmmiipnmimjojaa.PS
open Go.RowKit Go.Proofs.YtmmiipnmimjojaaW.PrintWords Go.Proofs.YtmmiipnmimjojaaW.PrintLast Go.Proofs.YtmmiipnmimjojaaW.PrintMore
set_option linter.unusedVariables false
set_option linter.unusedSimpArgs false
set_option maxRecDepth 100000 in
theorem hard_calls {W : World} {L : Nat} {a b : Int} (h3 : W.cell? ⟨L, 3, none⟩ = some (.int .i64 a)) (h4 : W.cell? ⟨L, 4, none⟩ = some (.int .i64 b)) :
    Calls Try.prog 55 #[.pointer (some ⟨L, 0, none⟩)] W fun e w' => e = .returned (.agg #[.int .i64 a, .int .i64 b]) ∧ Below W.heap.size W w' := by
  have hlt : L < W.heap.size := World.block_lt_of_cell? W _ h3
  obtain ⟨w1, hw1⟩ : ∃ w1, w1 = W.alloc (.cells #[.int .i64 0, .int .i64 0] 81) := ⟨_, rfl⟩
  have hb1 : Below W.heap.size W w1 := by rw [hw1]; exact below_alloc (Below.refl _ _) _
  have q3 : w1.cell? ⟨L, 3, none⟩ = some (.int .i64 a) := (hb1.cell hlt).trans h3
  have q4 : w1.cell? ⟨L, 4, none⟩ = some (.int .i64 b) := (hb1.cell hlt).trans h4
  go_enter Try.func55, Try.ntmps55
  go_wp2_with fail
  exact bodyPost_ret (v := .agg #[.int .i64 a, .int .i64 b]) (by simp [results, Try.results55, go_sem]) rfl ⟨rfl, below_alloc (Below.refl _ _) _⟩
set_option maxRecDepth 100000 in
theorem base_calls {W : World} {L : Nat} {a b : Int} (h1 : W.cell? ⟨L, 1, none⟩ = some (.int .i64 a)) (h2 : W.cell? ⟨L, 2, none⟩ = some (.int .i64 b)) :
    Calls Try.prog 56 #[.pointer (some ⟨L, 0, none⟩)] W fun e w' => e = .returned (.agg #[.int .i64 a, .int .i64 b]) ∧ Below W.heap.size W w' := by
  have hlt : L < W.heap.size := World.block_lt_of_cell? W _ h1
  obtain ⟨w1, hw1⟩ : ∃ w1, w1 = W.alloc (.cells #[.int .i64 0, .int .i64 0] 83) := ⟨_, rfl⟩
  have hb1 : Below W.heap.size W w1 := by rw [hw1]; exact below_alloc (Below.refl _ _) _
  have q1 : w1.cell? ⟨L, 1, none⟩ = some (.int .i64 a) := (hb1.cell hlt).trans h1
  have q2 : w1.cell? ⟨L, 2, none⟩ = some (.int .i64 b) := (hb1.cell hlt).trans h2
  go_enter Try.func56, Try.ntmps56
  go_wp2_with fail
  exact bodyPost_ret (v := .agg #[.int .i64 a, .int .i64 b]) (by simp [results, Try.results56, go_sem]) rfl ⟨rfl, below_alloc (Below.refl _ _) _⟩
/-! ### A nil log -/
set_option maxRecDepth 100000 in
theorem hard_nil (W : World) : Calls Try.prog 55 #[.pointer none] W fun e w' => e = .returned (.agg #[.int .i64 0, .int .i64 0]) ∧ Below W.heap.size W w' := by
  go_enter Try.func55, Try.ntmps55
  go_wp2_with fail
  exact bodyPost_ret (v := .agg #[.int .i64 0, .int .i64 0]) (by simp [results, Try.results55, go_sem]) rfl ⟨rfl, below_alloc (Below.refl _ _) _⟩
set_option maxRecDepth 100000 in
theorem base_nil (W : World) : Calls Try.prog 56 #[.pointer none] W fun e w' => e = .returned (.agg #[.int .i64 0, .int .i64 0]) ∧ Below W.heap.size W w' := by
  go_enter Try.func56, Try.ntmps56
  go_wp2_with fail
  exact bodyPost_ret (v := .agg #[.int .i64 0, .int .i64 0]) (by simp [results, Try.results56, go_sem]) rfl ⟨rfl, below_alloc (Below.refl _ _) _⟩
set_option maxRecDepth 100000 in
theorem last_nil (W : World) : Calls Try.prog 29 #[.pointer none] W fun e w' => e = .returned (.int .i64 0) ∧ W = w' := by
  go_enter Try.func29, Try.ntmps29
  go_wp2_with fail
  go_ret
  exact ⟨rfl, rfl⟩
set_option maxRecDepth 100000 in
theorem term_nil (W : World) (n : Int) : Calls Try.prog 46 #[.pointer none, .int .i64 n] W fun e w' => e = .returned (.tuple #[.int .i64 0, .bool false]) ∧ W = w' := by
  go_enter Try.func46, Try.ntmps46
  go_wp2_with fail
  go_ret2
  exact ⟨rfl, rfl⟩
set_option maxRecDepth 100000 in
theorem entries_nil (W : World) (a b : Int) : Calls Try.prog 30 #[.pointer none, .int .i64 a, .int .i64 b] W fun e w' => e = .returned (.slice none 0 0) ∧ W = w' := by
  go_enter Try.func30, Try.ntmps30
  go_wp2_with fail
  go_ret
  exact ⟨rfl, rfl⟩
set_option maxRecDepth 100000 in
theorem append_nil (W : World) (v : Value) : Calls Try.prog 27 #[.pointer none, v] W fun e w' => e = .returned (.int .i64 1) ∧ W = w' := by
  go_enter Try.func27, Try.ntmps27
  go_wp2_with fail
  go_ret
  exact ⟨rfl, rfl⟩
set_option maxRecDepth 100000 in
theorem sethard_nil (W : World) (t v : Int) : Calls Try.prog 53 #[.pointer none, .agg #[.int .i64 t, .int .i64 v]] W fun e w' => e = .returned (.int .i64 1) ∧ Below W.heap.size W w' := by
  go_enter Try.func53, Try.ntmps53
  go_wp2_with fail
  go_ret
  exact ⟨rfl, below_alloc (Below.refl _ _) _⟩
set_option maxRecDepth 100000 in
theorem wsync_nil (W : World) : Calls Try.prog 28 #[.pointer none] W fun e w' => e = .returned (.int .i64 1) ∧ W = w' := by
  go_enter Try.func28, Try.ntmps28
  go_wp2_with fail
  go_ret
  exact ⟨rfl, rfl⟩
set_option maxRecDepth 100000 in
theorem compact_nil (W : World) (n : Int) : Calls Try.prog 51 #[.pointer none, .int .i64 n] W fun e w' => e = .returned (.int .i64 1) ∧ W = w' := by
  go_enter Try.func51, Try.ntmps51
  go_wp2_with fail
  go_ret
  exact ⟨rfl, rfl⟩
set_option maxRecDepth 100000 in
theorem reset_nil (W : World) (i t : Int) : Calls Try.prog 54 #[.pointer none, .agg #[.int .i64 i, .int .i64 t]] W fun e w' => e = .returned (.int .i64 1) ∧ Below W.heap.size W w' := by
  go_enter Try.func54, Try.ntmps54
  go_wp2_with fail
  go_ret
  exact ⟨rfl, below_alloc (Below.refl _ _) _⟩
set_option maxRecDepth 100000 in
theorem open_nil (W : World) : Calls Try.prog 26 #[.pointer none] W fun e w' => e = .returned (.tuple #[.pointer none, .int .i64 1]) ∧ W = w' := by
  go_enter Try.func26, Try.ntmps26
  go_wp2_with fail
  go_ret2
  exact ⟨rfl, rfl⟩
end Go.Proofs.Ytmmiipnmimjojaa.PS
end
section
/- A log in memory, on its disk. -/
namespace Go.Proofs.Ytmmiipnmimjojaa.PS
open Go.RowKit Go.Proofs.YtmmiipnmimjojaaW.PrintWords Go.Proofs.YtmmiipnmimjojaaW.PrintLast Go.Proofs.YtmmiipnmimjojaaW.PrintMore
open Go.Maps Go.Proofs.Ytmmiipnmimjojaa.PD
set_option linter.unusedVariables false
set_option linter.unusedSimpArgs false
def lgC (g : Nat) (M : LM) (v : Value) : Array Value := #[.pointer (some ⟨g, 0, none⟩), .int .i64 M.st.bi, .int .i64 M.st.bt, .int .i64 M.st.ht, .int .i64 M.st.hv, v, .int .i64 M.n, .int .i64 M.sz]
/-- The log lies in block L; Q: its blocks. -/
def LgAt (W : World) (Q : Nat → Prop) (L g : Nat) (M : LM) : Prop := Q L ∧ ∃ v, W.heap[L]? = some (.cells (lgC g M v) 126 (0, 0)) ∧ Kd.V k48 48 W 0 (fun k => Q k ∧ k ≠ L) v M.st.es
/-- W0: the law's beginning; S: the disk's blocks; Q: the log's. -/
structure Wl (W0 W : World) (S Q : Nat → Prop) (g N L : Nat) (D : Dsk) (M : LM) : Prop where
  dk : Dk W0 W S g N D
  lg : LgAt W Q L g M
  q : ∀ k, Q k → W0.heap.size ≤ k ∧ k < W.heap.size ∧ ¬ S k
structure MOk (M : LM) : Prop where
  st : WOk M.st
  few : M.st.es.length ≤ 500000
  n : 0 ≤ M.n ∧ M.n ≤ 1000000000
  sz : 0 ≤ M.sz ∧ M.sz ≤ 1000000
/-- A block that is none of the disk's, and not the log's struct. -/
structure By (W : World) (S : Nat → Prop) (L b : Nat) (o : Obj) : Prop where
  at_ : W.heap[b]? = some o
  ns : ¬ S b
  nl : b ≠ L
/-- What stays. -/
structure Bys (W : World) (S : Nat → Prop) (w' : World) (S' : Nat → Prop) (L : Nat) : Prop where
  size : W.heap.size ≤ w'.heap.size
  keep : ∀ b o, By W S L b o → By w' S' L b o
/-- What a call of the disk leaves of a log. -/
def AfW (W0 W : World) (S Q : Nat → Prop) (g N L : Nat) (D : Dsk) (M : LM) (w' : World) : Prop := ∃ S', Wl W0 w' S' Q g N L D M ∧ Bys W S w' S' L
/-- What a call of the log leaves. -/
def Nl (W0 W : World) (S Q : Nat → Prop) (g N L : Nat) (D : Dsk) (M : LM) (w' : World) : Prop := ∃ S' Q', Wl W0 w' S' Q' g N L D M ∧ Bys W S w' S' L ∧ ∀ k, k < W.heap.size → Q' k → Q k
section
variable {W0 W w' w2 : World} {S S' S2 Q Q' : Nat → Prop} {g N N' L : Nat} {D D' : Dsk} {M M' : LM} {v : Value} {es : List S48}
theorem Bys.refl (W : World) (S : Nat → Prop) (L : Nat) : Bys W S W S L := ⟨Nat.le_refl _, fun _ _ h => h⟩
theorem Bys.trans (h : Bys W S w' S' L) (k : Bys w' S' w2 S2 L) : Bys W S w2 S2 L := ⟨Nat.le_trans h.size k.size, fun b o hb => k.keep b o (h.keep b o hb)⟩
theorem Bys.of_below (hb : Below W.heap.size W w') : Bys W S w' S L := ⟨hb.size, fun b o h => ⟨(hb.block b (blk_lt h.at_)).trans h.at_, h.ns, h.nl⟩⟩
theorem Bys.of_nx (nx : Nx W0 W S w' g N D) : ∃ S', Dk W0 w' S' g N D ∧ Bys W S w' S' L ∧ (∀ k, k < W.heap.size → S' k → S k) ∧ W.heap.size ≤ w'.heap.size := by
  obtain ⟨S', hd, hk, hs⟩ := nx
  exact ⟨S', hd, ⟨hk.size, fun b o h => ⟨(hk.block b (blk_lt h.at_) h.ns).trans h.at_, fun h' => h.ns (hs b (blk_lt h.at_) h'), h.nl⟩⟩, hs, hk.size⟩
theorem Bys.step (h : Bys W S w' S' L) {k : Nat} (hk : k < W.heap.size) (hS : ¬ S k) (hL : k ≠ L) : w'.heap[k]? = W.heap[k]? ∧ ¬ S' k := by
  obtain ⟨o, ho⟩ : ∃ o, W.heap[k]? = some o := ⟨_, Array.getElem?_eq_getElem hk⟩
  have := h.keep k o ⟨ho, hS, hL⟩
  exact ⟨this.at_.trans ho.symm, this.ns⟩
/-- Entries that the log's blocks hold. -/
theorem V_bys (h : Bys W S w' S' L) (hq : ∀ k, Q k → ¬ S k) (hv : Kd.V k48 48 W 0 (fun k => Q k ∧ k ≠ L) v es) : Kd.V k48 48 w' 0 (fun k => Q k ∧ k ≠ L) v es :=
  Kd.V_map hv fun A hF => Kd.F_step hF fun k hk hlt => (h.step hlt (hq k hk.1) hk.2).1
theorem Wl.dstep (h : Wl W0 W S Q g N L D M) (nx : Nx W0 W S w' g N' D') : AfW W0 W S Q g N' L D' M w' := by
  obtain ⟨S', hd, hk, hs⟩ := nx
  obtain ⟨hQ, v, hb, hv⟩ := h.lg
  have hB : Bys W S w' S' L := ⟨hk.size, fun b o h => ⟨(hk.block b (blk_lt h.at_) h.ns).trans h.at_, fun h' => h.ns (hs b (blk_lt h.at_) h'), h.nl⟩⟩
  refine ⟨S', ⟨hd, ⟨hQ, v, (hk.block L (blk_lt hb) (h.q L hQ).2.2).trans hb, V_bys hB (fun k hk => (h.q k hk).2.2) hv⟩, fun k hk' => ?_⟩, hB⟩
  obtain ⟨q1, q2, q3⟩ := h.q k hk'
  exact ⟨q1, Nat.lt_of_lt_of_le q2 hk.size, fun h' => q3 (hs k q2 h')⟩
theorem Wl.below (h : Wl W0 W S Q g N L D M) (hb : Below W.heap.size W w') : Wl W0 w' S Q g N L D M := by
  obtain ⟨hQ, v, hh, hv⟩ := h.lg
  exact ⟨h.dk.step hb, ⟨hQ, v, (hb.block L (blk_lt hh)).trans hh, V_bys (Bys.of_below (S := S) hb) (fun k hk => (h.q k hk).2.2) hv⟩, fun k hk => ⟨(h.q k hk).1, Nat.lt_of_lt_of_le (h.q k hk).2.1 hb.size, (h.q k hk).2.2⟩⟩
theorem Wl.mono (h : Wl W0 W S Q g N L D M) (hN : N ≤ N') : Wl W0 W S Q g N' L D M := ⟨⟨h.dk.1, h.dk.2.1, h.dk.2.2.1, h.dk.2.2.2.mono hN⟩, h.lg, h.q⟩
theorem Wl.more (h : Wl W0 W S Q g N L D M) (hq : ∀ k, Q k → Q' k) (hn : ∀ k, Q' k → W0.heap.size ≤ k ∧ k < W.heap.size ∧ ¬ S k) : Wl W0 W S Q' g N L D M := by
  obtain ⟨hQ, v, hh, hv⟩ := h.lg
  exact ⟨h.dk, ⟨hq L hQ, v, hh, Kd.V_map hv fun A hF => Kd.F_mono hF (fun k hk => ⟨hq k hk.1, hk.2⟩)⟩, hn⟩
theorem Wl.nl (h : Wl W0 W S Q g N L D M) (hb : Below W.heap.size W w') : Nl W0 W S Q g N L D M w' := ⟨S, Q, h.below hb, Bys.of_below hb, fun _ _ h => h⟩
theorem Nl.of_af (h : AfW W0 W S Q g N L D M w') : Nl W0 W S Q g N L D M w' := by
  obtain ⟨S', h, hb⟩ := h
  exact ⟨S', Q, h, hb, fun _ _ h => h⟩
/-- Writing into the log's struct. -/
theorem Wl.setL {M' : LM} (h : Wl W0 W S Q g N L D M) (hv : Kd.V k48 48 W 0 (fun k => Q k ∧ k ≠ L) v M'.st.es) (k : Kp W w' (fun k => k = L)) (hb : w'.heap[L]? = some (.cells (lgC g M' v) 126 (0, 0))) : AfW W0 W S Q g N L D M' w' := by
  have hQ := h.lg.1
  have hL := h.q L hQ
  refine ⟨S, ⟨h.dk.kp (h.dk.1.trans (k.below (B := W0.heap.size) (fun i hi _ => by rw [hi]; exact hL.1) h.dk.1.size)) k (fun i hS e => hL.2.2 (e ▸ hS)), ⟨hQ, v, hb, Kd.V_map hv fun A hF => Kd.F_step hF fun i hi hlt => k.block i hlt hi.2⟩, fun i hi => ⟨(h.q i hi).1, Nat.lt_of_lt_of_le (h.q i hi).2.1 k.size, (h.q i hi).2.2⟩⟩, ⟨k.size, fun b o h' => ⟨(k.block b (blk_lt h'.at_) h'.nl).trans h'.at_, h'.ns, h'.nl⟩⟩⟩
theorem Wl.cells (h : Wl W0 W S Q g N L D M) : ∃ A c, W.heap[L]? = some (.cells (lgC g M (.slice A M.st.es.length c)) 126 (0, 0)) ∧ M.st.es.length ≤ c ∧ Kd.F k48 W (fun k => Q k ∧ k ≠ L) A M.st.es.length M.st.es := by
  obtain ⟨hQ, v, hb, A, c, rfl, hc, hF⟩ := h.lg
  exact ⟨A, c, hb, hc, hF⟩
end
end Go.Proofs.Ytmmiipnmimjojaa.PS
end
section
/- wal.Log: Term, Entries, Sync. -/
namespace Go.Proofs.Ytmmiipnmimjojaa.PS
open Go.RowKit Go.Proofs.YtmmiipnmimjojaaW.PrintWords Go.Proofs.YtmmiipnmimjojaaW.PrintLast Go.Proofs.YtmmiipnmimjojaaW.PrintMore
open Go.Maps Go.Proofs.Ytmmiipnmimjojaa.PD
set_option linter.unusedVariables false
set_option linter.unusedSimpArgs false
section
variable {W0 W : World} {S Q : Nat → Prop} {g N L : Nat} {D : Dsk} {M : LM}
theorem Wl.last (h : Wl W0 W S Q g N L D M) (hm : MOk M) : Calls Try.prog 29 #[.pointer (some ⟨L, 0, none⟩)] W fun e w' => e = .returned (.int .i64 M.st.last) ∧ w' = W.drewN 1 := by
  obtain ⟨A, c, hb, hc, hF⟩ := h.cells
  have := hm.few
  exact last_calls (blk_cell hb 1) (blk_cell hb 5) hm.st.mark.1 (by omega)
end
def TermP (W : World) (r : Option Int) (e : Ending) (w' : World) : Prop := e = .returned (.tuple #[.int .i64 (r.getD 0), .bool r.isSome]) ∧ Below W.heap.size W w'
set_option maxHeartbeats 4000000 in
set_option maxRecDepth 100000 in
theorem term_calls {W0 W : World} {S Q : Nat → Prop} {g N L : Nat} {D : Dsk} {M : LM} {i : Int} (h : Wl W0 W S Q g N L D M) (hm : MOk M) (hi : -9223372036854775808 ≤ i ∧ i ≤ 9223372036854775807) :
    Calls Try.prog 46 #[.pointer (some ⟨L, 0, none⟩), .int .i64 i] W (TermP W (M.st.term i)) := by
  have HL := Aside0.mk (show ∀ w, Below W.heap.size W w → Calls Try.prog 29 #[.pointer (some ⟨L, 0, none⟩)] w fun e w' => e = .returned (.int .i64 M.st.last) ∧ w' = w.drewN 1 from fun w hw => (h.below hw).last hm)
  obtain ⟨A, c, hb, hc, hF⟩ := h.cells
  have hC := Kd.F_now hF
  have m1 : W.cell? ⟨L, 1, none⟩ = some (.int .i64 M.st.bi) := blk_cell hb 1
  have m2 : W.cell? ⟨L, 2, none⟩ = some (.int .i64 M.st.bt) := blk_cell hb 2
  have m5 : W.cell? ⟨L, 5, none⟩ = some (.slice A M.st.es.length c) := blk_cell hb 5
  have hbi := hm.st.mark.1
  have hfew := hm.few
  have hlast : M.st.last = M.st.bi + M.st.es.length := rfl
  have HM := Aside0.mk hm
  obtain ⟨bi, hbi'⟩ : ∃ bi, M.st.bi = bi := ⟨_, rfl⟩
  obtain ⟨la, hla⟩ : ∃ la, M.st.last = la := ⟨_, rfl⟩
  obtain ⟨r, hr⟩ : ∃ r, M.st.term i = r := ⟨_, rfl⟩
  rw [hr]
  rw [hla] at HL
  unfold WS.term at hr
  rw [hla, hbi'] at hr
  rw [hbi'] at m1 hbi
  rw [hla, hbi'] at hlast
  have HR := Aside0.mk hr
  have HC := Aside0.mk hC
  have HLA := Aside0.mk hlast
  by_cases h1 : i < bi
  · have c1 : decide (i < bi) = true := decide_eq_true h1
    have hr0 : r = none := by rw [← HR.out, if_pos (.inl h1)]
    clear hr hb hF hC hm hlast
    subst hr0
    go_enter Try.func46, Try.ntmps46
    go_wp2_with fail
    go_ret2
    exact ⟨rfl, Below.refl _ _⟩
  · have c1 : decide (i < bi) = false := decide_eq_false h1
    have HLc := Aside0.mk (HL.out W (Below.refl _ _))
    by_cases h2 : la < i
    · have c2 : decide (la < i) = true := decide_eq_true h2
      have hr0 : r = none := by rw [← HR.out, if_pos (.inr h2)]
      clear hr hb hF hC hm hlast
      subst hr0
      go_enter Try.func46, Try.ntmps46
      go_wp2_with fail
      refine HLc.out.mono ?_
      rintro e w1 ⟨rfl, rfl⟩
      go_wp2_with fail
      go_ret2
      exact ⟨rfl, pw_below_drewN (Below.refl _ _) _⟩
    · have c2 : decide (la < i) = false := decide_eq_false h2
      by_cases h3 : i = bi
      · have hr0 : r = some M.st.bt := by rw [← HR.out, if_neg (by omega), if_pos h3]
        clear hr hb hF hC hm hlast
        subst hr0
        have c3 : (i == bi) = true := by rw [h3]; exact beq_self_eq_true _
        clear h3
        go_enter Try.func46, Try.ntmps46
        go_wp2_with fail
        refine HLc.out.mono ?_
        rintro e w1 ⟨rfl, rfl⟩
        go_wp2_with fail
        go_ret2
        exact ⟨rfl, pw_below_drewN (Below.refl _ _) _⟩
      · have c3 : (i == bi) = false := beq_eq_false_iff_ne.mpr h3
        obtain ⟨j, hj⟩ : ∃ j : Nat, i - bi - 1 = j := ⟨(i - bi - 1).toNat, by omega⟩
        have hjl : j < M.st.es.length := by omega
        obtain ⟨ad, A3, c3', rfl, y0, y1, y2, y3, _⟩ := at_T48 HC.out (j : Int) (by omega) (by omega)
        have hx : M.st.es[j]? = some (rd_T48 M.st.es j) := rd48_at (i := (j : Int)) (by omega) (by omega)
        have hr0 : r = some (rd_T48 M.st.es j).f1 := by
          rw [← HR.out, if_neg (by omega), if_neg h3, hj, Int.toNat_natCast, hx]; rfl
        obtain ⟨d1, hd1⟩ : ∃ d1, i - bi = d1 := ⟨_, rfl⟩
        have hwa : IntKind.i64.wrap (i - bi) = d1 := by rw [← hd1]; exact IntWalk.i64_in _ ⟨by omega, by omega⟩
        have hwb : IntKind.i64.wrap (d1 - 1) = (j : Int) := by rw [← hd1, hj]; exact IntWalk.i64_in _ ⟨by omega, by omega⟩
        obtain ⟨x, hx'⟩ : ∃ x, rd_T48 M.st.es j = x := ⟨_, rfl⟩
        rw [hx'] at hr0 y1
        have p0 : (0 : Int) ≤ (j : Int) := by omega
        have p1 : (j : Int) < (M.st.es.length : Int) := by omega
        rw [Int.toNat_natCast] at y1
        clear hr hb hF hC hm hlast hx hd1 hj hx' y0 y2 y3 h3
        subst hr0
        go_enter Try.func46, Try.ntmps46
        go_wp2_with fail
        refine HLc.out.mono ?_
        rintro e w1 ⟨rfl, rfl⟩
        go_wp2_with fail
        go_quiet (fail)
        go_wp2_with fail
        go_ret2
        exact ⟨rfl, pw_below_drewN (pw_below_drewN (Below.refl _ _) _) _⟩
theorem Wl.file {W0 W : World} {S Q : Nat → Prop} {g N L : Nat} {D : Dsk} {M : LM} (h : Wl W0 W S Q g N L D M) (hm : MOk M) : Calls Try.prog 50 #[.pointer (some ⟨L, 0, none⟩)] W fun e w' => e = .returned (.string (nameB M.n)) ∧ W = w' := by
  obtain ⟨A, c, hb, hc, hF⟩ := h.cells
  exact wfile_calls ⟨hm.n.1, by have := hm.n.2; omega⟩ (blk_cell hb 6)
theorem digB_size : ∀ (k : Nat) (m : Int) (s : ByteArray), (digB k m s).size ≤ k + s.size
  | 0, m, s => by rw [digB]; omega
  | k + 1, m, s => by
    rw [digB]
    split
    · have h := digB_size k (m / 10) (Utf8.encode (48 + m % 10) ++ s)
      rw [ByteArray.size_append, dig_one (m % 10) (by omega) (by omega)] at h
      omega
    · omega
theorem name_size (n : Int) : (nameB n).size ≤ maxLen := by
  have h := digB_size 14 n ⟨#[]⟩
  unfold nameB
  rw [ByteArray.size_append]
  have e1 : (⟨#[119, 97, 108, 45]⟩ : ByteArray).size = 4 := rfl
  have e2 : (⟨#[]⟩ : ByteArray).size = 0 := rfl
  unfold maxLen
  omega
theorem AfW.cell0 {W0 W w' : World} {S Q : Nat → Prop} {g N L : Nat} {D : Dsk} {M : LM} (h : AfW W0 W S Q g N L D M w') : w'.cell? ⟨L, 0, none⟩ = some (.pointer (some ⟨g, 0, none⟩)) := by
  obtain ⟨S', hw, _⟩ := h
  obtain ⟨A, c, hb, _⟩ := hw.cells
  exact blk_cell hb 0
def ErrP (W0 W : World) (S Q : Nat → Prop) (g N L : Nat) (r : Int × Dsk × LM) (e : Ending) (w' : World) : Prop := e = .returned (.int .i64 r.1) ∧ Nl W0 W S Q g N L r.2.1 r.2.2 w'
set_option maxHeartbeats 4000000 in
set_option maxRecDepth 100000 in
theorem wsync_calls {W0 W : World} {S Q : Nat → Prop} {g N L : Nat} {D : Dsk} {M : LM} (h : Wl W0 W S Q g N L D M) (hm : MOk M) (hN : N ≤ 1000000) :
    Calls Try.prog 28 #[.pointer (some ⟨L, 0, none⟩)] W (ErrP W0 W S Q g N L ((dSync D (nameB M.n)).1, (dSync D (nameB M.n)).2, M)) := by
  obtain ⟨A, c, hb, hc, hF⟩ := h.cells
  have m0 : W.cell? ⟨L, 0, none⟩ = some (.pointer (some ⟨g, 0, none⟩)) := blk_cell hb 0
  have HW := Aside0.mk (h.below (below_drew1 (Below.refl _ _)))
  have HM := Aside0.mk hm
  obtain ⟨nm, hnm⟩ : ∃ nm, nameB M.n = nm := ⟨_, rfl⟩
  have HFL := Aside0.mk (HW.out.file hm)
  have hsz := name_size M.n
  rw [hnm] at HFL hsz ⊢
  have HS := Aside0.mk hsz
  clear hb hF hm h hnm hsz
  go_enter Try.func28, Try.ntmps28
  go_wp2_with fail
  go_region_held3 (fun w' => w'.cell? ⟨L, 0, none⟩ = some (.pointer (some ⟨g, 0, none⟩))) (first | go_keep | exact HAF.out.cell0) (first
    | (go_at_call 50; refine HFL.out.mono ?_; rintro e w' ⟨rfl, rfl⟩)
    | (go_at_call 21; refine (dk_sync HW.out.dk hN HS.out).mono ?_; rintro e w' ⟨rfl, hnx⟩; have HAF := Aside0.mk (HW.out.dstep hnx); clear hnx))
  go_wp2_with fail
  go_ret
  obtain ⟨S', hw, hB⟩ := HAF.out
  exact ⟨rfl, S', Q, hw, (Bys.of_below (below_drew1 (Below.refl _ _))).trans hB, fun _ _ h => h⟩
theorem copiedK {W : World} {A : Option Addr} {c n : Nat} {l : List S48} {P : Nat → Prop} (hn : l.length = n) (hr : Kd.F k48 W P A l.length l) (hl : n ≤ 1000000000) (hd : ∀ x ∈ l, x.f3.length ≤ 1000000) :
    Calls Try.prog 73 #[.slice A n c] W fun e w' => ∃ v1, e = .returned v1 ∧ Kd.N k48 48 w' W.heap.size (fun k => W.heap.size ≤ k) v1 l ∧ Below W.heap.size W w' := by
  subst hn
  exact copied_calls hr hl hd
def EntsP (W : World) (es : List S48) (e : Ending) (w' : World) : Prop := ∃ v, e = .returned v ∧ Kd.N k48 48 w' W.heap.size (fun k => W.heap.size ≤ k) v es ∧ Below W.heap.size W w'
set_option maxHeartbeats 4000000 in
set_option maxRecDepth 100000 in
theorem entries_calls {W0 W : World} {S Q : Nat → Prop} {g N L : Nat} {D : Dsk} {M : LM} {a b : Int} (h : Wl W0 W S Q g N L D M) (hm : MOk M) (ha : -9223372036854775808 ≤ a ∧ a ≤ 9223372036854775807) (hb : -9223372036854775808 ≤ b ∧ b ≤ 9223372036854775807) :
    Calls Try.prog 30 #[.pointer (some ⟨L, 0, none⟩), .int .i64 a, .int .i64 b] W (EntsP W (M.st.from_ a b)) := by
  have HLQ := Aside0.mk (show ∀ n, Calls Try.prog 29 #[.pointer (some ⟨L, 0, none⟩)] (W.drewN n) fun e w' => e = .returned (.int .i64 M.st.last) ∧ ∃ m, w' = W.drewN m from fun n => ((h.below (pw_below_drewN (Below.refl _ _) n)).last hm).mono (fun _ _ hh => ⟨hh.1, n + 1, by rw [hh.2, World.drewN_drewN]⟩))
  obtain ⟨A, c, hbk, hc, hF⟩ := h.cells
  have m1 : W.cell? ⟨L, 1, none⟩ = some (.int .i64 M.st.bi) := blk_cell hbk 1
  have m5 : W.cell? ⟨L, 5, none⟩ = some (.slice A M.st.es.length c) := blk_cell hbk 5
  have hbi := hm.st.mark.1
  have hfew := hm.few
  have hlast : M.st.last = M.st.bi + M.st.es.length := rfl
  have hbig : ∀ x ∈ M.st.es, x.f3.length ≤ 1000000 := fun x hx => Nat.le_trans (ent_bad (hm.st.ent x hx)).2 (by omega)
  obtain ⟨r, hr⟩ : ∃ r, M.st.from_ a b = r := ⟨_, rfl⟩
  rw [hr]
  unfold WS.from_ at hr
  have HF := Aside0.mk hF
  have HBG := Aside0.mk hbig
  generalize M.st.es = es at *
  generalize M.st.last = la at *
  generalize M.st.bi = bi at *
  have hw1 : IntKind.i64.wrap (bi + 1) = bi + 1 := IntWalk.i64_in _ ⟨by omega, by omega⟩
  obtain ⟨fr, hfr⟩ : ∃ fr, max a (bi + 1) = fr := ⟨_, rfl⟩
  obtain ⟨to_, hto⟩ : ∃ to_, min b la = to_ := ⟨_, rfl⟩
  rw [hfr, hto] at hr
  have HR := Aside0.mk hr
  have HFR := Aside0.mk hfr
  have HTO := Aside0.mk hto
  have HLS := Aside0.mk hlast
  clear hr hbk hF hm h hbig hlast
  by_cases hc1 : to_ < fr
  · have c1 : decide (to_ < fr) = true := decide_eq_true hc1
    have hr0 : r = [] := by rw [← HR.out, if_pos hc1]
    subst hr0
    go_enter Try.func30, Try.ntmps30
    go_wp2_with fail
    go_quiet ((go_at_call 29; exact HLQ.out _))
    go_wp2_with fail
    go_ret
    exact ⟨_, rfl, Kd.N_nil _ _ _ _ _, pw_below_drewN (Below.refl _ _) _⟩
  have c1 : decide (to_ < fr) = false := decide_eq_false hc1
  obtain ⟨lo, hlo⟩ : ∃ lo : Nat, fr - bi - 1 = lo := ⟨(fr - bi - 1).toNat, by omega⟩
  obtain ⟨hi, hhi⟩ : ∃ hi : Nat, to_ - bi = hi := ⟨(to_ - bi).toNat, by omega⟩
  obtain ⟨d1, hd1⟩ : ∃ d1, fr - bi = d1 := ⟨_, rfl⟩
  have hl1 : lo ≤ hi := by omega
  have hl2 : hi ≤ es.length := by have := HLS.out; omega
  have hl3 : hi ≤ c := by omega
  have hwa : IntKind.i64.wrap (fr - bi) = d1 := by rw [← hd1]; exact IntWalk.i64_in _ ⟨by have := HLS.out; omega, by have := HLS.out; omega⟩
  have hwb : IntKind.i64.wrap (d1 - 1) = (lo : Int) := by rw [← hd1, hlo]; exact IntWalk.i64_in _ ⟨by omega, by omega⟩
  have hwc : IntKind.i64.wrap (to_ - bi) = (hi : Int) := by rw [hhi]; exact IntWalk.i64_in _ ⟨by omega, by omega⟩
  have hr0 : r = (es.take hi).drop lo := by rw [← HR.out, if_neg hc1, hhi, hlo, Int.toNat_natCast, Int.toNat_natCast]
  have hlt : lo < hi := by omega
  have hne : ¬ c = lo := by omega
  obtain ⟨ad, rfl⟩ : ∃ ad, A = some ad := by
    cases A with
    | none => have := nil_of_C (Kd.F_now HF.out); subst this; simp at hl2; omega
    | some ad => exact ⟨ad, rfl⟩
  have hfm := Kd.F_mid HF.out hl1 hl2 hc
  rw [if_neg hne, ← hr0] at hfm
  have HFM := Aside0.mk hfm
  have hrl : r.length = hi - lo := by rw [hr0, List.length_drop, List.length_take]; omega
  have HR0 := Aside0.mk hr0
  have HRL := Aside0.mk hrl
  clear hlo hhi hd1 hr0 hrl hc1 hfm
  go_enter Try.func30, Try.ntmps30
  go_wp2_with fail
  go_quiet ((go_at_call 29; exact HLQ.out _))
  have HWQ := Aside0.mk (show Below W.heap.size W (W.drewN (nq + 1)) from pw_below_drewN (Below.refl _ _) _)
  have HCP := Aside0.mk (copiedK (W := W.drewN (nq + 1)) (c := c - lo) HRL.out (Kd.F_below HFM.out HWQ.out) (by omega) (fun x hx => HBG.out x (by rw [HR0.out] at hx; exact List.mem_of_mem_take (List.mem_of_mem_drop hx))))
  go_wp2_with fail
  go_region_held3 (fun w' => w'.cell? ⟨L, 1, none⟩ = some (.int .i64 bi) ∧ w'.cell? ⟨L, 5, none⟩ = some (.slice (some ad) es.length c)) (first | go_keep | exact HKP.out) ((go_at_call 73; refine HCP.out.mono ?_; rintro e w5 ⟨v5, rfl, hn5, hb5⟩; have HN5 := Aside0.mk hn5; have HB5 := Aside0.mk hb5; have HKP := Aside0.mk (And.intro ((hb5.cell (World.block_lt_of_cell? W _ m1)).trans m1) ((hb5.cell (World.block_lt_of_cell? W _ m5)).trans m5)); clear hn5 hb5))
  go_wp2_with fail
  go_ret
  exact ⟨v5, rfl, Kd.N_mono (Kd.N_lower HN5.out HWQ.out.size) (fun k hk => Nat.le_trans HWQ.out.size hk), below_step HWQ.out HB5.out⟩
end Go.Proofs.Ytmmiipnmimjojaa.PS
end
