/- The texts of this claim's seat, joined: part 19. -/
import Derived.Test.YtmmiipnmimjojaaJ18
section
/- wal.Log: anew. -/
namespace Go.Proofs.Ytmmiipnmimjojaa.PS
open Go.RowKit Go.Proofs.YtmmiipnmimjojaaW.PrintWords Go.Proofs.YtmmiipnmimjojaaW.PrintLast Go.Proofs.YtmmiipnmimjojaaW.PrintMore
open Go.Maps Go.Proofs.Ytmmiipnmimjojaa.PD
set_option linter.unusedVariables false
set_option linter.unusedSimpArgs false
theorem write_ok {D : Dsk} {s : ByteArray} {a : Int} {b : List Int} (h : (dWrite D s a b).1 = 0) : (dWrite D s a b).2 = ⟨D.room, aput s.data.toList (wFil ((aget s.data.toList D.files).getD z110) a b) D.files⟩ ∧ namedB s = true := by
  unfold dWrite at *
  by_cases h1 : namedB s = false
  · rw [if_pos h1] at h; cases h
  · rw [if_neg h1] at h ⊢
    refine ⟨?_, by simpa using h1⟩
    unfold dW2 at *
    by_cases h2 : a < 0 ∨ ((((aget s.data.toList D.files).getD z110).f0.length : Int)) < a
    · rw [if_pos h2] at h; cases h
    · rw [if_neg h2] at h ⊢
      split at h
      · cases h
      · next h3 =>
        rw [if_neg h3]
        split at h
        · cases h
        · next h4 => rw [if_neg h4]
theorem sync_write {D : Dsk} {s : ByteArray} {a : Int} {b : List Int} (hs : Srt D.files) (h : (dWrite D s a b).1 = 0) : (dSync (dWrite D s a b).2 s).1 = 0 := by
  rw [(write_ok h).1]
  unfold dSync
  rw [show aget s.data.toList (aput s.data.toList (wFil ((aget s.data.toList D.files).getD z110) a b) D.files) = _ from (aget_put hs).trans (if_pos rfl)]
theorem rename_write {D : Dsk} {s t : ByteArray} {a : Int} {b : List Int} (hs : Srt D.files) (h : (dWrite D s a b).1 = 0) (ht : namedB t = true) : (dRename (dSync (dWrite D s a b).2 s).2 s t).1 = 0 := by
  rw [(write_ok h).1]
  unfold dSync
  rw [show aget s.data.toList (aput s.data.toList (wFil ((aget s.data.toList D.files).getD z110) a b) D.files) = _ from (aget_put hs).trans (if_pos rfl)]
  unfold dRename
  rw [show aget s.data.toList (aput s.data.toList (_ : Fil) (aput s.data.toList (wFil ((aget s.data.toList D.files).getD z110) a b) D.files)) = _ from (aget_put (aput_srt hs)).trans (if_pos rfl)]
  dsimp only
  rw [if_neg (by rw [ht]; decide)]
  split <;> rfl
theorem By.new {W w1 : World} {S : Nat → Prop} {L b : Nat} {o : Obj} (hS : ∀ k, S k → k < W.heap.size) (hL : L < W.heap.size) (hb : W.heap.size ≤ b) (h : w1.heap[b]? = some o) : By w1 S L b o := ⟨h, fun h' => by have := hS b h'; omega, by omega⟩
theorem Wl.lt {W0 W : World} {S Q : Nat → Prop} {g N L : Nat} {D : Dsk} {M : LM} (h : Wl W0 W S Q g N L D M) : L < W.heap.size := (h.q L h.lg.1).2.1
theorem Wl.cell0 {W0 W : World} {S Q : Nat → Prop} {g N L : Nat} {D : Dsk} {M : LM} (h : Wl W0 W S Q g N L D M) : W.cell? ⟨L, 0, none⟩ = some (.pointer (some ⟨g, 0, none⟩)) ∧ W.cell? ⟨L, 6, none⟩ = some (.int .i64 M.n) ∧ W.cell? ⟨L, 7, none⟩ = some (.int .i64 M.sz) := by
  obtain ⟨A, c, hb, _⟩ := h.cells
  exact ⟨blk_cell hb 0, blk_cell hb 6, blk_cell hb 7⟩
theorem anew_fin {W0 w6 : World} {S6 Q : Nat → Prop} {g N L : Nat} {D5 : Dsk} {M : LM} {s : WS} {v : Value} {n' sz' : Int} (h : Wl W0 w6 S6 Q g N L D5 M) (hV : Kd.V k48 48 w6 0 (fun k => Q k ∧ k ≠ L) v s.es) :
    AfW W0 w6 S6 Q g N L D5 ⟨n', sz', s⟩ ((((((((w6.setCell ⟨L, 6, none⟩ (.int .i64 n')).setCell ⟨L, 7, none⟩ (.int .i64 sz')).setCell ⟨L, 1, none⟩ (.int .i64 s.bi)).setCell ⟨L, 2, none⟩ (.int .i64 s.bt)).setCell ⟨L, 3, none⟩ (.int .i64 s.ht)).setCell ⟨L, 4, none⟩ (.int .i64 s.hv)).setCell ⟨L, 5, none⟩ v).drew) := by
  obtain ⟨A, c, hb, _⟩ := h.cells
  refine h.setL (M' := ⟨n', sz', s⟩) (v := v) hV ?_ ?_
  · exact (kp_set (kp_set (kp_set (kp_set (kp_set (kp_set (kp_set (Kp.refl w6 (fun k => k = L)) 6 _) 7 _) 1 _) 2 _) 3 _) 4 _) 5 _).drewN 1
  · have h1 := blk_set hb 6 (.int .i64 n')
    have h2 := blk_set h1 7 (.int .i64 sz')
    have h3 := blk_set h2 1 (.int .i64 s.bi)
    have h4 := blk_set h3 2 (.int .i64 s.bt)
    have h5 := blk_set h4 3 (.int .i64 s.ht)
    have h6 := blk_set h5 4 (.int .i64 s.hv)
    have h7 := blk_set h6 5 v
    have hdrew : ∀ w : World, (w.drew).heap = w.heap := fun _ => rfl
    rw [hdrew, h7]
    unfold lgC
    simp
set_option maxHeartbeats 4000000 in
set_option maxRecDepth 100000 in
theorem anew_bad {W0 W : World} {S Q : Nat → Prop} {g N L : Nat} {D : Dsk} {M : LM} {s : WS} {v : Value} (h : Wl W0 W S Q g N L D M) (hN : N ≤ 900000) (hs : WOk s) (hsl : s.es.length ≤ 500000) (hV : Kd.V k48 48 W 0 (fun k => Q k ∧ k ≠ L) v s.es) (hw : ¬ (dWrite D tmpB 0 s.bytes).1 = 0) :
    Calls Try.prog 67 #[.pointer (some ⟨L, 0, none⟩), .agg #[.int .i64 s.bi, .int .i64 s.bt, .int .i64 s.ht, .int .i64 s.hv, v]] W (ErrP W0 W S Q g (N + 1) L (lgAnew D M s)) := by
  have hr : lgAnew D M s = ((dWrite D tmpB 0 s.bytes).1, (dRemove (dWrite D tmpB 0 s.bytes).2 tmpB).2, M) := by
    unfold lgAnew dAnew mAnew
    rw [if_neg hw, if_neg hw]
  rw [hr]
  obtain ⟨Av, cv, rfl, hcv, hF⟩ := hV
  obtain ⟨w1, hw1⟩ : ∃ w1, w1 = W.alloc (.cells #[.int .i64 s.bi, .int .i64 s.bt, .int .i64 s.ht, .int .i64 s.hv, .slice Av s.es.length cv] 124) := ⟨_, rfl⟩
  have hb1 : Below W.heap.size W w1 := by rw [hw1]; exact below_alloc (Below.refl _ _) _
  have hbk : w1.heap[W.heap.size]? = some (.cells #[.int .i64 s.bi, .int .i64 s.bt, .int .i64 s.ht, .int .i64 s.hv, .slice Av s.es.length cv] 124 (0, 0)) := by rw [hw1]; exact blk_new W _
  have m0 : w1.cell? ⟨W.heap.size, 0, none⟩ = some (.int .i64 s.bi) := blk_cell hbk 0
  have m1 : w1.cell? ⟨W.heap.size, 1, none⟩ = some (.int .i64 s.bt) := blk_cell hbk 1
  have m2 : w1.cell? ⟨W.heap.size, 2, none⟩ = some (.int .i64 s.ht) := blk_cell hbk 2
  have m3 : w1.cell? ⟨W.heap.size, 3, none⟩ = some (.int .i64 s.hv) := blk_cell hbk 3
  have m4 : w1.cell? ⟨W.heap.size, 4, none⟩ = some (.slice Av s.es.length cv) := blk_cell hbk 4
  have HB1 := Aside0.mk hb1
  have HBY := Aside0.mk (h.below hb1)
  have HBT := Aside0.mk (bytes_calls (bi := s.bi) (bt := s.bt) (ht := s.ht) (hv := s.hv) (Kd.F_now (Kd.F_below hF hb1)) hcv hs (by omega))
  have hbl := (recsB_len hs.recs_ok).2
  have hrl : s.recs.length = s.es.length + 2 := by simp [WS.recs]
  have HBL := Aside0.mk (show s.bytes.length ≤ 2000000000 from by unfold WS.bytes; omega)
  obtain ⟨b, hb⟩ : ∃ b, s.bytes = b := ⟨_, rfl⟩
  have HBT2 : Aside0 (Calls Try.prog 98 #[.agg #[.int .i64 s.bi, .int .i64 s.bt, .int .i64 s.ht, .int .i64 s.hv, .slice Av s.es.length cv]] w1 fun e w' => ∃ v1, e = .returned v1 ∧ k8.R 5 w' w1.heap.size (fun _ => True) v1 b ∧ Below w1.heap.size w1 w') := ⟨by rw [← hb]; exact HBT.out⟩
  rw [hb] at hw HBL ⊢
  obtain ⟨e, he⟩ : ∃ e, (dWrite D tmpB 0 b).1 = e := ⟨_, rfl⟩
  have HE := Aside0.mk he
  rw [he] at hw
  have t1 : (e == 0) = false := beq_eq_false_iff_ne.mpr hw
  have t2 : (e != 0) = true := by simp [bne, t1]
  clear h hs hF hb1 hbk hb he hbl hr HBT hw hrl
  go_enter Try.func67, Try.ntmps67
  go_upto_region 1 with (fail)
  rw [← hw1]
  clear hw1
  go_wp2_with fail
  refine HBT2.out.mono ?_
  rintro e1 w2 ⟨vb, rfl, hr2, hb2⟩
  obtain ⟨Ab, cb, rfl⟩ := Kd.R_slice hr2
  have HW2 := Aside0.mk (HBY.out.below hb2)
  have HR2 := Aside0.mk (Kd.R_reads' hr2)
  have HNS := Aside0.mk (show ∀ ad, Ab = some ad → 0 < b.length → ¬ S ad.block from fun ad e hn hS => by
    subst e
    have h1 := (Kd.R_bound hr2).1 ad.block (by simp [Value.ownBlock])
    have h2 := (HBY.out.dk.2.1 _ hS).2
    have h3 := h1.2.1
    omega)
  obtain ⟨l0, l6, l7⟩ := HW2.out.cell0
  have HBB := Aside0.mk (Bys.of_below (S := S) (L := L) (below_step HB1.out hb2))
  clear hr2 hb2 m0 m1 m2 m3 m4
  go_wp2_with fail
  refine (dk_write (s := tmpB) HW2.out.dk (by omega) (by decide) HR2.out.2.2 HR2.out.2.1 (by have := HBL.out; omega) HNS.out).mono ?_
  rintro e2 w3 ⟨rfl, hnx⟩
  rw [HE.out]
  obtain ⟨S3, hw3, hB3⟩ := HW2.out.dstep hnx
  have HW3 := Aside0.mk hw3
  have HB3 := Aside0.mk (HBB.out.trans hB3)
  obtain ⟨k0, k6, k7⟩ := hw3.cell0
  clear hw3 hB3 l0 l6 l7 hnx
  go_wp2_with fail
  refine (dk_remove (s := tmpB) HW3.out.dk (by decide)).mono ?_
  rintro e2 w4 ⟨rfl, hnx⟩
  obtain ⟨S4, hw4, hB4⟩ := HW3.out.dstep hnx
  have HW4 := Aside0.mk hw4
  have HB4 := Aside0.mk (HB3.out.trans hB4)
  clear hw4 hB4 k0 k6 k7 hnx
  go_wp2_with fail
  go_ret
  exact ⟨by show _ = Ending.returned (.int .i64 (dWrite D tmpB 0 b).1); rw [HE.out]; rfl, S4, Q, HW4.out, HB4.out, fun _ _ h => h⟩
set_option maxHeartbeats 4000000 in
set_option maxRecDepth 100000 in
theorem anew_ok {W0 W : World} {S Q : Nat → Prop} {g N L : Nat} {D : Dsk} {M : LM} {s : WS} {v : Value} (h : Wl W0 W S Q g N L D M) (hN : N ≤ 900000) (hs : WOk s) (hsl : s.es.length ≤ 500000) (hV : Kd.V k48 48 W 0 (fun k => Q k ∧ k ≠ L) v s.es) (hw : (dWrite D tmpB 0 s.bytes).1 = 0) (hm : MOk M) (hnm : namedB (nameB (M.n + 1)) = true) :
    Calls Try.prog 67 #[.pointer (some ⟨L, 0, none⟩), .agg #[.int .i64 s.bi, .int .i64 s.bt, .int .i64 s.ht, .int .i64 s.hv, v]] W (ErrP W0 W S Q g (N + 1) L (lgAnew D M s)) := by
  obtain ⟨D4, hD4⟩ : ∃ D4, (dRename (dSync (dWrite D tmpB 0 s.bytes).2 tmpB).2 tmpB (nameB (M.n + 1))).2 = D4 := ⟨_, rfl⟩
  have hr : lgAnew D M s = (0, if 0 < M.n then (dRemove D4 (nameB M.n)).2 else D4, ⟨M.n + 1, s.bytes.length, s⟩) := by
    unfold lgAnew dAnew mAnew
    rw [if_pos hw, if_pos hw, hD4]
  have HVQ := Aside0.mk (show ∀ w' S', Bys W S w' S' L → Kd.V k48 48 w' 0 (fun k => Q k ∧ k ≠ L) v s.es from fun w' S' hB => V_bys hB (fun k hk => (h.q k hk).2.2) hV)
  have HLS := Aside0.mk (And.intro (fun k hk => (h.dk.2.1 k hk).2) h.lt)
  have HSY := Aside0.mk (sync_write h.dk.2.2.2.srt hw)
  have HRN := Aside0.mk (rename_write h.dk.2.2.2.srt hw hnm)
  have hn0 := hm.n
  obtain ⟨n, hn⟩ : ∃ n, M.n = n := ⟨_, rfl⟩
  have HN := Aside0.mk hn
  rw [hn] at HRN hD4 hn0
  have HD4 := Aside0.mk hD4
  rw [hr, hn]
  obtain ⟨D5, hD5⟩ : ∃ D5, (if 0 < n then (dRemove D4 (nameB n)).2 else D4) = D5 := ⟨_, rfl⟩
  rw [hD5]
  have HD5 := Aside0.mk hD5
  have hw6 : IntKind.i64.wrap (n + 1) = n + 1 := IntWalk.i64_in _ ⟨by omega, by omega⟩
  have hz1 : (0 : Int) ≤ n + 1 := by omega
  obtain ⟨Av, cv, rfl, hcv, hF⟩ := hV
  obtain ⟨w1, hw1⟩ : ∃ w1, w1 = W.alloc (.cells #[.int .i64 s.bi, .int .i64 s.bt, .int .i64 s.ht, .int .i64 s.hv, .slice Av s.es.length cv] 124) := ⟨_, rfl⟩
  have hb1 : Below W.heap.size W w1 := by rw [hw1]; exact below_alloc (Below.refl _ _) _
  have hbk : w1.heap[W.heap.size]? = some (.cells #[.int .i64 s.bi, .int .i64 s.bt, .int .i64 s.ht, .int .i64 s.hv, .slice Av s.es.length cv] 124 (0, 0)) := by rw [hw1]; exact blk_new W _
  have m0 : w1.cell? ⟨W.heap.size, 0, none⟩ = some (.int .i64 s.bi) := blk_cell hbk 0
  have m1 : w1.cell? ⟨W.heap.size, 1, none⟩ = some (.int .i64 s.bt) := blk_cell hbk 1
  have m2 : w1.cell? ⟨W.heap.size, 2, none⟩ = some (.int .i64 s.ht) := blk_cell hbk 2
  have m3 : w1.cell? ⟨W.heap.size, 3, none⟩ = some (.int .i64 s.hv) := blk_cell hbk 3
  have m4 : w1.cell? ⟨W.heap.size, 4, none⟩ = some (.slice Av s.es.length cv) := blk_cell hbk 4
  have HB1 := Aside0.mk hb1
  have HBK := Aside0.mk hbk
  have HBY := Aside0.mk (h.below hb1)
  have HBT := Aside0.mk (bytes_calls (bi := s.bi) (bt := s.bt) (ht := s.ht) (hv := s.hv) (Kd.F_now (Kd.F_below hF hb1)) hcv hs (by omega))
  have hbl := (recsB_len hs.recs_ok).2
  have hrl : s.recs.length = s.es.length + 2 := by simp [WS.recs]
  have HBL := Aside0.mk (show s.bytes.length ≤ 2000000000 from by unfold WS.bytes; omega)
  obtain ⟨b, hb⟩ : ∃ b, s.bytes = b := ⟨_, rfl⟩
  have HBT2 : Aside0 (Calls Try.prog 98 #[.agg #[.int .i64 s.bi, .int .i64 s.bt, .int .i64 s.ht, .int .i64 s.hv, .slice Av s.es.length cv]] w1 fun e w' => ∃ v1, e = .returned v1 ∧ k8.R 5 w' w1.heap.size (fun _ => True) v1 b ∧ Below w1.heap.size w1 w') := ⟨by rw [← hb]; exact HBT.out⟩
  rw [hb] at hw HBL
  have HBE := Aside0.mk hb
  rw [hb] at HSY HRN HD4
  have HWR := Aside0.mk hw
  clear h hs hF hb1 hbk hbl hr HBT hw hrl hn hm hD4 hnm hD5
  go_enter Try.func67, Try.ntmps67
  go_upto_region 1 with (fail)
  rw [← hw1]
  clear hw1
  go_wp2_with fail
  refine HBT2.out.mono ?_
  rintro e1 w2 ⟨vb, rfl, hr2, hb2⟩
  obtain ⟨Ab, cb, rfl⟩ := Kd.R_slice hr2
  have HW2 := Aside0.mk (HBY.out.below hb2)
  have HBK2 := Aside0.mk ((hb2.block _ (blk_lt HBK.out)).trans HBK.out)
  have HR2 := Aside0.mk (Kd.R_reads' hr2)
  have HNS := Aside0.mk (show ∀ ad, Ab = some ad → 0 < b.length → ¬ S ad.block from fun ad e hn hS => by
    subst e
    have h1 := (Kd.R_bound hr2).1 ad.block (by simp [Value.ownBlock])
    have h2 := (HBY.out.dk.2.1 _ hS).2
    have h3 := h1.2.1
    omega)
  obtain ⟨l0, l6, l7⟩ := HW2.out.cell0
  have HY2 := Aside0.mk (By.new (S := S) (L := L) (b := W.heap.size) (fun k hk => HLS.out.1 k hk) HLS.out.2 (Nat.le_refl _) HBK2.out)
  have HBB := Aside0.mk (Bys.of_below (S := S) (L := L) (below_step HB1.out hb2))
  clear hr2 hb2 m0 m1 m2 m3 m4
  go_wp2_with fail
  refine (dk_write (s := tmpB) HW2.out.dk (by omega) (by decide) HR2.out.2.2 HR2.out.2.1 (by have := HBL.out; omega) HNS.out).mono ?_
  rintro e2 w3 ⟨rfl, hnx⟩
  rw [HWR.out]
  obtain ⟨S3, hw3, hB3⟩ := HW2.out.dstep hnx
  have HW3 := Aside0.mk hw3
  have HB3 := Aside0.mk hB3
  obtain ⟨k0, k6, k7⟩ := hw3.cell0
  clear hw3 hB3 l0 l6 l7 hnx
  go_wp2_with fail
  refine (dk_sync (s := tmpB) HW3.out.dk (by omega) (by decide)).mono ?_
  rintro e2 w4 ⟨rfl, hnx⟩
  rw [HSY.out]
  obtain ⟨S4, hw4, hB4⟩ := HW3.out.dstep hnx
  have HW4 := Aside0.mk (hw4.below (below_drew1 (Below.refl _ _)))
  have HB4 := Aside0.mk ((HB3.out.trans hB4).trans (Bys.of_below (below_drew1 (Below.refl _ _))))
  obtain ⟨l0, l6, l7⟩ := hw4.cell0
  rw [HN.out] at l6
  have HNA := Aside0.mk (show 0 ≤ n + 1 ∧ n + 1 ≤ 1099511627776 from ⟨hz1, by omega⟩)
  have HNB := Aside0.mk (show 0 ≤ n ∧ n ≤ 1099511627776 from ⟨by omega, by omega⟩)
  clear hw4 hB4 k0 k6 k7 hnx
  go_wp2_with fail
  go_region_held3 (fun w' => w'.cell? ⟨L, 0, none⟩ = some (.pointer (some ⟨g, 0, none⟩)) ∧ w'.cell? ⟨L, 6, none⟩ = some (.int .i64 n)) (first | go_keep | exact HC5.out) (first
    | (go_at_call 91; refine (name_calls HNA.out).mono ?_; rintro e w' ⟨rfl, rfl⟩)
    | (go_at_call 31; refine (dk_rename (s := tmpB) (t := nameB (n + 1)) HW4.out.dk (by decide) (name_size _)).mono ?_; rintro e w5 ⟨rfl, hnx⟩; rw [HRN.out]; obtain ⟨S5, hw5, hB5⟩ := HW4.out.dstep hnx; have hc5 := hw5.cell0; rw [HN.out] at hc5; have HC5 := Aside0.mk (And.intro hc5.1 hc5.2.1); have HW5 := Aside0.mk hw5; have HB5 := Aside0.mk (HB4.out.trans hB5); clear hnx hw5 hB5 hc5))
  rw [HD4.out] at HW5
  by_cases hn1 : 0 < n
  · have c1 : decide (0 < n) = true := decide_eq_true hn1
    have hd5 : (dRemove D4 (nameB n)).2 = D5 := by rw [← HD5.out, if_pos hn1]
    have HE5 := Aside0.mk hd5
    clear hd5
    have HW5d := Aside0.mk (HW5.out.below (below_drew1 (Below.refl _ _)))
    have HB5d := Aside0.mk (HB5.out.trans (Bys.of_below (below_drew1 (Below.refl _ _))))
    obtain ⟨o0, o6⟩ := HC5.out
    go_wp2_with fail
    go_region_held3 (fun w' => w'.cell? ⟨L, 0, none⟩ = some (.pointer (some ⟨g, 0, none⟩)) ∧ w'.cell? ⟨L, 6, none⟩ = some (.int .i64 n)) (first | go_keep | exact HC6.out) (first
      | (go_at_call 91; refine (name_calls HNB.out).mono ?_; rintro e w' ⟨rfl, rfl⟩)
      | (go_at_call 34; refine (dk_remove (s := nameB n) HW5d.out.dk (name_size _)).mono ?_; rintro e w6 ⟨rfl, hnx⟩; obtain ⟨S6, hw6, hB6⟩ := HW5d.out.dstep hnx; have hc6 := hw6.cell0; rw [HN.out] at hc6; have HC6 := Aside0.mk (And.intro hc6.1 hc6.2.1); have HW6 := Aside0.mk hw6; have HB6 := Aside0.mk (HB5d.out.trans hB6); clear hnx hw6 hB6 hc6))
    rw [HE5.out] at HW6
    have HY6 := Aside0.mk (HB6.out.keep _ _ HY2.out)
    obtain ⟨AL, cL, hbL, hcL, hFL⟩ := HW6.out.cells
    have p1 : w6.cell? ⟨L, 1, none⟩ = some (.int .i64 M.st.bi) := blk_cell hbL 1
    have p2 : w6.cell? ⟨L, 2, none⟩ = some (.int .i64 M.st.bt) := blk_cell hbL 2
    have p3 : w6.cell? ⟨L, 3, none⟩ = some (.int .i64 M.st.ht) := blk_cell hbL 3
    have p4 : w6.cell? ⟨L, 4, none⟩ = some (.int .i64 M.st.hv) := blk_cell hbL 4
    have p5 : w6.cell? ⟨L, 5, none⟩ = some (.slice AL M.st.es.length cL) := blk_cell hbL 5
    have p6 := HC6.out.2
    have p7 : w6.cell? ⟨L, 7, none⟩ = some (.int .i64 M.sz) := blk_cell hbL 7
    have pf := blk_frozen hbL
    clear hbL hcL hFL
    have y0 : w6.cell? ⟨W.heap.size, 0, none⟩ = some (.int .i64 s.bi) := blk_cell HY6.out.at_ 0
    have y1 : w6.cell? ⟨W.heap.size, 1, none⟩ = some (.int .i64 s.bt) := blk_cell HY6.out.at_ 1
    have y2 : w6.cell? ⟨W.heap.size, 2, none⟩ = some (.int .i64 s.ht) := blk_cell HY6.out.at_ 2
    have y3 : w6.cell? ⟨W.heap.size, 3, none⟩ = some (.int .i64 s.hv) := blk_cell HY6.out.at_ 3
    have y4 : w6.cell? ⟨W.heap.size, 4, none⟩ = some (.slice Av s.es.length cv) := blk_cell HY6.out.at_ 4
    clear o0 o6
    go_wp2_with fail
    go_region
    go_wp2_with fail
    go_ret
    obtain ⟨S7, hw7, hB7⟩ := anew_fin (n' := n + 1) (sz' := b.length) HW6.out (HVQ.out w6 S6 (HBB.out.trans HB6.out))
    exact ⟨rfl, S7, Q, by rw [HBE.out]; exact hw7, (HBB.out.trans HB6.out).trans hB7, fun _ _ h => h⟩
  · have c1 : decide (0 < n) = false := decide_eq_false hn1
    have hd5 : D4 = D5 := by rw [← HD5.out, if_neg hn1]
    rw [hd5] at HW5
    have HY5 := Aside0.mk (HB5.out.keep _ _ HY2.out)
    obtain ⟨AL, cL, hbL, hcL, hFL⟩ := HW5.out.cells
    have p1 : w5.cell? ⟨L, 1, none⟩ = some (.int .i64 M.st.bi) := blk_cell hbL 1
    have p2 : w5.cell? ⟨L, 2, none⟩ = some (.int .i64 M.st.bt) := blk_cell hbL 2
    have p3 : w5.cell? ⟨L, 3, none⟩ = some (.int .i64 M.st.ht) := blk_cell hbL 3
    have p4 : w5.cell? ⟨L, 4, none⟩ = some (.int .i64 M.st.hv) := blk_cell hbL 4
    have p5 : w5.cell? ⟨L, 5, none⟩ = some (.slice AL M.st.es.length cL) := blk_cell hbL 5
    have p6 := HC5.out.2
    have p7 : w5.cell? ⟨L, 7, none⟩ = some (.int .i64 M.sz) := blk_cell hbL 7
    have pf := blk_frozen hbL
    have y0 : w5.cell? ⟨W.heap.size, 0, none⟩ = some (.int .i64 s.bi) := blk_cell HY5.out.at_ 0
    have y1 : w5.cell? ⟨W.heap.size, 1, none⟩ = some (.int .i64 s.bt) := blk_cell HY5.out.at_ 1
    have y2 : w5.cell? ⟨W.heap.size, 2, none⟩ = some (.int .i64 s.ht) := blk_cell HY5.out.at_ 2
    have y3 : w5.cell? ⟨W.heap.size, 3, none⟩ = some (.int .i64 s.hv) := blk_cell HY5.out.at_ 3
    have y4 : w5.cell? ⟨W.heap.size, 4, none⟩ = some (.slice Av s.es.length cv) := blk_cell HY5.out.at_ 4
    clear hbL hcL hFL hd5
    go_wp2_with fail
    go_region
    go_wp2_with fail
    go_ret
    obtain ⟨S7, hw7, hB7⟩ := anew_fin (n' := n + 1) (sz' := b.length) HW5.out (HVQ.out w5 S5 (HBB.out.trans HB5.out))
    exact ⟨rfl, S7, Q, by rw [HBE.out]; exact hw7, (HBB.out.trans HB5.out).trans hB7, fun _ _ h => h⟩
theorem anew_calls {W0 W : World} {S Q : Nat → Prop} {g N L : Nat} {D : Dsk} {M : LM} {s : WS} {v : Value} (h : Wl W0 W S Q g N L D M) (hN : N ≤ 900000) (hs : WOk s) (hsl : s.es.length ≤ 500000) (hV : Kd.V k48 48 W 0 (fun k => Q k ∧ k ≠ L) v s.es) (hm : MOk M) (hnm : namedB (nameB (M.n + 1)) = true) :
    Calls Try.prog 67 #[.pointer (some ⟨L, 0, none⟩), .agg #[.int .i64 s.bi, .int .i64 s.bt, .int .i64 s.ht, .int .i64 s.hv, v]] W (ErrP W0 W S Q g (N + 1) L (lgAnew D M s)) := by
  by_cases hw : (dWrite D tmpB 0 s.bytes).1 = 0
  · exact anew_ok h hN hs hsl hV hw hm hnm
  · exact anew_bad h hN hs hsl hV hw
end Go.Proofs.Ytmmiipnmimjojaa.PS
end
section
/- wal.Log: put. -/
namespace Go.Proofs.Ytmmiipnmimjojaa.PS
open Go.RowKit Go.Proofs.YtmmiipnmimjojaaW.PrintWords Go.Proofs.YtmmiipnmimjojaaW.PrintLast Go.Proofs.YtmmiipnmimjojaaW.PrintMore
open Go.Maps Go.Proofs.Ytmmiipnmimjojaa.PD
set_option linter.unusedVariables false
set_option linter.unusedSimpArgs false
theorem write_len {D : Dsk} {s : ByteArray} {a : Int} {b : List Int} (h : (dWrite D s a b).1 = 0) : 0 ≤ a ∧ a + b.length ≤ 262144 := by
  unfold dWrite at h
  by_cases h1 : namedB s = false
  · rw [if_pos h1] at h; cases h
  · rw [if_neg h1] at h
    unfold dW2 at h
    split at h
    · cases h
    · next h2 =>
      split at h
      · cases h
      · next h3 => unfold moreB at h3; omega
theorem mok_anew {D : Dsk} {M : LM} {s : WS} (hm : MOk M) (hn : M.n ≤ 900000000) (hs : WOk s) (hsl : s.es.length ≤ 500000) : MOk (mAnew D M s) := by
  unfold mAnew
  by_cases h : (dWrite D tmpB 0 s.bytes).1 = 0
  · rw [if_pos h]
    have := write_len h
    have h0 := hm.n
    exact ⟨hs, hsl, ⟨by dsimp only; omega, by dsimp only; omega⟩, ⟨by dsimp only; omega, by dsimp only; omega⟩⟩
  · rw [if_neg h]; exact hm
theorem F_bys {W w' : World} {S S' : Nat → Prop} {L n : Nat} {A : Option Addr} {b : List Int} (h : Bys W S w' S' L) (hF : Kd.F k8 W (fun k => (¬ S k ∧ k ≠ L) ∧ k < W.heap.size) A n b) (hsz : W.heap.size ≤ w'.heap.size) : Kd.F k8 w' (fun k => (¬ S' k ∧ k ≠ L) ∧ k < w'.heap.size) A n b :=
  Kd.F_mono (Kd.F_step hF fun k hk hlt => (h.step hlt hk.1.1 hk.1.2).1) (fun k hk => ⟨⟨(h.step hk.2 hk.1.1 hk.1.2).2, hk.1.2⟩, Nat.lt_of_lt_of_le hk.2 hsz⟩)
theorem F_notS {W : World} {S : Nat → Prop} {L n : Nat} {A : Option Addr} {b : List Int} (hF : Kd.F k8 W (fun k => (¬ S k ∧ k ≠ L) ∧ k < W.heap.size) A n b) : ∀ ad, A = some ad → 0 < n → ¬ S ad.block := fun ad e hn => by
  obtain ⟨ad', c, e', _, _, _, h⟩ := Kd.F_get hF 0 0 (Int.le_refl 0) (by omega)
  rw [e] at e'
  cases e'
  exact (h (by show 0 < 1; decide)).1.1
theorem Wl.cell1 {W0 W : World} {S Q : Nat → Prop} {g N L : Nat} {D : Dsk} {M : LM} (h : Wl W0 W S Q g N L D M) : ∃ A c, (W.cell? ⟨L, 1, none⟩ = some (.int .i64 M.st.bi) ∧ W.cell? ⟨L, 2, none⟩ = some (.int .i64 M.st.bt) ∧ W.cell? ⟨L, 3, none⟩ = some (.int .i64 M.st.ht) ∧ W.cell? ⟨L, 4, none⟩ = some (.int .i64 M.st.hv) ∧
    W.cell? ⟨L, 5, none⟩ = some (.slice A M.st.es.length c)) ∧ Kd.V k48 48 W 0 (fun k => Q k ∧ k ≠ L) (.slice A M.st.es.length c) M.st.es := by
  obtain ⟨A, c, hb, hc, hF⟩ := h.cells
  exact ⟨A, c, ⟨blk_cell hb 1, blk_cell hb 2, blk_cell hb 3, blk_cell hb 4, blk_cell hb 5⟩, A, c, rfl, hc, hF⟩
theorem Wl.size0 {W0 W w' : World} {S Q S' : Nat → Prop} {g N N' L : Nat} {D D' : Dsk} {M M' : LM} {Q' : Nat → Prop} (h : Wl W0 W S Q g N L D M) (hB : Bys W S w' S' L) : True := trivial
/-- The size is raised. -/
theorem Wl.raise {W0 W : World} {S Q : Nat → Prop} {g N L : Nat} {D : Dsk} {M : LM} (h : Wl W0 W S Q g N L D M) (z : Int) : AfW W0 W S Q g N L D { M with sz := z } (W.setCell ⟨L, 7, none⟩ (.int .i64 z)) := by
  obtain ⟨hQ, v, hb, hv⟩ := h.lg
  refine h.setL (M' := { M with sz := z }) hv (kp_set (Kp.refl W (fun k => k = L)) 7 _) ?_
  have h1 := blk_set hb 7 (.int .i64 z)
  rw [h1]
  unfold lgC
  simp
set_option maxHeartbeats 4000000 in
set_option maxRecDepth 100000 in
theorem put_calls {W0 W : World} {S Q : Nat → Prop} {g N L : Nat} {D : Dsk} {M : LM} {b : List Int} {Ab : Option Addr} {cb : Nat} (h : Wl W0 W S Q g N L D M) (hm : MOk M) (hN : N ≤ 800000) (hn : M.n ≤ 900000000) (hnm : namedB (nameB (M.n + 1)) = true)
    (hF : Kd.F k8 W (fun k => (¬ S k ∧ k ≠ L) ∧ k < W.heap.size) Ab b.length b) (hc : b.length ≤ cb) (hbl : b.length ≤ 2000000000) :
    Calls Try.prog 72 #[.pointer (some ⟨L, 0, none⟩), .slice Ab b.length cb] W (ErrP W0 W S Q g (N + 2) L (lgPut D M b)) := by
  have hsz0 := hm.sz
  obtain ⟨l00, l66, l77⟩ := h.cell0
  have hwz : IntKind.i64.wrap (M.sz + (b.length : Int)) = M.sz + b.length := IntWalk.i64_in _ ⟨by omega, by omega⟩
  by_cases hbig : 262144 < M.sz + (b.length : Int)
  · have c1 : decide (262144 < M.sz + (b.length : Int)) = true := decide_eq_true hbig
    obtain ⟨e0, he0⟩ : ∃ e0, (lgAnew D M M.st).1 = e0 := ⟨_, rfl⟩
    have HE0 := Aside0.mk he0
    obtain ⟨A1, c1', ⟨k1, k2, k3, k4, k5⟩, hV⟩ := h.cell1
    have HAN := Aside0.mk (anew_calls h (by omega) hm.st hm.few hV hm hnm)
    have HF := Aside0.mk hF
    have HM := Aside0.mk (mok_anew (D := D) hm hn hm.st hm.few)
    have HSZ := Aside0.mk h.dk.1.size
    have hP : lgPut D M b = if e0 = 0 then lgPut1 (lgAnew D M M.st).2.1 (lgAnew D M M.st).2.2 b else lgAnew D M M.st := by
      unfold lgPut
      rw [if_pos hbig, he0]
    have HPP := Aside0.mk hP
    obtain ⟨R, hR⟩ : ∃ R, lgPut D M b = R := ⟨_, rfl⟩
    rw [hR] at HPP ⊢
    have HLT := Aside0.mk h.lt
    by_cases hz0 : e0 = 0
    · have t1 : (e0 == 0) = true := by rw [hz0]; rfl
      have t2 : (e0 != 0) = false := by simp [bne, t1]
      have HR := Aside0.mk (show R = lgPut1 (lgAnew D M M.st).2.1 (lgAnew D M M.st).2.2 b by rw [HPP.out, if_pos hz0])
      obtain ⟨D1, hD1⟩ : ∃ D1, (lgAnew D M M.st).2.1 = D1 := ⟨_, rfl⟩
      obtain ⟨M1, hM1⟩ : ∃ M1, (lgAnew D M M.st).2.2 = M1 := ⟨_, rfl⟩
      rw [hD1, hM1] at HR
      have HDM := Aside0.mk (And.intro hD1 hM1)
      have HM1 : Aside0 (MOk M1) := ⟨by rw [← hM1]; exact HM.out⟩
      clear hbig he0 hV hF h hm hP hR hz0 hD1 hM1
      go_enter Try.func72, Try.ntmps72
      go_wp2_with fail
      refine HAN.out.mono ?_
      rintro e9 w1 ⟨rfl, S1, Q1, hw1, hB1, hq1⟩
      rw [HE0.out]
      rw [HDM.out.1, HDM.out.2] at hw1
      have HWX := Aside0.mk hw1
      have HMX := HM1
      have hws : W.heap.size ≤ w1.heap.size := hB1.size
      have HFX := Aside0.mk (F_bys hB1 HF.out hws)
      have HNX := Aside0.mk (show N + 1 ≤ 1000000 by omega)
      have HB1 := Aside0.mk hB1
      have HQ1 := Aside0.mk hq1
      clear hw1 hB1 hq1 l00 l66 l77 k1 k2 k3 k4 k5
      go_wp2_with fail
      obtain ⟨e, he⟩ : ∃ e, (dWrite D1 (nameB M1.n) M1.sz b).1 = e := ⟨_, rfl⟩
      have HE := Aside0.mk he
      have HWD := Aside0.mk (HWX.out.below (below_drew1 (Below.refl _ _)))
      have HFL := Aside0.mk (HWD.out.file HMX.out)
      have HFD := Aside0.mk (Kd.F_mono (Kd.F_drew HFX.out) (ok' := fun k => (¬ S1 k ∧ k ≠ L) ∧ k < (w1.drew).heap.size) (fun k hk => hk))
      obtain ⟨z, hz⟩ : ∃ z, M1.sz = z := ⟨_, rfl⟩
      obtain ⟨nn, hnn⟩ : ∃ nn, nameB M1.n = nn := ⟨_, rfl⟩
      have HNSZ := Aside0.mk (name_size M1.n)
      obtain ⟨l0, l6, l7⟩ := HWX.out.cell0
      have hzb := HMX.out.sz
      rw [hz] at he l7 hzb
      rw [hnn] at HFL HNSZ he
      have HZ := Aside0.mk hz
      have HNN := Aside0.mk hnn
      have HEE := Aside0.mk he
      have HWR := Aside0.mk (dk_write (s := nn) (at_ := z) HWD.out.dk HNX.out HNSZ.out (Kd.F_now HFD.out) hc (by omega) (F_notS HFD.out))
      rw [he] at HWR
      clear he hz hnn
      go_wp2_with fail
      go_region_held3 (fun w' => w'.cell? ⟨L, 0, none⟩ = some (.pointer (some ⟨g, 0, none⟩)) ∧ w'.cell? ⟨L, 7, none⟩ = some (.int .i64 z)) (first | go_keep | exact HC5.out) (first
        | (go_at_call 50; refine HFL.out.mono ?_; rintro e w' ⟨rfl, rfl⟩)
        | (go_at_call 20; refine HWR.out.mono ?_; rintro e5 w5 ⟨rfl, hnx⟩; obtain ⟨S5, hw5, hB5⟩ := HWD.out.dstep hnx; have hc5 := hw5.cell0; rw [HZ.out] at hc5; have HC5 := Aside0.mk (And.intro hc5.1 hc5.2.2); have HW5 := Aside0.mk hw5; have HB5 := Aside0.mk ((Bys.of_below (S := S1) (L := L) (below_drew1 (Below.refl w1.heap.size w1))).trans hB5); clear hnx hw5 hB5 hc5))
      have hz1 : IntKind.i64.wrap (z + (b.length : Int)) = z + b.length := IntWalk.i64_in _ ⟨by omega, by omega⟩
      obtain ⟨o0, o7⟩ := HC5.out
      by_cases he0 : e = 0
      · have t1 : (e == 0) = true := by rw [he0]; rfl
        have t2 : (e != 0) = false := by simp [bne, t1]
        have HE0 := Aside0.mk he0
        obtain ⟨AL, cL, hbL, _⟩ := HW5.out.cells
        have of7 := blk_frozen hbL 7
        clear he0 hbL
        go_wp2_with fail
        go_ret
        obtain ⟨S6, hw6, hB6⟩ := HW5.out.raise (z + b.length)
        refine ⟨?_, S6, Q1, ?_, (HB1.out.trans HB5.out).trans hB6, HQ1.out⟩
        · rw [HR.out]; unfold lgPut1; dsimp only; rw [HNN.out, HZ.out, HEE.out, HE0.out]; rfl
        · rw [HR.out]; unfold lgPut1; dsimp only; rw [HNN.out, HZ.out, HEE.out, if_pos HE0.out]; exact hw6
      · have t1 : (e == 0) = false := beq_eq_false_iff_ne.mpr he0
        have t2 : (e != 0) = true := by simp [bne, t1]
        have HE0 := Aside0.mk he0
        clear he0
        go_wp2_with fail
        go_ret
        refine ⟨?_, S5, Q1, ?_, HB1.out.trans HB5.out, HQ1.out⟩
        · rw [HR.out]; unfold lgPut1; dsimp only; rw [HNN.out, HZ.out, HEE.out]; rfl
        · rw [HR.out]; unfold lgPut1; dsimp only; rw [HNN.out, HZ.out, HEE.out, if_neg HE0.out]; exact HW5.out
    · have t1 : (e0 == 0) = false := beq_eq_false_iff_ne.mpr hz0
      have t2 : (e0 != 0) = true := by simp [bne, t1]
      have HR := Aside0.mk (show R = lgAnew D M M.st by rw [HPP.out, if_neg hz0])
      clear hbig he0 hV hF h hm hP hR hz0
      go_enter Try.func72, Try.ntmps72
      go_wp2_with fail
      refine HAN.out.mono ?_
      rintro e9 w1 ⟨rfl, S1, Q1, hw1, hB1, hq1⟩
      rw [HE0.out]
      have HW1 := Aside0.mk (hw1.mono (Nat.le_succ (N + 1)))
      have HB1 := Aside0.mk hB1
      have HQ1 := Aside0.mk hq1
      clear hw1 hB1 hq1
      go_wp2_with fail
      go_ret
      rw [HR.out]
      exact ⟨by rw [HE0.out]; rfl, S1, Q1, HW1.out, HB1.out, HQ1.out⟩
  · have c1 : decide (262144 < M.sz + (b.length : Int)) = false := decide_eq_false hbig
    have HR := Aside0.mk (show lgPut D M b = lgPut1 D M b by unfold lgPut; rw [if_neg hbig])
    obtain ⟨R, hR⟩ : ∃ R, lgPut D M b = R := ⟨_, rfl⟩
    rw [hR] at HR ⊢
    have HWX := Aside0.mk h
    have HMX := Aside0.mk hm
    have HFX := Aside0.mk hF
    have HNX := Aside0.mk (show N ≤ 1000000 by omega)
    clear hF h hm hbig hR
    go_enter Try.func72, Try.ntmps72
    go_wp2_with fail
    clear l00 l66 l77
    obtain ⟨e, he⟩ : ∃ e, (dWrite D (nameB M.n) M.sz b).1 = e := ⟨_, rfl⟩
    have HE := Aside0.mk he
    have HWD := Aside0.mk (HWX.out.below (below_drew1 (Below.refl _ _)))
    have HFL := Aside0.mk (HWD.out.file HMX.out)
    have HFD := Aside0.mk (Kd.F_mono (Kd.F_drew HFX.out) (ok' := fun k => (¬ S k ∧ k ≠ L) ∧ k < (W.drew).heap.size) (fun k hk => hk))
    obtain ⟨z, hz⟩ : ∃ z, M.sz = z := ⟨_, rfl⟩
    obtain ⟨nn, hnn⟩ : ∃ nn, nameB M.n = nn := ⟨_, rfl⟩
    have HNSZ := Aside0.mk (name_size M.n)
    obtain ⟨l0, l6, l7⟩ := HWX.out.cell0
    have hzb := HMX.out.sz
    rw [hz] at he l7 hzb
    rw [hnn] at HFL HNSZ he
    have HZ := Aside0.mk hz
    have HNN := Aside0.mk hnn
    have HEE := Aside0.mk he
    have HWR := Aside0.mk (dk_write (s := nn) (at_ := z) HWD.out.dk HNX.out HNSZ.out (Kd.F_now HFD.out) hc (by omega) (F_notS HFD.out))
    rw [he] at HWR
    clear he hz hnn
    go_wp2_with fail
    go_region_held3 (fun w' => w'.cell? ⟨L, 0, none⟩ = some (.pointer (some ⟨g, 0, none⟩)) ∧ w'.cell? ⟨L, 7, none⟩ = some (.int .i64 z)) (first | go_keep | exact HC5.out) (first
      | (go_at_call 50; refine HFL.out.mono ?_; rintro e w' ⟨rfl, rfl⟩)
      | (go_at_call 20; refine HWR.out.mono ?_; rintro e5 w5 ⟨rfl, hnx⟩; obtain ⟨S5, hw5, hB5⟩ := HWD.out.dstep hnx; have hc5 := hw5.cell0; rw [HZ.out] at hc5; have HC5 := Aside0.mk (And.intro hc5.1 hc5.2.2); have HW5 := Aside0.mk hw5; have HB5 := Aside0.mk ((Bys.of_below (S := S) (L := L) (below_drew1 (Below.refl W.heap.size W))).trans hB5); clear hnx hw5 hB5 hc5))
    have hz1 : IntKind.i64.wrap (z + (b.length : Int)) = z + b.length := IntWalk.i64_in _ ⟨by omega, by omega⟩
    obtain ⟨o0, o7⟩ := HC5.out
    by_cases he0 : e = 0
    · have t1 : (e == 0) = true := by rw [he0]; rfl
      have t2 : (e != 0) = false := by simp [bne, t1]
      have HE0 := Aside0.mk he0
      obtain ⟨AL, cL, hbL, _⟩ := HW5.out.cells
      have of7 := blk_frozen hbL 7
      clear he0 hbL
      go_wp2_with fail
      go_ret
      obtain ⟨S6, hw6, hB6⟩ := HW5.out.raise (z + b.length)
      refine ⟨?_, S6, Q, ?_, HB5.out.trans hB6, fun _ _ h => h⟩
      · rw [HR.out]; unfold lgPut1; dsimp only; rw [HNN.out, HZ.out, HEE.out, HE0.out]; rfl
      · rw [HR.out]; unfold lgPut1; dsimp only; rw [HNN.out, HZ.out, HEE.out, if_pos HE0.out]; exact hw6.mono (Nat.le_succ _)
    · have t1 : (e == 0) = false := beq_eq_false_iff_ne.mpr he0
      have t2 : (e != 0) = true := by simp [bne, t1]
      have HE0 := Aside0.mk he0
      clear he0
      go_wp2_with fail
      go_ret
      refine ⟨?_, S5, Q, ?_, HB5.out, fun _ _ h => h⟩
      · rw [HR.out]; unfold lgPut1; dsimp only; rw [HNN.out, HZ.out, HEE.out]; rfl
      · rw [HR.out]; unfold lgPut1; dsimp only; rw [HNN.out, HZ.out, HEE.out, if_neg HE0.out]; exact HW5.out.mono (Nat.le_succ _)
end Go.Proofs.Ytmmiipnmimjojaa.PS
end
section
-- written by wip/mkprint.py of this work
namespace Go.Proofs.Ytmmiipnmimjojaa.PS
open Go.RowKit Go.Proofs.YtmmiipnmimjojaaW.PrintWords Go.Proofs.YtmmiipnmimjojaaW.PrintLast Go.Proofs.YtmmiipnmimjojaaW.PrintMore
attribute [local go_sem] max2_int min2_int max_two min_two max_three min_three max_four min_four   -- for this text's walks alone
set_option linter.unusedVariables false
set_option linter.unusedSimpArgs false

theorem eqA81 (d : Nat) (w : World) (x0 y0 : Int) (x1 y1 : Int) :
    (Op.equalIn (d + 2) 81 (.agg #[.int .i64 x0, .int .i64 x1]) (.agg #[.int .i64 y0, .int .i64 y1])).run Try.prog w = .ok (x0 == y0 && (x1 == y1)) w := by
  refine eqA_of Try.underlying81 (by kernel_rfl) ?_
  refine eqf_cons (by rfl) (by go_simp; rfl) (by go_simp; rfl) (by go_simp) ?_
  exact eqf_last (by rfl) (by go_simp; rfl) (by go_simp; rfl) (by go_simp)
end Go.Proofs.Ytmmiipnmimjojaa.PS
end
section
-- written by wip/mkprint.py of this work
namespace Go.Proofs.Ytmmiipnmimjojaa.PS
open Go.RowKit Go.Proofs.YtmmiipnmimjojaaW.PrintWords Go.Proofs.YtmmiipnmimjojaaW.PrintLast Go.Proofs.YtmmiipnmimjojaaW.PrintMore
attribute [local go_sem] max2_int min2_int max_two min_two max_three min_three max_four min_four   -- for this text's walks alone
set_option linter.unusedVariables false
set_option linter.unusedSimpArgs false

theorem eqA83 (d : Nat) (w : World) (x0 y0 : Int) (x1 y1 : Int) :
    (Op.equalIn (d + 2) 83 (.agg #[.int .i64 x0, .int .i64 x1]) (.agg #[.int .i64 y0, .int .i64 y1])).run Try.prog w = .ok (x0 == y0 && (x1 == y1)) w := by
  refine eqA_of Try.underlying83 (by kernel_rfl) ?_
  refine eqf_cons (by rfl) (by go_simp; rfl) (by go_simp; rfl) (by go_simp) ?_
  exact eqf_last (by rfl) (by go_simp; rfl) (by go_simp; rfl) (by go_simp)
end Go.Proofs.Ytmmiipnmimjojaa.PS
end
section
-- written by wip/mkprint.py of this work
namespace Go.Proofs.Ytmmiipnmimjojaa.PS
open Go.RowKit Go.Proofs.YtmmiipnmimjojaaW.PrintWords Go.Proofs.YtmmiipnmimjojaaW.PrintLast Go.Proofs.YtmmiipnmimjojaaW.PrintMore
attribute [local go_sem] max2_int min2_int max_two min_two max_three min_three max_four min_four   -- for this text's walks alone
set_option linter.unusedVariables false
set_option linter.unusedSimpArgs false

/-! ### tollgateref02_SameEntry: function 108 -/
def tollgateref02_SameEntry.f (a0_0 : Int) (a0_1 : Int) (a0_2 : Int) (l0_3 : List Int) (a1_0 : Int) (a1_1 : Int) (a1_2 : Int) (l1_3 : List Int) : Option (Bool) := if a0_0 = a1_0 then (if a0_1 = a1_1 then (if a0_2 = a1_2 then (some ((strOfNums l0_3).toList == (strOfNums l1_3).toList)) else (some false)) else (some false)) else (some false)
set_option maxHeartbeats 8000000 in
set_option maxRecDepth 100000 in
theorem tollgateref02_SameEntry.calls (a0_0 : Int) (a0_1 : Int) (a0_2 : Int) (A0_3 : Option Addr) (c0_3 : Nat) (l0_3 : List Int) (a1_0 : Int) (a1_1 : Int) (a1_2 : Int) (A1_3 : Option Addr) (c1_3 : Nat) (l1_3 : List Int) (r : Bool) (w : World) (hr0_3 : Kd.C (Kd.int .u8) w A0_3 l0_3.length l0_3) (hc0_3 : l0_3.length ≤ c0_3) (hr1_3 : Kd.C (Kd.int .u8) w A1_3 l1_3.length l1_3) (hc1_3 : l1_3.length ≤ c1_3) (h : tollgateref02_SameEntry.f a0_0 a0_1 a0_2 l0_3 a1_0 a1_1 a1_2 l1_3 = some r) :
    Calls Try.prog 108 #[.agg #[.int .i64 a0_0, .int .i64 a0_1, .int .i64 a0_2, .slice A0_3 l0_3.length c0_3], .agg #[.int .i64 a1_0, .int .i64 a1_1, .int .i64 a1_2, .slice A1_3 l1_3.length c1_3]] w fun e w' => e = .returned (.bool r) ∧ Below w.heap.size w w' := by
  have hu48 := Try.underlying48
  have HR0_3 := Aside0.mk hr0_3
  have HC0_3 := Aside0.mk hc0_3
  clear hr0_3 hc0_3
  have HR1_3 := Aside0.mk hr1_3
  have HC1_3 := Aside0.mk hc1_3
  clear hr1_3 hc1_3
  have HB := Aside0.mk (Below.refl w.heap.size w)
  have H : (if a0_0 = a1_0 then (if a0_1 = a1_1 then (if a0_2 = a1_2 then (some ((strOfNums l0_3).toList == (strOfNums l1_3).toList)) else (some false)) else (some false)) else (some false)) = some r := h
  clear h
  by_cases c3 : a0_0 = a1_0
  · rw [if_pos c3] at H
    have c3b0 : (a0_0 == a1_0) = true := beq_iff_eq.mpr c3
    have c3b1 : (a0_0 != a1_0) = false := bne_eq_false_iff_eq.mpr c3
    clear c3
    by_cases c4 : a0_1 = a1_1
    · rw [if_pos c4] at H
      have c4b0 : (a0_1 == a1_1) = true := beq_iff_eq.mpr c4
      have c4b1 : (a0_1 != a1_1) = false := bne_eq_false_iff_eq.mpr c4
      clear c4
      by_cases c5 : a0_2 = a1_2
      · rw [if_pos c5] at H
        have c5b0 : (a0_2 == a1_2) = true := beq_iff_eq.mpr c5
        have c5b1 : (a0_2 != a1_2) = false := bne_eq_false_iff_eq.mpr c5
        clear c5
        obtain rfl := Option.some.inj H
        go_enter Try.func108, Try.ntmps108
        go_wp2_with (first | ((with_reducible refine gate_dst (N := 2) rfl ?_); refine box_event ?hg (N := 2) ?hd (cs := #[.int .i64 a0_0, .int .i64 a0_1, .int .i64 a0_2, .slice A0_3 l0_3.length c0_3]) (t := 48) ?hr ?_; (case hd => rfl); (case hg => rfl); (case hr => first | (go_simp; done) | (go_simp; rfl)); intro gb247 hg w6 hbox hb; have n0_ := Aside0.mk (below_step (by repeat (first | (with_reducible first | exact HB.out | apply below_alloc | apply pw_below_drewN | apply below_drew1) | exact HB.out)) hb); have n1_ := Aside0.mk (hbox); have n2_ := Aside0.mk ((by rw [hg]; exact (below_size (by repeat (first | (with_reducible first | exact HB.out | apply below_alloc | apply pw_below_drewN | apply below_drew1) | exact HB.out))) : w.heap.size ≤ gb247)); have n3_ := Aside0.mk ((by rw [hg]; exact (below_size (by repeat (first | (with_reducible first | exact HB.out | apply below_alloc | apply pw_below_drewN | apply below_drew1) | exact HB.out))) : w.heap.size ≤ gb247)); clear HB; have HB := n0_; have BK247 := n1_; have GW247 := n2_; have GE247 := n3_; clear n0_ n1_ n2_ n3_; clear hb hbox hg) | ((with_reducible refine gate_dst (N := 3) rfl ?_); refine box_event ?hg (N := 3) ?hd (cs := #[.int .i64 a1_0, .int .i64 a1_1, .int .i64 a1_2, .slice A1_3 l1_3.length c1_3]) (t := 48) ?hr ?_; (case hd => rfl); (case hg => rfl); (case hr => first | (go_simp; done) | (go_simp; rfl)); intro gb248 hg w7 hbox hb; have n0_ := Aside0.mk (blk_below (g := gb247) (o := .cells #[.int .i64 a0_0, .int .i64 a0_1, .int .i64 a0_2, .slice A0_3 l0_3.length c0_3] 48 (0, 0)) (by (with_reducible repeat (first | refine blk_drewN ?_ _ | refine blk_drew ?_ | refine blk_alloc ?_ _)); exact BK247.out) hb); have n1_ := Aside0.mk (below_step (by repeat (first | (with_reducible first | exact HB.out | apply below_alloc | apply pw_below_drewN | apply below_drew1 | refine below_set ?_ GE247.out) | exact HB.out)) hb); have n2_ := Aside0.mk (hbox); have n3_ := Aside0.mk ((by rw [hg]; exact (below_size (by repeat (first | (with_reducible first | exact HB.out | apply below_alloc | apply pw_below_drewN | apply below_drew1 | refine below_set ?_ GE247.out) | exact HB.out))) : w.heap.size ≤ gb248)); have n4_ := Aside0.mk ((by rw [hg]; exact (below_size (by repeat (first | (with_reducible first | exact HB.out | apply below_alloc | apply pw_below_drewN | apply below_drew1 | refine below_set ?_ GE247.out) | exact HB.out))) : w.heap.size ≤ gb248)); have n5_ := Aside0.mk ((by rw [hg]; exact Nat.ne_of_lt (blk_lt (g := gb247) (o := .cells #[.int .i64 a0_0, .int .i64 a0_1, .int .i64 a0_2, .slice A0_3 l0_3.length c0_3] 48 (0, 0)) (by (with_reducible repeat (first | refine blk_drewN ?_ _ | refine blk_drew ?_ | refine blk_alloc ?_ _)); exact BK247.out)) : gb247 ≠ gb248)); have n6_ := Aside0.mk ((by rw [hg]; exact Nat.ne_of_gt (blk_lt (g := gb247) (o := .cells #[.int .i64 a0_0, .int .i64 a0_1, .int .i64 a0_2, .slice A0_3 l0_3.length c0_3] 48 (0, 0)) (by (with_reducible repeat (first | refine blk_drewN ?_ _ | refine blk_drew ?_ | refine blk_alloc ?_ _)); exact BK247.out)) : gb248 ≠ gb247)); clear BK247; clear HB; have BK247 := n0_; have HB := n1_; have BK248 := n2_; have GW248 := n3_; have GE248 := n4_; have NB247_248 := n5_; have NB248_247 := n6_; clear n0_ n1_ n2_ n3_ n4_ n5_ n6_; clear hb hbox hg; have hnb8 := NB247_248.out; have hnc8 := NB248_247.out; have hcz9_0 : w7.cell? ⟨gb247, 0, none⟩ = some (.int .i64 a0_0) := (blk_cell BK247.out 0).trans rfl; have hcz9_1 : w7.cell? ⟨gb247, 1, none⟩ = some (.int .i64 a0_1) := (blk_cell BK247.out 1).trans rfl; have hcz9_2 : w7.cell? ⟨gb247, 2, none⟩ = some (.int .i64 a0_2) := (blk_cell BK247.out 2).trans rfl; have hcz9_3 : w7.cell? ⟨gb247, 3, none⟩ = some (.slice A0_3 l0_3.length c0_3) := (blk_cell BK247.out 3).trans rfl; have hfz9_0 := blk_frozen BK247.out 0; have hfz9_1 := blk_frozen BK247.out 1; have hfz9_2 := blk_frozen BK247.out 2; have hfz9_3 := blk_frozen BK247.out 3; have hcz10_0 : w7.cell? ⟨gb248, 0, none⟩ = some (.int .i64 a1_0) := (blk_cell BK248.out 0).trans rfl; have hcz10_1 : w7.cell? ⟨gb248, 1, none⟩ = some (.int .i64 a1_1) := (blk_cell BK248.out 1).trans rfl; have hcz10_2 : w7.cell? ⟨gb248, 2, none⟩ = some (.int .i64 a1_2) := (blk_cell BK248.out 2).trans rfl; have hcz10_3 : w7.cell? ⟨gb248, 3, none⟩ = some (.slice A1_3 l1_3.length c1_3) := (blk_cell BK248.out 3).trans rfl; have hfz10_0 := blk_frozen BK248.out 0; have hfz10_1 := blk_frozen BK248.out 1; have hfz10_2 := blk_frozen BK248.out 2; have hfz10_3 := blk_frozen BK248.out 3; have hcv11 := Kd.C_string (P := Try.prog) (A := A0_3) (c := c0_3) Try.underlying22 Try.underlying5 Try.underlying9 (Kd.C_below HR0_3.out HB.out); have hcv12 := Kd.C_string (P := Try.prog) (A := A1_3) (c := c1_3) Try.underlying22 Try.underlying5 Try.underlying9 (Kd.C_below HR1_3.out HB.out)))
        go_ret
        exact ⟨by first | rfl | (simp [errW_none, errW_some] <;> rfl) | (simp [*, errW_none, errW_some] <;> rfl), by repeat (first | (with_reducible first | exact HB.out | apply below_alloc | apply pw_below_drewN | apply below_drew1 | refine below_set ?_ GE247.out | refine below_set ?_ GE248.out) | exact HB.out)⟩
      · rw [if_neg c5] at H
        have c5b0 : (a0_2 == a1_2) = false := beq_eq_false_iff_ne.mpr c5
        have c5b1 : (a0_2 != a1_2) = true := bne_iff_ne.mpr c5
        obtain rfl := Option.some.inj H
        go_enter Try.func108, Try.ntmps108
        go_wp2_with (first | ((with_reducible refine gate_dst (N := 2) rfl ?_); refine box_event ?hg (N := 2) ?hd (cs := #[.int .i64 a0_0, .int .i64 a0_1, .int .i64 a0_2, .slice A0_3 l0_3.length c0_3]) (t := 48) ?hr ?_; (case hd => rfl); (case hg => rfl); (case hr => first | (go_simp; done) | (go_simp; rfl)); intro gb247 hg w13 hbox hb; have n0_ := Aside0.mk (below_step (by repeat (first | (with_reducible first | exact HB.out | apply below_alloc | apply pw_below_drewN | apply below_drew1) | exact HB.out)) hb); have n1_ := Aside0.mk (hbox); have n2_ := Aside0.mk ((by rw [hg]; exact (below_size (by repeat (first | (with_reducible first | exact HB.out | apply below_alloc | apply pw_below_drewN | apply below_drew1) | exact HB.out))) : w.heap.size ≤ gb247)); have n3_ := Aside0.mk ((by rw [hg]; exact (below_size (by repeat (first | (with_reducible first | exact HB.out | apply below_alloc | apply pw_below_drewN | apply below_drew1) | exact HB.out))) : w.heap.size ≤ gb247)); clear HB; have HB := n0_; have BK247 := n1_; have GW247 := n2_; have GE247 := n3_; clear n0_ n1_ n2_ n3_; clear hb hbox hg) | ((with_reducible refine gate_dst (N := 3) rfl ?_); refine box_event ?hg (N := 3) ?hd (cs := #[.int .i64 a1_0, .int .i64 a1_1, .int .i64 a1_2, .slice A1_3 l1_3.length c1_3]) (t := 48) ?hr ?_; (case hd => rfl); (case hg => rfl); (case hr => first | (go_simp; done) | (go_simp; rfl)); intro gb248 hg w14 hbox hb; have n0_ := Aside0.mk (blk_below (g := gb247) (o := .cells #[.int .i64 a0_0, .int .i64 a0_1, .int .i64 a0_2, .slice A0_3 l0_3.length c0_3] 48 (0, 0)) (by (with_reducible repeat (first | refine blk_drewN ?_ _ | refine blk_drew ?_ | refine blk_alloc ?_ _)); exact BK247.out) hb); have n1_ := Aside0.mk (below_step (by repeat (first | (with_reducible first | exact HB.out | apply below_alloc | apply pw_below_drewN | apply below_drew1 | refine below_set ?_ GE247.out) | exact HB.out)) hb); have n2_ := Aside0.mk (hbox); have n3_ := Aside0.mk ((by rw [hg]; exact (below_size (by repeat (first | (with_reducible first | exact HB.out | apply below_alloc | apply pw_below_drewN | apply below_drew1 | refine below_set ?_ GE247.out) | exact HB.out))) : w.heap.size ≤ gb248)); have n4_ := Aside0.mk ((by rw [hg]; exact (below_size (by repeat (first | (with_reducible first | exact HB.out | apply below_alloc | apply pw_below_drewN | apply below_drew1 | refine below_set ?_ GE247.out) | exact HB.out))) : w.heap.size ≤ gb248)); have n5_ := Aside0.mk ((by rw [hg]; exact Nat.ne_of_lt (blk_lt (g := gb247) (o := .cells #[.int .i64 a0_0, .int .i64 a0_1, .int .i64 a0_2, .slice A0_3 l0_3.length c0_3] 48 (0, 0)) (by (with_reducible repeat (first | refine blk_drewN ?_ _ | refine blk_drew ?_ | refine blk_alloc ?_ _)); exact BK247.out)) : gb247 ≠ gb248)); have n6_ := Aside0.mk ((by rw [hg]; exact Nat.ne_of_gt (blk_lt (g := gb247) (o := .cells #[.int .i64 a0_0, .int .i64 a0_1, .int .i64 a0_2, .slice A0_3 l0_3.length c0_3] 48 (0, 0)) (by (with_reducible repeat (first | refine blk_drewN ?_ _ | refine blk_drew ?_ | refine blk_alloc ?_ _)); exact BK247.out)) : gb248 ≠ gb247)); clear BK247; clear HB; have BK247 := n0_; have HB := n1_; have BK248 := n2_; have GW248 := n3_; have GE248 := n4_; have NB247_248 := n5_; have NB248_247 := n6_; clear n0_ n1_ n2_ n3_ n4_ n5_ n6_; clear hb hbox hg; have hnb15 := NB247_248.out; have hnc15 := NB248_247.out; have hcz16_0 : w14.cell? ⟨gb247, 0, none⟩ = some (.int .i64 a0_0) := (blk_cell BK247.out 0).trans rfl; have hcz16_1 : w14.cell? ⟨gb247, 1, none⟩ = some (.int .i64 a0_1) := (blk_cell BK247.out 1).trans rfl; have hcz16_2 : w14.cell? ⟨gb247, 2, none⟩ = some (.int .i64 a0_2) := (blk_cell BK247.out 2).trans rfl; have hcz16_3 : w14.cell? ⟨gb247, 3, none⟩ = some (.slice A0_3 l0_3.length c0_3) := (blk_cell BK247.out 3).trans rfl; have hfz16_0 := blk_frozen BK247.out 0; have hfz16_1 := blk_frozen BK247.out 1; have hfz16_2 := blk_frozen BK247.out 2; have hfz16_3 := blk_frozen BK247.out 3; have hcz17_0 : w14.cell? ⟨gb248, 0, none⟩ = some (.int .i64 a1_0) := (blk_cell BK248.out 0).trans rfl; have hcz17_1 : w14.cell? ⟨gb248, 1, none⟩ = some (.int .i64 a1_1) := (blk_cell BK248.out 1).trans rfl; have hcz17_2 : w14.cell? ⟨gb248, 2, none⟩ = some (.int .i64 a1_2) := (blk_cell BK248.out 2).trans rfl; have hcz17_3 : w14.cell? ⟨gb248, 3, none⟩ = some (.slice A1_3 l1_3.length c1_3) := (blk_cell BK248.out 3).trans rfl; have hfz17_0 := blk_frozen BK248.out 0; have hfz17_1 := blk_frozen BK248.out 1; have hfz17_2 := blk_frozen BK248.out 2; have hfz17_3 := blk_frozen BK248.out 3))
        go_ret
        exact ⟨by first | rfl | (simp [errW_none, errW_some] <;> rfl) | (simp [*, errW_none, errW_some] <;> rfl), by repeat (first | (with_reducible first | exact HB.out | apply below_alloc | apply pw_below_drewN | apply below_drew1 | refine below_set ?_ GE247.out | refine below_set ?_ GE248.out) | exact HB.out)⟩
    · rw [if_neg c4] at H
      have c4b0 : (a0_1 == a1_1) = false := beq_eq_false_iff_ne.mpr c4
      have c4b1 : (a0_1 != a1_1) = true := bne_iff_ne.mpr c4
      obtain rfl := Option.some.inj H
      go_enter Try.func108, Try.ntmps108
      go_wp2_with (first | ((with_reducible refine gate_dst (N := 2) rfl ?_); refine box_event ?hg (N := 2) ?hd (cs := #[.int .i64 a0_0, .int .i64 a0_1, .int .i64 a0_2, .slice A0_3 l0_3.length c0_3]) (t := 48) ?hr ?_; (case hd => rfl); (case hg => rfl); (case hr => first | (go_simp; done) | (go_simp; rfl)); intro gb247 hg w18 hbox hb; have n0_ := Aside0.mk (below_step (by repeat (first | (with_reducible first | exact HB.out | apply below_alloc | apply pw_below_drewN | apply below_drew1) | exact HB.out)) hb); have n1_ := Aside0.mk (hbox); have n2_ := Aside0.mk ((by rw [hg]; exact (below_size (by repeat (first | (with_reducible first | exact HB.out | apply below_alloc | apply pw_below_drewN | apply below_drew1) | exact HB.out))) : w.heap.size ≤ gb247)); have n3_ := Aside0.mk ((by rw [hg]; exact (below_size (by repeat (first | (with_reducible first | exact HB.out | apply below_alloc | apply pw_below_drewN | apply below_drew1) | exact HB.out))) : w.heap.size ≤ gb247)); clear HB; have HB := n0_; have BK247 := n1_; have GW247 := n2_; have GE247 := n3_; clear n0_ n1_ n2_ n3_; clear hb hbox hg) | ((with_reducible refine gate_dst (N := 3) rfl ?_); refine box_event ?hg (N := 3) ?hd (cs := #[.int .i64 a1_0, .int .i64 a1_1, .int .i64 a1_2, .slice A1_3 l1_3.length c1_3]) (t := 48) ?hr ?_; (case hd => rfl); (case hg => rfl); (case hr => first | (go_simp; done) | (go_simp; rfl)); intro gb248 hg w19 hbox hb; have n0_ := Aside0.mk (blk_below (g := gb247) (o := .cells #[.int .i64 a0_0, .int .i64 a0_1, .int .i64 a0_2, .slice A0_3 l0_3.length c0_3] 48 (0, 0)) (by (with_reducible repeat (first | refine blk_drewN ?_ _ | refine blk_drew ?_ | refine blk_alloc ?_ _)); exact BK247.out) hb); have n1_ := Aside0.mk (below_step (by repeat (first | (with_reducible first | exact HB.out | apply below_alloc | apply pw_below_drewN | apply below_drew1 | refine below_set ?_ GE247.out) | exact HB.out)) hb); have n2_ := Aside0.mk (hbox); have n3_ := Aside0.mk ((by rw [hg]; exact (below_size (by repeat (first | (with_reducible first | exact HB.out | apply below_alloc | apply pw_below_drewN | apply below_drew1 | refine below_set ?_ GE247.out) | exact HB.out))) : w.heap.size ≤ gb248)); have n4_ := Aside0.mk ((by rw [hg]; exact (below_size (by repeat (first | (with_reducible first | exact HB.out | apply below_alloc | apply pw_below_drewN | apply below_drew1 | refine below_set ?_ GE247.out) | exact HB.out))) : w.heap.size ≤ gb248)); have n5_ := Aside0.mk ((by rw [hg]; exact Nat.ne_of_lt (blk_lt (g := gb247) (o := .cells #[.int .i64 a0_0, .int .i64 a0_1, .int .i64 a0_2, .slice A0_3 l0_3.length c0_3] 48 (0, 0)) (by (with_reducible repeat (first | refine blk_drewN ?_ _ | refine blk_drew ?_ | refine blk_alloc ?_ _)); exact BK247.out)) : gb247 ≠ gb248)); have n6_ := Aside0.mk ((by rw [hg]; exact Nat.ne_of_gt (blk_lt (g := gb247) (o := .cells #[.int .i64 a0_0, .int .i64 a0_1, .int .i64 a0_2, .slice A0_3 l0_3.length c0_3] 48 (0, 0)) (by (with_reducible repeat (first | refine blk_drewN ?_ _ | refine blk_drew ?_ | refine blk_alloc ?_ _)); exact BK247.out)) : gb248 ≠ gb247)); clear BK247; clear HB; have BK247 := n0_; have HB := n1_; have BK248 := n2_; have GW248 := n3_; have GE248 := n4_; have NB247_248 := n5_; have NB248_247 := n6_; clear n0_ n1_ n2_ n3_ n4_ n5_ n6_; clear hb hbox hg; have hnb20 := NB247_248.out; have hnc20 := NB248_247.out; have hcz21_0 : w19.cell? ⟨gb247, 0, none⟩ = some (.int .i64 a0_0) := (blk_cell BK247.out 0).trans rfl; have hcz21_1 : w19.cell? ⟨gb247, 1, none⟩ = some (.int .i64 a0_1) := (blk_cell BK247.out 1).trans rfl; have hcz21_2 : w19.cell? ⟨gb247, 2, none⟩ = some (.int .i64 a0_2) := (blk_cell BK247.out 2).trans rfl; have hcz21_3 : w19.cell? ⟨gb247, 3, none⟩ = some (.slice A0_3 l0_3.length c0_3) := (blk_cell BK247.out 3).trans rfl; have hfz21_0 := blk_frozen BK247.out 0; have hfz21_1 := blk_frozen BK247.out 1; have hfz21_2 := blk_frozen BK247.out 2; have hfz21_3 := blk_frozen BK247.out 3; have hcz22_0 : w19.cell? ⟨gb248, 0, none⟩ = some (.int .i64 a1_0) := (blk_cell BK248.out 0).trans rfl; have hcz22_1 : w19.cell? ⟨gb248, 1, none⟩ = some (.int .i64 a1_1) := (blk_cell BK248.out 1).trans rfl; have hcz22_2 : w19.cell? ⟨gb248, 2, none⟩ = some (.int .i64 a1_2) := (blk_cell BK248.out 2).trans rfl; have hcz22_3 : w19.cell? ⟨gb248, 3, none⟩ = some (.slice A1_3 l1_3.length c1_3) := (blk_cell BK248.out 3).trans rfl; have hfz22_0 := blk_frozen BK248.out 0; have hfz22_1 := blk_frozen BK248.out 1; have hfz22_2 := blk_frozen BK248.out 2; have hfz22_3 := blk_frozen BK248.out 3))
      go_ret
      exact ⟨by first | rfl | (simp [errW_none, errW_some] <;> rfl) | (simp [*, errW_none, errW_some] <;> rfl), by repeat (first | (with_reducible first | exact HB.out | apply below_alloc | apply pw_below_drewN | apply below_drew1 | refine below_set ?_ GE247.out | refine below_set ?_ GE248.out) | exact HB.out)⟩
  · rw [if_neg c3] at H
    have c3b0 : (a0_0 == a1_0) = false := beq_eq_false_iff_ne.mpr c3
    have c3b1 : (a0_0 != a1_0) = true := bne_iff_ne.mpr c3
    obtain rfl := Option.some.inj H
    go_enter Try.func108, Try.ntmps108
    go_wp2_with (first | ((with_reducible refine gate_dst (N := 2) rfl ?_); refine box_event ?hg (N := 2) ?hd (cs := #[.int .i64 a0_0, .int .i64 a0_1, .int .i64 a0_2, .slice A0_3 l0_3.length c0_3]) (t := 48) ?hr ?_; (case hd => rfl); (case hg => rfl); (case hr => first | (go_simp; done) | (go_simp; rfl)); intro gb247 hg w23 hbox hb; have n0_ := Aside0.mk (below_step (by repeat (first | (with_reducible first | exact HB.out | apply below_alloc | apply pw_below_drewN | apply below_drew1) | exact HB.out)) hb); have n1_ := Aside0.mk (hbox); have n2_ := Aside0.mk ((by rw [hg]; exact (below_size (by repeat (first | (with_reducible first | exact HB.out | apply below_alloc | apply pw_below_drewN | apply below_drew1) | exact HB.out))) : w.heap.size ≤ gb247)); have n3_ := Aside0.mk ((by rw [hg]; exact (below_size (by repeat (first | (with_reducible first | exact HB.out | apply below_alloc | apply pw_below_drewN | apply below_drew1) | exact HB.out))) : w.heap.size ≤ gb247)); clear HB; have HB := n0_; have BK247 := n1_; have GW247 := n2_; have GE247 := n3_; clear n0_ n1_ n2_ n3_; clear hb hbox hg) | ((with_reducible refine gate_dst (N := 3) rfl ?_); refine box_event ?hg (N := 3) ?hd (cs := #[.int .i64 a1_0, .int .i64 a1_1, .int .i64 a1_2, .slice A1_3 l1_3.length c1_3]) (t := 48) ?hr ?_; (case hd => rfl); (case hg => rfl); (case hr => first | (go_simp; done) | (go_simp; rfl)); intro gb248 hg w24 hbox hb; have n0_ := Aside0.mk (blk_below (g := gb247) (o := .cells #[.int .i64 a0_0, .int .i64 a0_1, .int .i64 a0_2, .slice A0_3 l0_3.length c0_3] 48 (0, 0)) (by (with_reducible repeat (first | refine blk_drewN ?_ _ | refine blk_drew ?_ | refine blk_alloc ?_ _)); exact BK247.out) hb); have n1_ := Aside0.mk (below_step (by repeat (first | (with_reducible first | exact HB.out | apply below_alloc | apply pw_below_drewN | apply below_drew1 | refine below_set ?_ GE247.out) | exact HB.out)) hb); have n2_ := Aside0.mk (hbox); have n3_ := Aside0.mk ((by rw [hg]; exact (below_size (by repeat (first | (with_reducible first | exact HB.out | apply below_alloc | apply pw_below_drewN | apply below_drew1 | refine below_set ?_ GE247.out) | exact HB.out))) : w.heap.size ≤ gb248)); have n4_ := Aside0.mk ((by rw [hg]; exact (below_size (by repeat (first | (with_reducible first | exact HB.out | apply below_alloc | apply pw_below_drewN | apply below_drew1 | refine below_set ?_ GE247.out) | exact HB.out))) : w.heap.size ≤ gb248)); have n5_ := Aside0.mk ((by rw [hg]; exact Nat.ne_of_lt (blk_lt (g := gb247) (o := .cells #[.int .i64 a0_0, .int .i64 a0_1, .int .i64 a0_2, .slice A0_3 l0_3.length c0_3] 48 (0, 0)) (by (with_reducible repeat (first | refine blk_drewN ?_ _ | refine blk_drew ?_ | refine blk_alloc ?_ _)); exact BK247.out)) : gb247 ≠ gb248)); have n6_ := Aside0.mk ((by rw [hg]; exact Nat.ne_of_gt (blk_lt (g := gb247) (o := .cells #[.int .i64 a0_0, .int .i64 a0_1, .int .i64 a0_2, .slice A0_3 l0_3.length c0_3] 48 (0, 0)) (by (with_reducible repeat (first | refine blk_drewN ?_ _ | refine blk_drew ?_ | refine blk_alloc ?_ _)); exact BK247.out)) : gb248 ≠ gb247)); clear BK247; clear HB; have BK247 := n0_; have HB := n1_; have BK248 := n2_; have GW248 := n3_; have GE248 := n4_; have NB247_248 := n5_; have NB248_247 := n6_; clear n0_ n1_ n2_ n3_ n4_ n5_ n6_; clear hb hbox hg; have hnb25 := NB247_248.out; have hnc25 := NB248_247.out; have hcz26_0 : w24.cell? ⟨gb247, 0, none⟩ = some (.int .i64 a0_0) := (blk_cell BK247.out 0).trans rfl; have hcz26_1 : w24.cell? ⟨gb247, 1, none⟩ = some (.int .i64 a0_1) := (blk_cell BK247.out 1).trans rfl; have hcz26_2 : w24.cell? ⟨gb247, 2, none⟩ = some (.int .i64 a0_2) := (blk_cell BK247.out 2).trans rfl; have hcz26_3 : w24.cell? ⟨gb247, 3, none⟩ = some (.slice A0_3 l0_3.length c0_3) := (blk_cell BK247.out 3).trans rfl; have hfz26_0 := blk_frozen BK247.out 0; have hfz26_1 := blk_frozen BK247.out 1; have hfz26_2 := blk_frozen BK247.out 2; have hfz26_3 := blk_frozen BK247.out 3; have hcz27_0 : w24.cell? ⟨gb248, 0, none⟩ = some (.int .i64 a1_0) := (blk_cell BK248.out 0).trans rfl; have hcz27_1 : w24.cell? ⟨gb248, 1, none⟩ = some (.int .i64 a1_1) := (blk_cell BK248.out 1).trans rfl; have hcz27_2 : w24.cell? ⟨gb248, 2, none⟩ = some (.int .i64 a1_2) := (blk_cell BK248.out 2).trans rfl; have hcz27_3 : w24.cell? ⟨gb248, 3, none⟩ = some (.slice A1_3 l1_3.length c1_3) := (blk_cell BK248.out 3).trans rfl; have hfz27_0 := blk_frozen BK248.out 0; have hfz27_1 := blk_frozen BK248.out 1; have hfz27_2 := blk_frozen BK248.out 2; have hfz27_3 := blk_frozen BK248.out 3))
    go_ret
    exact ⟨by first | rfl | (simp [errW_none, errW_some] <;> rfl) | (simp [*, errW_none, errW_some] <;> rfl), by repeat (first | (with_reducible first | exact HB.out | apply below_alloc | apply pw_below_drewN | apply below_drew1 | refine below_set ?_ GE247.out | refine below_set ?_ GE248.out) | exact HB.out)⟩

end Go.Proofs.Ytmmiipnmimjojaa.PS
end
