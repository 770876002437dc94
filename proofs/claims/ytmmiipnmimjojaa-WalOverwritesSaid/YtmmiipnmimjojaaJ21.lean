/- The texts of this claim's seat, joined: part 21. -/
import Derived.Test.YtmmiipnmimjojaaJ20
section
/- wal.Log: SetHard, Reset. -/
namespace Go.Proofs.Ytmmiipnmimjojaa.PS
open Go.RowKit Go.Proofs.YtmmiipnmimjojaaW.PrintWords Go.Proofs.YtmmiipnmimjojaaW.PrintLast Go.Proofs.YtmmiipnmimjojaaW.PrintMore
open Go.Maps Go.Proofs.Ytmmiipnmimjojaa.PD
set_option linter.unusedVariables false
set_option linter.unusedSimpArgs false
attribute [local go_sem high] eqA81
theorem put1_st (D : Dsk) (M : LM) (b : List Int) : (lgPut1 D M b).2.2.st = M.st := by
  unfold lgPut1
  dsimp only
  split <;> rfl
theorem put_st (D : Dsk) (M : LM) (b : List Int) : (lgPut D M b).2.2.st = M.st := by
  have h1 : (lgAnew D M M.st).2.2.st = M.st := by
    unfold lgAnew mAnew
    dsimp only
    split <;> rfl
  unfold lgPut
  split
  · split
    · rw [put1_st, h1]
    · exact h1
  · exact put1_st D M b
theorem Wl.setH {W0 W : World} {S Q : Nat → Prop} {g N L : Nat} {D : Dsk} {M : LM} (h : Wl W0 W S Q g N L D M) (t u : Int) : AfW W0 W S Q g N L D { M with st := { M.st with ht := t, hv := u } } ((W.setCell ⟨L, 3, none⟩ (.int .i64 t)).setCell ⟨L, 4, none⟩ (.int .i64 u)) := by
  obtain ⟨hQ, v, hb, hv⟩ := h.lg
  refine h.setL (M' := { M with st := { M.st with ht := t, hv := u } }) (v := v) hv (kp_set (kp_set (Kp.refl W (fun k => k = L)) 3 _) 4 _) ?_
  have h1 := blk_set hb 3 (.int .i64 t)
  have h2 := blk_set h1 4 (.int .i64 u)
  rw [h2]
  unfold lgC
  simp
/-- New bytes are none of the disk's. -/
theorem F_new {W0 W w2 w3 : World} {S Q : Nat → Prop} {g N L base : Nat} {D : Dsk} {M : LM} {A : Option Addr} {c : Nat} {b : List Int} (h : Wl W0 W S Q g N L D M) (hb : W.heap.size ≤ base) (hr : k8.R 5 w3 base (fun _ => True) (.slice A b.length c) b) : Kd.F k8 w3 (fun k => (¬ S k ∧ k ≠ L) ∧ k < w3.heap.size) A b.length b :=
  Kd.F_mono (Kd.R_F (Kd.R_bound hr)) (fun k hk => ⟨⟨fun hS => by have := (h.dk.2.1 k hS).2; have := hk.2.1; omega, fun e => by have := h.lt; have := hk.2.1; omega⟩, hk.2.2.1⟩)
set_option maxHeartbeats 4000000 in
set_option maxRecDepth 100000 in
theorem sethard_calls {W0 W : World} {S Q : Nat → Prop} {g N L : Nat} {D : Dsk} {M : LM} {t u : Int} (h : Wl W0 W S Q g N L D M) (hm : MOk M) (hN : N ≤ 800000) (hn : M.n ≤ 900000000) (hnm : namedB (nameB (M.n + 1)) = true) :
    Calls Try.prog 53 #[.pointer (some ⟨L, 0, none⟩), .agg #[.int .i64 t, .int .i64 u]] W (ErrP W0 W S Q g (N + 2) L (lgHard D M t u)) := by
  obtain ⟨R, hR⟩ : ∃ R, lgHard D M t u = R := ⟨_, rfl⟩
  have hR0 := hR
  unfold lgHard at hR0
  rw [hR]
  obtain ⟨w1, hw1⟩ : ∃ w1, w1 = W.alloc (.cells #[.int .i64 t, .int .i64 u] 81) := ⟨_, rfl⟩
  have hb1 : Below W.heap.size W w1 := by rw [hw1]; exact below_alloc (Below.refl _ _) _
  have hbk : w1.heap[W.heap.size]? = some (.cells #[.int .i64 t, .int .i64 u] 81 (0, 0)) := by rw [hw1]; exact blk_new W _
  have m0 : w1.cell? ⟨W.heap.size, 0, none⟩ = some (.int .i64 t) := blk_cell hbk 0
  have m1 : w1.cell? ⟨W.heap.size, 1, none⟩ = some (.int .i64 u) := blk_cell hbk 1
  have HB1 := Aside0.mk hb1
  have HBK := Aside0.mk hbk
  have HW1 := Aside0.mk (h.below hb1)
  have HLT := Aside0.mk h.lt
  have HSK := Aside0.mk (fun k hk => (h.dk.2.1 k hk).2)
  obtain ⟨e, he⟩ : ∃ e, hardErr t u = e := ⟨_, rfl⟩
  rw [he] at hR0
  by_cases he0 : e = 0
  · have hok : hardErr t u = 0 := he.trans he0
    have hh := hard_ok hok
    have hxl : (enc t ++ enc u).length ≤ 100 := by rw [List.length_append]; have l1 := enc_len hh.1.1 hh.1.2; have l2 := enc_len hh.2.1 (by omega); omega
    obtain ⟨X, hX⟩ : ∃ X, enc t ++ enc u = X := ⟨_, rfl⟩
    have HP := Aside0.mk (wire_PutHard.calls 20 t u X 0 w1 (by rw [PutHard_f (by omega), if_pos hok, hX]))
    rw [hX] at hxl
    have HX := Aside0.mk hX
    rw [if_neg (by omega)] at hR0
    have HR0 := Aside0.mk hR0
    clear hR hR0 he he0 hX hb1 hbk hok
    by_cases hsame : t = M.st.ht ∧ u = M.st.hv
    · rw [if_pos hsame] at HR0
      obtain ⟨rfl, rfl⟩ := hsame
      clear h hm
      go_enter Try.func53, Try.ntmps53
      go_upto_region 1 with (fail)
      rw [← hw1]
      clear hw1
      go_wp2_with fail
      refine HP.out.mono ?_
      rintro e w2 ⟨v2, rfl, hR2, hB2⟩
      have HW2 := Aside0.mk (HW1.out.below hB2)
      have HB2 := Aside0.mk (below_step HB1.out hB2)
      have hK2 := (hB2.block _ (blk_lt HBK.out)).trans HBK.out
      have n0 : w2.cell? ⟨W.heap.size, 0, none⟩ = some (.int .i64 M.st.ht) := blk_cell hK2 0
      have n1 : w2.cell? ⟨W.heap.size, 1, none⟩ = some (.int .i64 M.st.hv) := blk_cell hK2 1
      obtain ⟨A1, c1', ⟨k1, k2, k3, k4, k5⟩, hV⟩ := HW2.out.cell1
      clear hR2 hB2 m0 m1 hK2 k1 k2 k5 hV
      go_wp2_with fail
      go_quiet (fail)
      go_wp2_with fail
      go_ret
      rw [← HR0.out]
      exact ⟨rfl, S, Q, (HW2.out.below (pw_below_drewN (Below.refl _ _) _)).mono (by omega), Bys.of_below (pw_below_drewN HB2.out _), fun _ _ h => h⟩
    · rw [if_neg hsame] at HR0
      have hq : (t == M.st.ht && (u == M.st.hv)) = false := by
        rw [Bool.and_eq_false_iff]
        by_cases h1 : t = M.st.ht
        · exact .inr (beq_eq_false_iff_ne.mpr (fun h2 => hsame ⟨h1, h2⟩))
        · exact .inl (beq_eq_false_iff_ne.mpr h1)
      clear hsame
      go_enter Try.func53, Try.ntmps53
      go_upto_region 1 with (fail)
      rw [← hw1]
      clear hw1
      go_wp2_with fail
      refine HP.out.mono ?_
      rintro e w2 ⟨v2, rfl, hR2, hB2⟩
      have HW2 := Aside0.mk (HW1.out.below hB2)
      have HB2 := Aside0.mk (below_step HB1.out hB2)
      have hK2 := (hB2.block _ (blk_lt HBK.out)).trans HBK.out
      have n0 : w2.cell? ⟨W.heap.size, 0, none⟩ = some (.int .i64 t) := blk_cell hK2 0
      have n1 : w2.cell? ⟨W.heap.size, 1, none⟩ = some (.int .i64 u) := blk_cell hK2 1
      obtain ⟨A1, c1', ⟨k1, k2, k3, k4, k5⟩, hV⟩ := HW2.out.cell1
      have HK2 := Aside0.mk hK2
      obtain ⟨A2, c2, rfl⟩ := Kd.R_slice hR2
      have HR2 := Aside0.mk hR2
      have hx2 := (Kd.R_reads' hR2).2.1
      have HFR := Aside0.mk (show (lgPut D M (frameB (2 :: X))) = (lgPut D M (recsB [.hard t u])) by rw [recsB_one, ← HX.out]; rfl)
      have HHR := Aside0.mk hnm
      have HM := Aside0.mk hm
      clear hR2 hB2 m0 m1 hK2 k1 k2 k5 hV h hm hnm
      go_wp2_with fail
      go_quiet (fail)
      have HW2d := Aside0.mk (HW2.out.below (pw_below_drewN (Below.refl _ _) nq))
      go_wp2_with fail
      refine (record_calls 2 (Kd.C_below (Kd.R_reads' HR2.out).2.2 (pw_below_drewN (Below.refl _ _) _)) hx2 (by omega)).mono ?_
      rintro e w3 ⟨v3, rfl, hR3, hB3⟩
      have HW3 := Aside0.mk (HW2d.out.below hB3)
      have HB3 := Aside0.mk (below_step (pw_below_drewN HB2.out nq) hB3)
      have HK3 := Aside0.mk ((hB3.block W.heap.size (blk_lt (w := w2) HK2.out)).trans HK2.out)
      obtain ⟨Y, hY⟩ : ∃ Y, frameB (2 :: X) = Y := ⟨_, rfl⟩
      have hyl : Y.length ≤ 2000000000 := by rw [← hY, frameB_len, List.length_cons]; omega
      rw [hY] at hR3 HFR
      obtain ⟨A3, c3, rfl⟩ := Kd.R_slice hR3
      have HFN := Aside0.mk (F_new (w2 := w2) HW2d.out (Nat.le_refl _) hR3)
      have hy2 := (Kd.R_reads' hR3).2.1
      obtain ⟨P, hP⟩ : ∃ P, lgPut D M Y = P := ⟨_, rfl⟩
      have HST := Aside0.mk (show P.2.2.st = M.st by rw [← hP]; exact put_st D M Y)
      have HPC := Aside0.mk (put_calls HW3.out HM.out hN hn HHR.out HFN.out hy2 hyl)
      rw [hP] at HPC HFR
      rw [← HFR.out] at HR0
      clear hR3 hB3 hx2 hY hP n0 n1 k3 k4 hq
      go_wp2_with fail
      refine HPC.out.mono ?_
      rintro e w4 ⟨rfl, S4, Q4, hw4, hB4, hq4⟩
      have HW4 := Aside0.mk hw4
      have HB4 := Aside0.mk ((Bys.of_below (S := S) (L := L) HB3.out).trans hB4)
      have HQ4 := Aside0.mk (show ∀ k, k < W.heap.size → Q4 k → Q k from fun k hk h4 => hq4 k (Nat.lt_of_lt_of_le hk HB3.out.size) h4)
      have HK4 := Aside0.mk (hB4.keep _ _ (By.new (S := S) (L := L) (b := W.heap.size) (fun k hk => (HSK.out k hk)) HLT.out (Nat.le_refl _) HK3.out))
      have n0 : w4.cell? ⟨W.heap.size, 0, none⟩ = some (.int .i64 t) := blk_cell HK4.out.at_ 0
      have n1 : w4.cell? ⟨W.heap.size, 1, none⟩ = some (.int .i64 u) := blk_cell HK4.out.at_ 1
      obtain ⟨A5, c5, hb5, _⟩ := hw4.cells
      have p3 : w4.cell? ⟨L, 3, none⟩ = some (.int .i64 P.2.2.st.ht) := blk_cell hb5 3
      have p4 : w4.cell? ⟨L, 4, none⟩ = some (.int .i64 P.2.2.st.hv) := blk_cell hb5 4
      have pf3 := blk_frozen hb5 3
      have pf4 := blk_frozen hb5 4
      obtain ⟨p, hp⟩ : ∃ p, P.1 = p := ⟨_, rfl⟩
      have HPP := Aside0.mk hp
      rw [hp] at HR0 ⊢
      clear hw4 hB4 hq4 hb5 hp
      by_cases hp0 : p = 0
      · have t1 : (p == 0) = true := by rw [hp0]; rfl
        have t2 : (p != 0) = false := by simp [bne, t1]
        have HRR := Aside0.mk (show R = (0, P.2.1, { P.2.2 with st := { M.st with ht := t, hv := u } }) by rw [← HR0.out, if_pos hp0])
        clear hp0
        go_wp2_with fail
        go_ret
        obtain ⟨S5, hw5, hB5⟩ := HW4.out.setH t u
        rw [HRR.out]
        rw [HST.out] at hw5
        exact ⟨rfl, S5, Q4, hw5, HB4.out.trans hB5, HQ4.out⟩
      · have t1 : (p == 0) = false := beq_eq_false_iff_ne.mpr hp0
        have t2 : (p != 0) = true := by simp [bne, t1]
        have HRR := Aside0.mk (show R = P by rw [← HR0.out, if_neg hp0])
        clear hp0
        go_wp2_with fail
        go_ret
        rw [HRR.out]
        exact ⟨by rw [HPP.out]; rfl, S4, Q4, HW4.out, HB4.out, HQ4.out⟩
  · have hne : e = 2 := by rw [← he] at he0 ⊢; unfold hardErr at *; split at he0 <;> simp_all
    subst hne
    have HP := Aside0.mk (wire_PutHard.calls 20 t u [] 2 w1 (by rw [PutHard_f (by omega), if_neg (by omega)]))
    have HR0 := Aside0.mk (show R = (2, D, M) by rw [← hR0, if_pos (by decide)])
    clear hR hR0 he he0 hb1 hbk h hm
    go_enter Try.func53, Try.ntmps53
    go_upto_region 1 with (fail)
    rw [← hw1]
    clear hw1
    go_wp2_with fail
    refine HP.out.mono ?_
    rintro e w2 ⟨v2, rfl, hR2, hB2⟩
    have HW2 := Aside0.mk (HW1.out.below hB2)
    have HB2 := Aside0.mk (below_step HB1.out hB2)
    clear hR2 hB2 m0 m1
    go_wp2_with fail
    go_quiet (fail)
    go_wp2_with fail
    go_ret
    rw [HR0.out]
    exact ⟨rfl, S, Q, (HW2.out.below (pw_below_drewN (Below.refl _ _) _)).mono (by omega), Bys.of_below (pw_below_drewN HB2.out _), fun _ _ h => h⟩
set_option maxHeartbeats 4000000 in
set_option maxRecDepth 100000 in
theorem reset_calls {W0 W : World} {S Q : Nat → Prop} {g N L : Nat} {D : Dsk} {M : LM} {i t : Int} (h : Wl W0 W S Q g N L D M) (hm : MOk M) (hN : N ≤ 800000) (hnm : namedB (nameB (M.n + 1)) = true) :
    Calls Try.prog 54 #[.pointer (some ⟨L, 0, none⟩), .agg #[.int .i64 i, .int .i64 t]] W (ErrP W0 W S Q g (N + 1) L (lgReset D M i t)) := by
  obtain ⟨R, hR⟩ : ∃ R, lgReset D M i t = R := ⟨_, rfl⟩
  have hR0 := hR
  unfold lgReset at hR0
  rw [hR]
  obtain ⟨w1, hw1⟩ : ∃ w1, w1 = W.alloc (.cells #[.int .i64 i, .int .i64 t] 83) := ⟨_, rfl⟩
  have hb1 : Below W.heap.size W w1 := by rw [hw1]; exact below_alloc (Below.refl _ _) _
  have hbk : w1.heap[W.heap.size]? = some (.cells #[.int .i64 i, .int .i64 t] 83 (0, 0)) := by rw [hw1]; exact blk_new W _
  have m0 : w1.cell? ⟨W.heap.size, 0, none⟩ = some (.int .i64 i) := blk_cell hbk 0
  have m1 : w1.cell? ⟨W.heap.size, 1, none⟩ = some (.int .i64 t) := blk_cell hbk 1
  have HB1 := Aside0.mk hb1
  have HW1 := Aside0.mk (h.below hb1)
  by_cases h1 : i < 0
  · have c1 : decide (i < 0) = true := decide_eq_true h1
    have HR0 := Aside0.mk (show R = (2, D, M) by rw [← hR0, if_pos (by omega)])
    clear hR hR0 hb1 hbk h hm
    go_enter Try.func54, Try.ntmps54
    go_upto_region 1 with (fail)
    rw [← hw1]
    clear hw1
    go_wp2_with fail
    go_ret
    rw [HR0.out]
    exact ⟨rfl, S, Q, HW1.out.mono (by omega), Bys.of_below HB1.out, fun _ _ h => h⟩
  have c1 : decide (i < 0) = false := decide_eq_false h1
  by_cases h2 : 1099511627776 < i
  · have c2 : decide (1099511627776 < i) = true := decide_eq_true h2
    have HR0 := Aside0.mk (show R = (2, D, M) by rw [← hR0, if_pos (by omega)])
    clear hR hR0 hb1 hbk h hm
    go_enter Try.func54, Try.ntmps54
    go_upto_region 1 with (fail)
    rw [← hw1]
    clear hw1
    go_wp2_with fail
    go_ret
    rw [HR0.out]
    exact ⟨rfl, S, Q, HW1.out.mono (by omega), Bys.of_below HB1.out, fun _ _ h => h⟩
  have c2 : decide (1099511627776 < i) = false := decide_eq_false h2
  by_cases h3 : t < 0
  · have c3 : decide (t < 0) = true := decide_eq_true h3
    have HR0 := Aside0.mk (show R = (2, D, M) by rw [← hR0, if_pos (by omega)])
    clear hR hR0 hb1 hbk h hm
    go_enter Try.func54, Try.ntmps54
    go_upto_region 1 with (fail)
    rw [← hw1]
    clear hw1
    go_wp2_with fail
    go_ret
    rw [HR0.out]
    exact ⟨rfl, S, Q, HW1.out.mono (by omega), Bys.of_below HB1.out, fun _ _ h => h⟩
  have c3 : decide (t < 0) = false := decide_eq_false h3
  by_cases h4 : 1099511627776 < t
  · have c4 : decide (1099511627776 < t) = true := decide_eq_true h4
    have HR0 := Aside0.mk (show R = (2, D, M) by rw [← hR0, if_pos (by omega)])
    clear hR hR0 hb1 hbk h hm
    go_enter Try.func54, Try.ntmps54
    go_upto_region 1 with (fail)
    rw [← hw1]
    clear hw1
    go_wp2_with fail
    go_ret
    rw [HR0.out]
    exact ⟨rfl, S, Q, HW1.out.mono (by omega), Bys.of_below HB1.out, fun _ _ h => h⟩
  have c4 : decide (1099511627776 < t) = false := decide_eq_false h4
  have HR0 := Aside0.mk (show R = lgAnew D M ⟨i, t, M.st.ht, M.st.hv, []⟩ by rw [← hR0, if_neg (by omega)])
  have HWD := Aside0.mk (HW1.out.below (below_drew1 (Below.refl _ _)))
  obtain ⟨A1, c1', ⟨k1, k2, k3, k4, k5⟩, hV⟩ := HW1.out.cell1
  have hso : WOk ⟨i, t, M.st.ht, M.st.hv, []⟩ := ⟨⟨⟨by dsimp only; omega, by dsimp only; omega⟩, by dsimp only; omega, by dsimp only; omega⟩, hm.st.hard, fun _ h => (List.not_mem_nil h).elim, fun j x h => by simp at h⟩
  have HAN := Aside0.mk (anew_calls (s := ⟨i, t, M.st.ht, M.st.hv, []⟩) HWD.out (by omega) hso (Nat.zero_le _) ⟨none, 0, rfl, Nat.zero_le _, Kd.F_nil _ _ _⟩ hm hnm)
  clear hR hR0 hb1 hbk h hm hnm h1 h2 h3 h4 k1 k2 k5 hV hso
  go_enter Try.func54, Try.ntmps54
  go_upto_region 1 with (fail)
  rw [← hw1]
  clear hw1
  go_wp2_with fail
  go_region_law (go_simp; go_at_call 67; refine HAN.out.mono ?_; rintro e5 w5 ⟨rfl, hnl⟩; have HNL := Aside0.mk hnl; clear hnl)
  all_goals
    go_wp2_with fail
    go_ret
    rw [HR0.out]
    obtain ⟨S5, Q5, hw5, hB5, hq5⟩ := HNL.out
    exact ⟨rfl, S5, Q5, hw5, ((Bys.of_below HB1.out).trans (Bys.of_below (below_drew1 (Below.refl _ _)))).trans hB5, fun k hk h5 => hq5 k (Nat.lt_of_lt_of_le hk HB1.out.size) h5⟩
end Go.Proofs.Ytmmiipnmimjojaa.PS
end
section
/- wal.Log: Compact. -/
namespace Go.Proofs.Ytmmiipnmimjojaa.PS
open Go.RowKit Go.Proofs.YtmmiipnmimjojaaW.PrintWords Go.Proofs.YtmmiipnmimjojaaW.PrintLast Go.Proofs.YtmmiipnmimjojaaW.PrintMore
open Go.Maps Go.Proofs.Ytmmiipnmimjojaa.PD
set_option linter.unusedVariables false
set_option linter.unusedSimpArgs false
theorem term_in {s : WS} {i t : Int} (h : s.term i = some t) : s.bi ≤ i ∧ i ≤ s.last := by
  unfold WS.term at h
  by_cases h1 : i < s.bi ∨ s.last < i
  · rw [if_pos h1] at h; cases h
  · omega
theorem term_ok {s : WS} {i t : Int} (hs : WOk s) (h : s.term i = some t) : 0 ≤ t ∧ t ≤ 1099511627776 := by
  have hin := term_in h
  unfold WS.term at h
  rw [if_neg (by omega)] at h
  by_cases h2 : i = s.bi
  · rw [if_pos h2] at h; cases h; exact hs.mark.2
  · rw [if_neg h2] at h
    obtain ⟨x, hx, rfl⟩ := Option.map_eq_some_iff.1 h
    have := (ent_bad (hs.ent x (List.mem_of_getElem? hx))).1
    unfold entBad at this
    omega
theorem wok_drop {s : WS} {i t : Int} (hs : WOk s) (h : s.term i = some t) (hl : s.last ≤ 1099511627776) : WOk ⟨i, t, s.ht, s.hv, s.es.drop (i - s.bi).toNat⟩ := by
  have hin := term_in h
  have hto := term_ok hs h
  have h0 := hs.mark.1
  refine ⟨⟨⟨by dsimp only; omega, by dsimp only; omega⟩, hto⟩, hs.hard, fun x hx => hs.ent x (List.mem_of_mem_drop hx), fun j x hx => ?_⟩
  dsimp only at hx ⊢
  rw [List.getElem?_drop] at hx
  have := hs.row _ x hx
  omega
/-- The last index is on the wire's reach. -/
theorem last_le {s : WS} (hs : WOk s) : s.last ≤ 1099511627776 := by
  unfold WS.last
  cases he : s.es.reverse with
  | nil =>
    have : s.es = [] := by simpa using he
    rw [this]
    have := hs.mark.1
    simp; omega
  | cons x l =>
    have hes : s.es = l.reverse ++ [x] := by rw [← List.reverse_reverse s.es, he, List.reverse_cons]
    have hx : s.es[l.length]? = some x := by rw [hes, List.getElem?_append_right (by simp)]; simp
    have h1 := hs.row _ x hx
    have h2 := (ent_bad (hs.ent x (List.mem_of_getElem? hx))).1
    unfold entBad at h2
    have h3 : s.es.length = l.length + 1 := by rw [hes]; simp
    omega
/-- With cloned entries the log has blocks more. -/
theorem compact_mid {W0 W w2 : World} {S Q : Nat → Prop} {g N L : Nat} {D : Dsk} {M : LM} {v : Value} {l : List S48} (h : Wl W0 W S Q g N L D M) (hN : Kd.N k48 48 w2 W.heap.size (Pn W (fun k => Q k ∧ k ≠ L)) v l) (hb : Below W.heap.size W w2) :
    Wl W0 w2 S (fun k => Q k ∨ (W.heap.size ≤ k ∧ k < w2.heap.size)) g N L D M ∧ Kd.V k48 48 w2 0 (fun k => (Q k ∨ (W.heap.size ≤ k ∧ k < w2.heap.size)) ∧ k ≠ L) v l := by
  have hL := h.lt
  refine ⟨(h.below hb).more (fun k hk => .inl hk) (fun k hk => ?_), ?_⟩
  · rcases hk with hk | ⟨h1, h2⟩
    · exact (h.below hb).q k hk
    · have hs := h.dk.1.size
      exact ⟨by omega, h2, fun hS => by have := (h.dk.2.1 k hS).2; omega⟩
  · obtain ⟨A, c, rfl⟩ := Kd.N_slice hN
    refine ⟨A, c, rfl, (Kd.N_reads' hN).2.1, Kd.F_mono (Kd.F_bound (Kd.N_F hN)) (fun k hk => ?_)⟩
    rcases hk.1 with ⟨hq, _⟩ | hk1
    · exact ⟨.inl hq.1, hq.2⟩
    · exact ⟨.inr ⟨hk1, hk.2⟩, by omega⟩
set_option maxHeartbeats 8000000 in
set_option maxRecDepth 100000 in
theorem compact_calls {W0 W : World} {S Q : Nat → Prop} {g N L : Nat} {D : Dsk} {M : LM} {i : Int} (h : Wl W0 W S Q g N L D M) (hm : MOk M) (hN : N ≤ 800000) (hnm : namedB (nameB (M.n + 1)) = true) (hi : -9223372036854775808 ≤ i ∧ i ≤ 9223372036854775807) :
    Calls Try.prog 51 #[.pointer (some ⟨L, 0, none⟩), .int .i64 i] W (ErrP W0 W S Q g (N + 1) L (lgCompact D M i)) := by
  obtain ⟨R, hR⟩ : ∃ R, lgCompact D M i = R := ⟨_, rfl⟩
  have hR0 := hR
  unfold lgCompact at hR0
  rw [hR]
  have HTC := Aside0.mk (term_calls h hm hi)
  cases htm : M.st.term i with
  | none =>
    rw [htm] at hR0 HTC
    have HR0 := Aside0.mk (show R = (2, D, M) from hR0.symm)
    have HW := Aside0.mk h
    clear hR hR0 h hm hnm htm
    go_enter Try.func51, Try.ntmps51
    go_wp2_with fail
    refine HTC.out.mono ?_
    rintro e w1 ⟨rfl, hb1⟩
    have HB1 := Aside0.mk hb1
    clear hb1
    go_wp2_with fail
    go_ret
    rw [HR0.out]
    exact ⟨rfl, S, Q, (HW.out.below HB1.out).mono (by omega), Bys.of_below HB1.out, fun _ _ h => h⟩
  | some tm =>
    rw [htm] at hR0 HTC
    have hin := term_in htm
    have hto := term_ok hm.st htm
    have hwd := wok_drop hm.st htm (last_le hm.st)
    have hlast : M.st.last = M.st.bi + M.st.es.length := rfl
    dsimp only at hR0
    by_cases hib : i = M.st.bi
    · have c1 : (i == M.st.bi) = true := by rw [hib]; exact beq_self_eq_true _
      rw [if_pos hib] at hR0
      have HR0 := Aside0.mk hR0
      have HW := Aside0.mk h
      clear hR hR0 h hm hnm htm hib hwd hlast hin
      go_enter Try.func51, Try.ntmps51
      go_wp2_with fail
      refine HTC.out.mono ?_
      rintro e w1 ⟨rfl, hb1⟩
      have HB1 := Aside0.mk hb1
      obtain ⟨A1, c1', ⟨k1, k2, k3, k4, k5⟩, hV⟩ := (HW.out.below hb1).cell1
      clear hb1 hV k2 k3 k4 k5
      go_wp2_with fail
      go_ret
      rw [← HR0.out]
      exact ⟨rfl, S, Q, (HW.out.below HB1.out).mono (by omega), Bys.of_below HB1.out, fun _ _ h => h⟩
    · have c1 : (i == M.st.bi) = false := beq_eq_false_iff_ne.mpr hib
      rw [if_neg hib] at hR0
      have HR0 := Aside0.mk hR0
      have HW := Aside0.mk h
      have HM := Aside0.mk hm
      have HNM := Aside0.mk hnm
      have HWD := Aside0.mk hwd
      have hfew := hm.few
      obtain ⟨k, hk⟩ : ∃ k : Nat, i - M.st.bi = k := ⟨(i - M.st.bi).toNat, by omega⟩
      have hkl : k ≤ M.st.es.length := by omega
      have hbi := hm.st.mark.1
      have hwa : IntKind.i64.wrap (i - M.st.bi) = (k : Int) := by rw [hk]; exact IntWalk.i64_in _ ⟨by omega, by omega⟩
      have hkt : (i - M.st.bi).toNat = k := by omega
      rw [hkt] at HWD HR0
      clear hR hR0 h hm hnm htm hib hwd hlast hin hk hkt
      go_enter Try.func51, Try.ntmps51
      go_wp2_with fail
      refine HTC.out.mono ?_
      rintro e w1 ⟨rfl, hb1⟩
      have HB1 := Aside0.mk hb1
      have HW1 := Aside0.mk (HW.out.below hb1)
      obtain ⟨A1, ca, ⟨k1, k2, k3, k4, k5⟩, hV⟩ := (HW.out.below hb1).cell1
      have hVF := Kd.V_F hV
      have hca : M.st.es.length ≤ ca := by obtain ⟨_, _, e, h, _⟩ := hV; injection e with _ _ e; omega
      have hcut := Kd.F_cut (m := k) hVF hkl hca
      obtain ⟨DL, hDL⟩ : ∃ DL, M.st.es.drop k = DL := ⟨_, rfl⟩
      rw [hDL] at hcut HWD HR0
      have hdl : DL.length = M.st.es.length - k := by rw [← hDL, List.length_drop]
      have HDL := Aside0.mk hdl
      have hdf : DL.length ≤ 500000 := by omega
      have HDF := Aside0.mk hdf
      rw [hdl] at hcut
      have HCUT := Aside0.mk (Kd.F_below hcut (below_drew1 (Below.refl _ _)))
      have HKB := Aside0.mk (show M.st.es.length - k ≤ 1000000000 by omega)
      have HW1d := Aside0.mk (HW1.out.below (below_drew1 (Below.refl _ _)))
      have HB1d := Aside0.mk (below_step HB1.out (below_drew1 (Below.refl _ _)))
      have HNB := Aside0.mk (show N ≤ 900000 by omega)
      have H34 := Aside0.mk (show ∀ w, Below w1.heap.size w1.drew w → w.cell? ⟨L, 3, none⟩ = some (.int .i64 M.st.ht) ∧ w.cell? ⟨L, 4, none⟩ = some (.int .i64 M.st.hv) from fun w hw => ⟨(hw.cell (HW1.out.lt)).trans k3, (hw.cell (HW1.out.lt)).trans k4⟩)
      clear hb1 hV k2 hcut hdl hdf hDL hVF
      go_wp2_with fail
      go_region_law (first
        | (go_simp; go_at_call 92; refine (cloneK (P := fun k => Q k ∧ k ≠ L) (if ca = k then A1 else Option.map (fun x => x.add (k * 4)) A1) (ca - k) DL (M.st.es.length - k) _ HDL.out HCUT.out HKB.out).mono ?_; rintro e2 w2 ⟨v2, rfl, hN2, hb2⟩; have hc2 := compact_mid HW1d.out hN2 hb2; obtain ⟨A2, c2, rfl⟩ := Kd.N_slice hN2; obtain ⟨z3, z4⟩ := H34.out _ hb2; have HC2 := Aside0.mk hc2; have HB2 := Aside0.mk (below_step HB1d.out hb2); have HAN := Aside0.mk (anew_calls (s := ⟨i, tm, M.st.ht, M.st.hv, DL⟩) hc2.1 HNB.out HWD.out HDF.out hc2.2 HM.out HNM.out); clear hN2 hb2 hc2)
        | (go_simp; go_at_call 67; refine HAN.out.mono ?_; rintro e5 w5 ⟨rfl, hnl⟩; have HNL := Aside0.mk hnl; clear hnl)
        | fail)
      all_goals
        go_wp2_with fail
      all_goals
        go_ret
        rw [← HR0.out]
        obtain ⟨S5, Q5, hw5, hB5, hq5⟩ := HNL.out
        exact ⟨rfl, S5, Q5, hw5, (Bys.of_below HB2.out).trans hB5, fun j hj h5 => (hq5 j (Nat.lt_of_lt_of_le hj HB2.out.size) h5).elim id (fun hh => by have h1 := HB1d.out.size; have h2 := hh.1; exact absurd hj (Nat.not_lt.2 (Nat.le_trans h1 h2)))⟩
end Go.Proofs.Ytmmiipnmimjojaa.PS
end
section
/- Entries that are added, in plain words. -/
namespace Go.Proofs.Ytmmiipnmimjojaa.PS
open Go.RowKit Go.Proofs.YtmmiipnmimjojaaW.PrintWords Go.Proofs.YtmmiipnmimjojaaW.PrintLast Go.Proofs.YtmmiipnmimjojaaW.PrintMore
open Go.Maps Go.Proofs.Ytmmiipnmimjojaa.PD
set_option linter.unusedVariables false
set_option linter.unusedSimpArgs false
theorem entsErr_at {x : S48} {e : Int} : ∀ {es : List S48} {i : Nat}, (∀ y ∈ es.take i, entErr y.f0 y.f1 y.f2 y.f3 = 0) → es[i]? = some x → entErr x.f0 x.f1 x.f2 x.f3 = e → e ≠ 0 → entsErr es = e
  | [], i, _, h, _, _ => by simp at h
  | y :: es, 0, _, h, he, hn => by
    simp at h
    subst h
    rw [entsErr, if_neg (by rw [he]; exact hn), he]
  | y :: es, i + 1, ht, h, he, hn => by
    rw [entsErr, if_pos (ht y (by simp))]
    exact entsErr_at (es := es) (i := i) (fun z hz => ht z (by simp [hz])) (by simpa using h) he hn
theorem entsErr_all : ∀ {es : List S48}, (∀ y ∈ es, entErr y.f0 y.f1 y.f2 y.f3 = 0) → entsErr es = 0
  | [], _ => rfl
  | y :: es, h => by rw [entsErr, if_pos (h y (.head _))]; exact entsErr_all (fun z hz => h z (.tail _ hz))
theorem entsErr_zero : ∀ {es : List S48}, entsErr es = 0 → ∀ y ∈ es, entErr y.f0 y.f1 y.f2 y.f3 = 0
  | [], _, y, hy => by cases hy
  | x :: es, h, y, hy => by
    rw [entsErr] at h
    by_cases hx : entErr x.f0 x.f1 x.f2 x.f3 = 0
    · rw [if_pos hx] at h
      rcases List.mem_cons.1 hy with rfl | hy
      · exact hx
      · exact entsErr_zero h y hy
    · rw [if_neg hx] at h; exact absurd h hx
/-- Does entry i go on behind the one ahead of it? -/
def chkAt (s : WS) (es : List S48) (i : Nat) : Prop := if i = 0 then s.bi < (rd_T48 es 0).f2 ∧ (rd_T48 es 0).f2 ≤ s.last + 1 else (rd_T48 es i).f2 = (rd_T48 es ((i : Int) - 1)).f2 + 1
theorem rd48_succ (x : S48) (es : List S48) (n : Nat) : rd_T48 (x :: es) ((n : Int) + 1) = rd_T48 es n := by
  unfold rd_T48
  rw [show ((n : Int) + 1).toNat = n + 1 by omega, Int.toNat_natCast, List.getD_cons_succ]
theorem rowOk_of : ∀ {x : S48} {es : List S48}, (∀ i : Nat, i < es.length → (rd_T48 (x :: es) ((i : Int) + 1)).f2 = (rd_T48 (x :: es) i).f2 + 1) → rowOk x es
  | _, [], _ => trivial
  | x, y :: es, h => by
    refine ⟨?_, rowOk_of (fun i hi => ?_)⟩
    · have := h 0 (by simp)
      simpa [rd_T48] using this
    · have := h (i + 1) (by simp; omega)
      rw [rd48_succ, show ((i + 1 : Nat) : Int) = (i : Int) + 1 by omega, rd48_succ] at this
      exact this
theorem rowOk_at : ∀ {x : S48} {es : List S48}, rowOk x es → ∀ i : Nat, i < es.length → (rd_T48 (x :: es) ((i : Int) + 1)).f2 = (rd_T48 (x :: es) i).f2 + 1
  | _, [], _, i, hi => by simp at hi
  | x, y :: es, h, 0, _ => by simpa [rd_T48] using h.1
  | x, y :: es, h, i + 1, hi => by
    have := rowOk_at h.2 i (by simp at hi; omega)
    rw [rd48_succ, show ((i + 1 : Nat) : Int) = (i : Int) + 1 by omega, rd48_succ]
    exact this
theorem fits_of {s : WS} {es : List S48} (h : ∀ i, i < es.length → chkAt s es i) : fitsOk s es := by
  cases es with
  | nil => trivial
  | cons x es =>
    refine ⟨?_, rowOk_of (fun i hi => ?_)⟩
    · have := h 0 (by simp)
      unfold chkAt at this
      rw [if_pos rfl] at this
      simpa [rd_T48] using this
    · have := h (i + 1) (by simp; omega)
      unfold chkAt at this
      rw [if_neg (by omega)] at this
      rw [show ((i + 1 : Nat) : Int) - 1 = i by omega, show ((i + 1 : Nat) : Int) = (i : Int) + 1 by omega] at this
      exact this
theorem fits_at {s : WS} {es : List S48} (h : fitsOk s es) {i : Nat} (hi : i < es.length) : chkAt s es i := by
  cases es with
  | nil => simp at hi
  | cons x es =>
    unfold chkAt
    cases i with
    | zero => rw [if_pos rfl]; simpa [rd_T48] using h.1
    | succ i =>
      rw [if_neg (by omega), show ((i + 1 : Nat) : Int) - 1 = i by omega, show ((i + 1 : Nat) : Int) = (i : Int) + 1 by omega]
      exact rowOk_at h.2 i (by simp at hi; omega)
theorem adds_snoc (s : WS) (a : List S48) (x : S48) : s.adds (a ++ [x]) = (s.adds a).add x := by unfold WS.adds; rw [List.foldl_append]; rfl
theorem adds_bi (s : WS) : ∀ es : List S48, (s.adds es).bi = s.bi ∧ (s.adds es).bt = s.bt ∧ (s.adds es).ht = s.ht ∧ (s.adds es).hv = s.hv := by
  intro es
  induction es generalizing s with
  | nil => exact ⟨rfl, rfl, rfl, rfl⟩
  | cons x es ih => exact ih (s.add x)
theorem add_len {s : WS} {x : S48} (h : s.fit x) : ((s.add x).es.length : Int) = x.f2 - s.bi := by
  unfold WS.fit at h
  unfold WS.add
  rw [List.length_append, List.length_take, List.length_singleton]
  omega
/-- What is added fits, one by one. -/
theorem adds_fit {s : WS} {es : List S48} (h : fitsOk s es) : ∀ i : Nat, i < es.length → (s.adds (es.take i)).fit (rd_T48 es i) ∧ (0 < i → ((s.adds (es.take i)).es.length : Int) = (rd_T48 es ((i : Int) - 1)).f2 - s.bi)
  | 0, hi => by
    have := fits_at h hi
    unfold chkAt at this
    rw [if_pos rfl] at this
    unfold WS.last at this
    refine ⟨?_, fun h => absurd h (by omega)⟩
    unfold WS.fit
    show 0 ≤ (rd_T48 es 0).f2 - s.bi - 1 ∧ (rd_T48 es 0).f2 - s.bi - 1 ≤ s.es.length
    omega
  | i + 1, hi => by
    have ih := adds_fit h i (by omega)
    have hc := fits_at h hi
    unfold chkAt at hc
    rw [if_neg (by omega)] at hc
    have htk : es.take (i + 1) = es.take i ++ [rd_T48 es i] := by
      rw [List.take_add_one, show es[i]? = some (rd_T48 es i) from rd48_at (i := (i : Int)) (by omega) (by omega)]; rfl
    have hl := add_len ih.1
    rw [(adds_bi s _).1] at hl
    have e1 : ((i + 1 : Nat) : Int) - 1 = i := by omega
    rw [e1] at hc ⊢
    rw [htk, adds_snoc]
    refine ⟨?_, fun _ => hl⟩
    unfold WS.fit
    have hb : ((s.adds (es.take i)).add (rd_T48 es i)).bi = s.bi := (adds_bi s _).1
    rw [hb, hl]
    have h0 := ih.1
    unfold WS.fit at h0
    rw [(adds_bi s _).1] at h0
    omega
theorem adds_ok {s : WS} {es : List S48} (hs : WOk s) (h : fitsOk s es) (he : ∀ x ∈ es, EOk x) : ∀ i : Nat, i ≤ es.length → WOk (s.adds (es.take i)) ∧ (s.adds (es.take i)).es.length ≤ s.es.length + i
  | 0, _ => ⟨by simpa [WS.adds] using hs, by simp [WS.adds]⟩
  | i + 1, hi => by
    have ih := adds_ok hs h he i (by omega)
    have hf := (adds_fit h i (by omega)).1
    have hx : es[i]? = some (rd_T48 es i) := rd48_at (i := (i : Int)) (by omega) (by omega)
    have htk : es.take (i + 1) = es.take i ++ [rd_T48 es i] := by rw [List.take_add_one, hx]; rfl
    rw [htk, adds_snoc]
    refine ⟨ih.1.add hf (he _ (List.mem_of_getElem? hx)), ?_⟩
    unfold WS.add
    rw [List.length_append, List.length_take, List.length_singleton]
    omega
end Go.Proofs.Ytmmiipnmimjojaa.PS
end
section
/- wal.Log: Append. -/
namespace Go.Proofs.Ytmmiipnmimjojaa.PS
open Go.RowKit Go.Proofs.YtmmiipnmimjojaaW.PrintWords Go.Proofs.YtmmiipnmimjojaaW.PrintLast Go.Proofs.YtmmiipnmimjojaaW.PrintMore
open Go.Maps Go.Proofs.Ytmmiipnmimjojaa.PD
set_option linter.unusedVariables false
set_option linter.unusedSimpArgs false
theorem at_T48F {w : World} {ok : Nat → Prop} {A : Option Addr} {n : Nat} {xs : List S48} (h : Kd.F k48 w ok A n xs) (i : Int) (h0 : 0 ≤ i) (h1 : i < n) : ∃ ad A3 c3, A = some ad ∧ w.cell? (ad.add (i.toNat * 4)) = some (.int .i64 (rd_T48 xs i).f0) ∧ w.cell? ⟨(ad.add (i.toNat * 4)).block, (ad.add (i.toNat * 4)).off + 1, none⟩ = some (.int .i64 (rd_T48 xs i).f1) ∧ w.cell? ⟨(ad.add (i.toNat * 4)).block, (ad.add (i.toNat * 4)).off + 2, none⟩ = some (.int .i64 (rd_T48 xs i).f2) ∧ w.cell? ⟨(ad.add (i.toNat * 4)).block, (ad.add (i.toNat * 4)).off + 3, none⟩ = some (.slice A3 (rd_T48 xs i).f3.length c3) ∧ (rd_T48 xs i).f3.length ≤ c3 ∧ Kd.F k8 w ok A3 (rd_T48 xs i).f3.length (rd_T48 xs i).f3 := by
  obtain ⟨ad, c, e, _, hK, hc0, _⟩ := Kd.F_get h z48 i h0 h1
  have hc : ∀ j u, c[j]? = some u → w.cell? (ad.add (i.toNat * 4 + j)) = some u := hc0
  obtain ⟨A3, c3, rfl, l3, g3⟩ := k48_openF hK
  exact ⟨ad, A3, c3, e, hc 0 _ rfl, by rw [← add_field _ _ 1 (by omega)]; exact hc 1 _ rfl, by rw [← add_field _ _ 2 (by omega)]; exact hc 2 _ rfl, by rw [← add_field _ _ 3 (by omega)]; exact hc 3 _ rfl, l3, g3⟩
theorem F_bysE {W w' : World} {S S' : Nat → Prop} {L n : Nat} {A : Option Addr} {l : List S48} (h : Bys W S w' S' L) (hF : Kd.F k48 W (fun k => (¬ S k ∧ k ≠ L) ∧ k < W.heap.size) A n l) (hsz : W.heap.size ≤ w'.heap.size) : Kd.F k48 w' (fun k => (¬ S' k ∧ k ≠ L) ∧ k < w'.heap.size) A n l :=
  Kd.F_mono (Kd.F_step hF fun k hk hlt => (h.step hlt hk.1.1 hk.1.2).1) (fun k hk => ⟨⟨(h.step hk.2 hk.1.1 hk.1.2).2, hk.1.2⟩, Nat.lt_of_lt_of_le hk.2 hsz⟩)
/-- The log's own add. -/
theorem add_w {W0 W : World} {S Q : Nat → Prop} {g N L : Nat} {D : Dsk} {M : LM} {x : S48} {Ax : Option Addr} {cx : Nat} (h : Wl W0 W S Q g N L D M) (hs : WOk M.st) (hsl : M.st.es.length ≤ 1000000) (hx : Kd.F k8 W (fun k => Q k ∧ k ≠ L) Ax x.f3.length x.f3) (hcx : x.f3.length ≤ cx) (hok : EOk x) (hf : M.st.fit x) :
    Calls Try.prog 74 #[.pointer (some ⟨L, 1, none⟩), .agg #[.int .i64 x.f0, .int .i64 x.f1, .int .i64 x.f2, .slice Ax x.f3.length cx]] W fun e w' => e = .returned (.bool true) ∧ ∃ S' Q', Wl W0 w' S' Q' g N L D { M with st := M.st.add x } ∧ Bys W S w' S' L ∧ (∀ k, k < W.heap.size → Q' k → Q k) ∧ ∀ k, Q k → Q' k := by
  obtain ⟨A, c, hb, hc, hF⟩ := h.cells
  have hxb := (ent_bad hok).1
  unfold entBad at hxb
  have hff := hf
  unfold WS.fit at hff
  refine (add_fit (W := W) (X := L) (o := 1) (t := 126) (cs := lgC g M (.slice A M.st.es.length c)) (bt := M.st.bt) (ht := M.st.ht) (hv := M.st.hv) (x := x) (P := fun k => Q k ∧ k ≠ L) ⟨hb, rfl, rfl, rfl, rfl, rfl⟩ hF hc (fun hp => hp.2 rfl) hx hcx hs.mark.1 ⟨by omega, by omega⟩ hsl (x.f2 - M.st.bi - 1).toNat (by omega) (by omega) (by decide)).mono ?_
  rintro e w' ⟨rfl, v, hst, hv, hk⟩
  have hL := h.q L h.lg.1
  refine ⟨rfl, S, fun k => Q k ∨ (W.heap.size ≤ k ∧ k < w'.heap.size), ⟨?_, ⟨.inl h.lg.1, v, ?_, ?_⟩, fun k hq => ?_⟩, ⟨hk.size, fun b o hb' => ⟨(hk.block b (blk_lt hb'.at_) hb'.nl).trans hb'.at_, hb'.ns, hb'.nl⟩⟩, fun k hlt hq => hq.elim id (fun hh => absurd hlt (by omega)), fun _ h => .inl h⟩
  · exact h.dk.kp (h.dk.1.trans (hk.below (B := W0.heap.size) (fun i hi _ => by rw [hi]; exact hL.1) h.dk.1.size)) hk (fun i hS e => hL.2.2 (e ▸ hS))
  · have hb2 := hst.blk
    rw [hb2]
    unfold lgC
    simp [WS.add]
  · obtain ⟨A', c', rfl, hc', hF'⟩ := hv
    refine ⟨A', c', rfl, hc', Kd.F_mono (Kd.F_bound hF') (fun k hk' => ?_)⟩
    rcases hk'.1 with ⟨hq, _⟩ | h1
    · exact ⟨.inl hq.1, hq.2⟩
    · exact ⟨.inr ⟨h1, hk'.2⟩, by have := h.lt; omega⟩
  · rcases hq with hq | ⟨h1, h2⟩
    · obtain ⟨q1, q2, q3⟩ := h.q k hq
      exact ⟨q1, Nat.lt_of_lt_of_le q2 hk.size, q3⟩
    · have hs0 := h.dk.1.size
      exact ⟨by omega, h2, fun hS => by have := (h.dk.2.1 k hS).2; omega⟩
set_option maxHeartbeats 16000000 in
set_option maxRecDepth 100000 in
theorem append_calls {W0 W : World} {S Q : Nat → Prop} {g N L : Nat} {D : Dsk} {M : LM} {Ae : Option Addr} {ce : Nat} {es : List S48} (h : Wl W0 W S Q g N L D M) (hm : MOk M) (hN : N ≤ 800000) (hn : M.n ≤ 900000000) (hnm : namedB (nameB (M.n + 1)) = true)
    (hE : Kd.F k48 W (fun k => (¬ S k ∧ k ≠ L) ∧ k < W.heap.size) Ae es.length es) (hce : es.length ≤ ce) (hel : es.length ≤ 100000) (hob : ∀ x ∈ es, okBytes x.f3 = true) (hfew : M.st.es.length + es.length ≤ 500000) :
    Calls Try.prog 27 #[.pointer (some ⟨L, 0, none⟩), .slice Ae es.length ce] W (ErrP W0 W S Q g (N + 2) L (lgAppend D M es)) := by
  obtain ⟨R, hR⟩ : ∃ R, lgAppend D M es = R := ⟨_, rfl⟩
  have hR0 := hR
  unfold lgAppend at hR0
  rw [hR]
  have HR0 := Aside0.mk hR0
  have HW := Aside0.mk h
  have HM := Aside0.mk hm
  have HNM := Aside0.mk hnm
  have HE := Aside0.mk hE
  have HOB := Aside0.mk hob
  have hmk := hm.st.mark
  clear hR hR0 h hm hnm hE hob
  go_enter Try.func27, Try.ntmps27
  go_wp2_with fail
  go_loopg [5, 19] es.length (fun kq v5 v19 w' => ∃ (i : Int) (X : List Int), v19 = .int .i64 i ∧ 0 ≤ i ∧ i + kq = es.length ∧ X.length ≤ 3000 * i.toNat ∧ Aside0 (X = recsB ((es.take i.toNat).map .ent)) ∧ Aside0 (k8.R 5 w' W.heap.size (fun _ => True) v5 X) ∧ Aside0 (Below W.heap.size W w') ∧ Aside0 (∀ y ∈ es.take i.toNat, EOk y))
  case atStart => exact ⟨0, [], rfl, by omega, by omega, by simp, ⟨rfl⟩, ⟨Kd.R_nil _ _ _ _ _⟩, ⟨Below.refl _ _⟩, ⟨fun y hy => by simp at hy⟩⟩
  case round =>
    obtain ⟨i, X, rfl, i0, i1, hlX, HX, HR, HB, HOK⟩ := hrel
    by_cases hi : i < (es.length : Int)
    · have c6 : decide (i < (es.length : Int)) = true := decide_eq_true hi
      have hxe := rd48_at i0 hi
      obtain ⟨ad, A6, c6', rfl, y0, y1, y2, y3, hc6, hC6⟩ := at_T48 (Kd.C_below (Kd.F_now HE.out) HB.out) i i0 hi
      have htk : es.take (i + 1).toNat = es.take i.toNat ++ [rd_T48 es i] := by
        rw [show (i + 1).toNat = i.toNat + 1 by omega, List.take_add_one, hxe]; rfl
      have hobx := HOB.out _ (List.mem_of_getElem? hxe)
      have hxe2 : es[i.toNat]? = some (rd_T48 es i) := hxe
      obtain ⟨x, hx⟩ : ∃ x, rd_T48 es i = x := ⟨_, rfl⟩
      rw [hx] at y0 y1 y2 y3 hc6 hC6 htk hobx hxe2
      have HTK := Aside0.mk htk
      have HC6 := Aside0.mk hC6
      have HXE := Aside0.mk hxe2
      obtain ⟨e, he⟩ : ∃ e, entErr x.f0 x.f1 x.f2 x.f3 = e := ⟨_, rfl⟩
      have p0 := eq_true i0
      have p1 := eq_true hi
      have hni : IntKind.i64.wrap (i + 1) = i + 1 := IntWalk.i64_in _ ⟨by omega, by omega⟩
      obtain ⟨Av, cv, rfl⟩ := Kd.R_slice HR.out
      by_cases he0 : e = 0
      · have heok : EOk x := ⟨he.trans he0, hobx⟩
        have HEO := Aside0.mk heok
        obtain ⟨Z, hZ⟩ : ∃ Z, entBytes x.f0 x.f1 x.f2 x.f3 = Z := ⟨_, rfl⟩
        have hzl : Z.length ≤ 2067 := by rw [← hZ]; exact (entBytes_len (ent_bad heok).1 (ent_bad heok).2).2
        have HZ := Aside0.mk hZ
        clear htk hC6 hx hZ heok he he0 hobx hxe hxe2
        go_wp2_with fail
        refine (wire_PutEntry.calls 20 _ _ _ A6 c6' x.f3 Z 0 _ (Kd.C_below HC6.out (below_alloc (Below.refl _ _) _)) hc6 (by rw [PutEntry_f (by omega), if_pos HEO.out.1, HZ.out])).mono ?_
        rintro e w6 ⟨v6, rfl, hR6, hB6⟩
        have hB6' := below_step (below_alloc (Below.refl wr.heap.size wr) _) hB6
        have HB6 := Aside0.mk (below_step HB.out hB6')
        have HR6 := Aside0.mk (Kd.R_below HR.out hB6')
        obtain ⟨A7, c7, rfl⟩ := Kd.R_slice hR6
        have HC7 := Aside0.mk (Kd.R_reads' hR6).2.2
        have hc7 := (Kd.R_reads' hR6).2.1
        clear hR6 hB6 hB6' y0 y1 y2 y3 HR HB
        go_wp2_with fail
        refine (record_calls 3 HC7.out hc7 (by omega)).mono ?_
        rintro e w7 ⟨v7, rfl, hR7, hB7⟩
        have HB7 := Aside0.mk (below_step HB6.out hB7)
        have HR7 := Aside0.mk (Kd.R_below HR6.out hB7)
        obtain ⟨F7, hF7⟩ : ∃ F, frameB (3 :: Z) = F := ⟨_, rfl⟩
        have hlf : F7.length ≤ 3000 := by rw [← hF7, frameB_len, List.length_cons]; omega
        rw [hF7] at hR7
        have HF7 := Aside0.mk hF7
        obtain ⟨A8, c8, rfl⟩ := Kd.R_slice hR7
        have HC8 := Aside0.mk (Kd.R_reads' hR7).2.2
        clear hR7 hB7 hF7 hc7
        go_wp2_with (first
          | ((with_reducible refine gate_builtin (b := .append) (xs := #[.tmp 31, .tmp 33]) rfl ?_); at_builtin; refine Kd.R_append_rows k8 (w0 := W) W.heap.size (by rfl) (.tmp 31) (.tmp 33) 22 5 (.int .u8 0) 1 (by rfl) Try.underlying22 info5 (by rfl) (by decide) (by decide) _ X F7 A8 F7.length c8 (fun _ => True) (fun _ => False) (by rfl) (by rfl) HR7.out HC8.out (fun _ _ h => h) (fun _ h => h.elim) (fun _ _ => trivial) HB7.out HB7.out.size (by omega) ?_; intro v9 w9 hR hb9 hg hat; obtain ⟨X9, hX9⟩ : ∃ Y, X ++ F7 = Y := ⟨_, rfl⟩; rw [hX9] at hR; have HX9 := Aside0.mk hX9; clear hX9; have HO9 := Aside0.mk hR; have HB9 := Aside0.mk hb9; clear hR hb9 hg hat)
          | fail)
        go_roundg (gk - 1)
        case measure => omega
        case rel =>
          refine ⟨i + 1, X9, rfl, by omega, by omega, ?_, ⟨?_⟩, HO9, HB9, ⟨fun y hy => ?_⟩⟩
          · have := HX9.out; rw [← this, List.length_append]; omega
          · have h1 := HX9.out
            have h2 := HX.out
            rw [← h1, h2, HTK.out, List.map_append]
            refine (congrArg _ ?_).trans (recsB_snoc _ (.ent x)).symm
            rw [← HF7.out, ← HZ.out]; rfl
          · rw [HTK.out] at hy
            rcases List.mem_append.1 hy with hy | hy
            · exact HOK.out y hy
            · rw [List.mem_singleton.1 hy]; exact HEO.out
      · have hes : entsErr es = e := entsErr_at (fun y hy => (HOK.out y hy).1) HXE.out he he0
        have HRR := Aside0.mk (show R = (e, D, M) by rw [← HR0.out, if_pos (by rw [hes]; exact he0), hes])
        have HHE := Aside0.mk he
        have t1 : (e != 0) = true := by simpa using he0
        have t2 : (e == 0) = false := beq_eq_false_iff_ne.mpr he0
        have HPE := Aside0.mk (show ∀ w, k8.C w A6 x.f3.length x.f3 → Calls Try.prog 70 #[.agg #[.int .i64 x.f0, .int .i64 x.f1, .int .i64 x.f2, .slice A6 x.f3.length c6']] w fun e' w' => ∃ v0_ : Value, e' = .returned (.tuple #[v0_, .int .i64 e]) ∧ k8.R 5 w' w.heap.size (fun _ => True) v0_ [] ∧ Below w.heap.size w w' from fun w hw =>
          wire_PutEntry.calls 20 _ _ _ A6 c6' x.f3 [] e w hw hc6 (by rw [PutEntry_f (by omega), he, if_neg he0]))
        clear htk hC6 hx he he0 hobx hxe hxe2 hes
        go_wp2_with fail
        refine (HPE.out _ (Kd.C_below HC6.out (below_alloc (Below.refl _ _) _))).mono ?_
        rintro e6 w6 ⟨v6, rfl, hR6, hB6⟩
        have HB6 := Aside0.mk (below_step HB.out (below_step (below_alloc (Below.refl wr.heap.size wr) _) hB6))
        clear hR6 hB6
        go_wp2_with fail
        go_ret
        rw [HRR.out]
        exact ⟨rfl, S, Q, (HW.out.below HB6.out).mono (by omega), Bys.of_below HB6.out, fun _ _ h => h⟩
    · have c6 : decide (i < (es.length : Int)) = false := decide_eq_false hi
      have he : i.toNat = es.length := by omega
      have hall : ∀ y ∈ es, EOk y := by have := HOK.out; rw [he, List.take_length] at this; exact this
      have HALL := Aside0.mk hall
      have HXF := Aside0.mk (show X = recsB (es.map .ent) by rw [HX.out, he, List.take_length])
      have HES := Aside0.mk (entsErr_all (fun y hy => (hall y hy).1))
      have hlX2 : X.length ≤ 3000 * es.length := by omega
      clear he hall hlX HX HOK
      obtain ⟨Av, cv, rfl⟩ := Kd.R_slice HR.out
      go_wp2_with fail
      obtain ⟨wo, rfl⟩ : ∃ wo : World, wo = wr := ⟨_, rfl⟩
      clear c6 i0 i1 hi
      go_loopg [38] es.length (fun kq v38 w' => ∃ i : Int, v38 = .int .i64 i ∧ 0 ≤ i ∧ i + kq = es.length ∧ Aside0 (Below wo.heap.size wo w') ∧ Aside0 (∀ j : Nat, (j : Int) < i → chkAt M.st es j))
      case atStart => exact ⟨0, rfl, by omega, by omega, ⟨Below.refl _ _⟩, ⟨fun j hj => absurd hj (by omega)⟩⟩
      case round =>
        obtain ⟨i, rfl, i0, i1, HB2, HCK⟩ := hrel
        by_cases hi : i < (es.length : Int)
        · have c6 : decide (i < (es.length : Int)) = true := decide_eq_true hi
          have HBW := Aside0.mk (below_step HB.out HB2.out)
          have hCr := Kd.C_below (Kd.F_now HE.out) HBW.out
          obtain ⟨ad, A6, c6', rfl, y0, y1, y2, y3, hc6, hC6⟩ := at_T48 hCr i i0 hi
          have hxe := rd48_at i0 hi
          have hxo := (ent_bad (HALL.out _ (List.mem_of_getElem? hxe))).1
          have hck : chkAt M.st es i.toNat ↔ if i.toNat = 0 then M.st.bi < (rd_T48 es 0).f2 ∧ (rd_T48 es 0).f2 ≤ M.st.last + 1 else (rd_T48 es (i.toNat : Int)).f2 = (rd_T48 es ((i.toNat : Int) - 1)).f2 + 1 := Iff.rfl
          have hii : (i.toNat : Int) = i := by omega
          rw [hii] at hck
          obtain ⟨x, hx⟩ : ∃ x, rd_T48 es i = x := ⟨_, rfl⟩
          have p0 := eq_true i0
          have p1 := eq_true hi
          have hni : IntKind.i64.wrap (i + 1) = i + 1 := IntWalk.i64_in _ ⟨by omega, by omega⟩
          have HWa := Aside0.mk ((HW.out.below HBW.out).below (below_alloc (Below.refl _ _) (.cells #[.int .i64 x.f0, .int .i64 x.f1, .int .i64 x.f2, .slice A6 x.f3.length c6'] 48)))
          have HBa := Aside0.mk (below_alloc HBW.out (.cells #[.int .i64 x.f0, .int .i64 x.f1, .int .i64 x.f2, .slice A6 x.f3.length c6'] 48))
          have HLQ := Aside0.mk (show ∀ n, Calls Try.prog 29 #[.pointer (some ⟨L, 0, none⟩)] ((wr.alloc (.cells #[.int .i64 x.f0, .int .i64 x.f1, .int .i64 x.f2, .slice A6 x.f3.length c6'] 48)).drewN n) fun e w' => e = .returned (.int .i64 M.st.last) ∧ ∃ m, w' = (wr.alloc (.cells #[.int .i64 x.f0, .int .i64 x.f1, .int .i64 x.f2, .slice A6 x.f3.length c6'] 48)).drewN m from fun n => ((HWa.out.below (pw_below_drewN (Below.refl _ _) n)).last HM.out).mono (fun _ _ hh => ⟨hh.1, n + 1, by rw [hh.2, World.drewN_drewN]⟩))
          obtain ⟨AL, cL, ⟨ka1, _, _, _, _⟩, _⟩ := HWa.out.cell1
          rw [hx] at y0 y1 y2 y3 hc6 hC6 hck hxo
          unfold entBad at hxo
          have hlast : M.st.last = M.st.bi + M.st.es.length := rfl
          obtain ⟨la, hla⟩ : ∃ la, M.st.last = la := ⟨_, rfl⟩
          obtain ⟨bi, hbi⟩ : ∃ bi, M.st.bi = bi := ⟨_, rfl⟩
          rw [hla, hbi] at hck hlast
          rw [hla] at HLQ
          rw [hbi] at ka1
          have hmb : 0 ≤ bi ∧ bi ≤ 1099511627776 := by rw [← hbi]; exact hmk.1
          have hwl : IntKind.i64.wrap (la + 1) = la + 1 := IntWalk.i64_in _ ⟨by omega, by omega⟩
          have hnck : ¬ chkAt M.st es i.toNat → R = (2, D, M) := fun hn => by
            rw [← HR0.out, if_neg (by rw [HES.out]; decide), if_pos (fun hf => hn (fits_at hf (by omega)))]
          have HNC := Aside0.mk hnck
          have HCY : Aside0 (chkAt M.st es i.toNat → ∀ j : Nat, (j : Int) < i + 1 → chkAt M.st es j) := ⟨fun hy j hj => by
            by_cases hji : (j : Int) < i
            · exact HCK.out j hji
            · have : j = i.toNat := by omega
              rw [this]; exact hy⟩
          by_cases hz : i = 0
          · have hzb : (i == 0) = true := by rw [hz]; rfl
            have c00 : decide (0 < i) = false := decide_eq_false (by omega)
            rw [if_pos (show i.toNat = 0 by omega), show rd_T48 es 0 = x from by rw [← hx, hz]] at hck
            by_cases h1 : x.f2 ≤ bi
            · have c1 : decide (x.f2 ≤ bi) = true := decide_eq_true h1
              have HRR := Aside0.mk (HNC.out (fun hc => by have := hck.1 hc; omega))
              clear hck hx hC6 hxe hla hbi hlast hnck hCr hz
              go_wp2_with fail
              go_quiet ((go_at_call 29; exact HLQ.out _))
              go_wp2_with fail
              go_ret
              rw [HRR.out]
              exact ⟨rfl, S, Q, (HWa.out.below (pw_below_drewN (Below.refl _ _) _)).mono (by omega), Bys.of_below (pw_below_drewN HBa.out _), fun _ _ h => h⟩
            · have c1 : decide (x.f2 ≤ bi) = false := decide_eq_false h1
              by_cases h2 : la + 1 < x.f2
              · have c2 : decide (la + 1 < x.f2) = true := decide_eq_true h2
                have HRR := Aside0.mk (HNC.out (fun hc => by have := hck.1 hc; omega))
                clear hck hx hC6 hxe hla hbi hlast hnck hCr hz
                go_wp2_with fail
                go_quiet ((go_at_call 29; exact HLQ.out _))
                go_wp2_with fail
                go_ret
                rw [HRR.out]
                exact ⟨rfl, S, Q, (HWa.out.below (pw_below_drewN (Below.refl _ _) _)).mono (by omega), Bys.of_below (pw_below_drewN HBa.out _), fun _ _ h => h⟩
              · have c2 : decide (la + 1 < x.f2) = false := decide_eq_false h2
                have HCN := Aside0.mk (HCY.out (hck.2 (by omega)))
                clear hck hx hC6 hxe hla hbi hlast hnck hCr hz
                go_wp2_with fail
                go_quiet ((go_at_call 29; exact HLQ.out _))
                go_wp2_with fail
                go_roundg (gk - 1)
                case measure => omega
                case rel => exact ⟨i + 1, rfl, by omega, by omega, ⟨pw_below_drewN (below_alloc HB2.out _) _⟩, HCN⟩
          · have hz0 : ¬ i.toNat = 0 := by omega
            rw [if_neg hz0] at hck
            have hzb : (i == 0) = false := beq_eq_false_iff_ne.mpr hz
            have hpos : (0 : Int) < i := by omega
            have c0 : decide (0 < i) = true := decide_eq_true hpos
            obtain ⟨d, hd⟩ : ∃ d, i - 1 = d := ⟨_, rfl⟩
            have hwd : IntKind.i64.wrap (i - 1) = d := by rw [← hd]; exact IntWalk.i64_in _ ⟨by omega, by omega⟩
            have d0 : (0 : Int) ≤ d := by omega
            have d1 : d < (es.length : Int) := by omega
            rw [hd] at hck
            obtain ⟨ad', A7, c7', had, z0, z1, z2, z3, _⟩ := at_T48 hCr d d0 d1
            injection had with had
            subst had
            have hyo := (ent_bad (HALL.out _ (List.mem_of_getElem? (rd48_at d0 d1)))).1
            unfold entBad at hyo
            obtain ⟨y, hy⟩ : ∃ y, rd_T48 es d = y := ⟨_, rfl⟩
            rw [hy] at z2 hck hyo
            have hwy : IntKind.i64.wrap (y.f2 + 1) = y.f2 + 1 := IntWalk.i64_in _ ⟨by omega, by omega⟩
            have za2 := ((below_alloc (Below.refl wr.heap.size wr) (.cells #[.int .i64 x.f0, .int .i64 x.f1, .int .i64 x.f2, .slice A6 x.f3.length c6'] 48)).cell (World.block_lt_of_cell? wr _ z2)).trans z2
            by_cases h1 : x.f2 = y.f2 + 1
            · have c1 : (x.f2 != y.f2 + 1) = false := by simp [bne, h1]
              have HCN := Aside0.mk (HCY.out (hck.2 h1))
              have e1 := eq_true d0
              have e2 := eq_true d1
              clear hck hx hC6 hxe hla hbi hlast hnck hCr hd hy z0 z1 z2 z3 hz h1
              go_wp2_with fail
              go_quiet ((go_at_call 29; exact HLQ.out _))
              go_wp2_with fail
              go_roundg (gk - 1)
              case measure => omega
              case rel => exact ⟨i + 1, rfl, by omega, by omega, ⟨pw_below_drewN (below_alloc HB2.out _) _⟩, HCN⟩
            · have c1 : (x.f2 != y.f2 + 1) = true := by simpa using h1
              have HRR := Aside0.mk (HNC.out (fun hc => h1 (hck.1 hc)))
              have e1 := eq_true d0
              have e2 := eq_true d1
              clear hck hx hC6 hxe hla hbi hlast hnck hCr hd hy z0 z1 z2 z3 hz h1
              go_wp2_with fail
              go_quiet ((go_at_call 29; exact HLQ.out _))
              go_wp2_with fail
              go_ret
              rw [HRR.out]
              exact ⟨rfl, S, Q, (HWa.out.below (pw_below_drewN (Below.refl _ _) _)).mono (by omega), Bys.of_below (pw_below_drewN HBa.out _), fun _ _ h => h⟩
        · have c6 : decide (i < (es.length : Int)) = false := decide_eq_false hi
          have he : i = es.length := by omega
          have HFT := Aside0.mk (show fitsOk M.st es from fits_of (fun j hj => HCK.out j (by omega)))
          clear he HCK
          have HBW := Aside0.mk (below_step HB.out HB2.out)
          have HWr := Aside0.mk (HW.out.below HBW.out)
          have HRr := Aside0.mk (Kd.R_below HR.out HB2.out)
          have HR1 := Aside0.mk (show R = if es = [] then (0, D, M) else if (lgPut D M X).1 = 0 then (0, (lgPut D M X).2.1, { (lgPut D M X).2.2 with st := M.st.adds es }) else lgPut D M X by
            rw [← HR0.out, if_neg (by rw [HES.out]; decide), if_neg (fun hn => hn HFT.out), HXF.out])
          by_cases hemp : es = []
          · have c1 : ((es.length : Int) == 0) = true := by rw [hemp]; rfl
            have HRR := Aside0.mk (show R = (0, D, M) by rw [HR1.out, if_pos hemp])
            clear hemp
            go_wp2_with fail
            go_ret
            rw [HRR.out]
            exact ⟨rfl, S, Q, HWr.out.mono (by omega), Bys.of_below HBW.out, fun _ _ h => h⟩
          have hlp : 0 < es.length := Nat.pos_of_ne_zero (fun h => hemp (List.eq_nil_of_length_eq_zero h))
          have c1 : ((es.length : Int) == 0) = false := beq_eq_false_iff_ne.mpr (by omega)
          obtain ⟨P, hP⟩ : ∃ P, lgPut D M X = P := ⟨_, rfl⟩
          have HST := Aside0.mk (show P.2.2.st = M.st by rw [← hP]; exact put_st D M X)
          have HR2 := Aside0.mk (show R = if P.1 = 0 then (0, P.2.1, { P.2.2 with st := M.st.adds es }) else P by rw [HR1.out, if_neg hemp, hP])
          have HPC := Aside0.mk (put_calls HWr.out HM.out hN hn HNM.out (F_new (w2 := wr) HW.out (Nat.le_refl _) HRr.out) (Kd.R_reads' HRr.out).2.1 (by omega))
          rw [hP] at HPC
          clear hP hemp
          go_wp2_with fail
          refine HPC.out.mono ?_
          rintro e w4 ⟨rfl, S4, Q4, hw4, hB4, hq4⟩
          have HW4 := Aside0.mk hw4
          have HB4 := Aside0.mk ((Bys.of_below (S := S) (L := L) HBW.out).trans hB4)
          have HQ4 := Aside0.mk (show ∀ k, k < W.heap.size → Q4 k → Q k from fun k hk h4 => hq4 k (Nat.lt_of_lt_of_le hk HBW.out.size) h4)
          obtain ⟨p, hp⟩ : ∃ p, P.1 = p := ⟨_, rfl⟩
          have HPP := Aside0.mk hp
          rw [hp] at HR2 ⊢
          clear hw4 hB4 hq4 hp
          by_cases hp0 : p = 0
          · have t1 : (p == 0) = true := by rw [hp0]; rfl
            have t2 : (p != 0) = false := by simp [bne, t1]
            have HRR := Aside0.mk (show R = (0, P.2.1, { P.2.2 with st := M.st.adds es }) by rw [HR2.out, if_pos hp0])
            clear hp0
            have HE4 := Aside0.mk (F_bysE HB4.out HE.out HB4.out.size)
            have HCP := Aside0.mk (copied_calls (c := ce) HE4.out (by omega) (fun x hx => Nat.le_trans (ent_bad (HALL.out x hx)).2 (by omega)))
            go_wp2_with fail
            refine HCP.out.mono ?_
            rintro e5 w5 ⟨v5, rfl, hn5, hb5⟩
            have hmid := compact_mid (v := v5) (l := es) HW4.out (Kd.N_mono hn5 (fun k hk => .inr hk)) hb5
            obtain ⟨A5, c5, rfl⟩ := Kd.N_slice hn5
            obtain ⟨Q5, hmw, hmv, hmq⟩ : ∃ Q5 : Nat → Prop, Wl W0 w5 S4 Q5 g (N + 2) L P.2.1 P.2.2 ∧ Kd.V k48 48 w5 0 (fun k => Q5 k ∧ k ≠ L) (.slice A5 es.length c5) es ∧ ∀ k, Q5 k → Q4 k ∨ (w4.heap.size ≤ k ∧ k < w5.heap.size) := ⟨_, hmid.1, hmid.2, fun _ h => h⟩
            have HW5 := Aside0.mk hmw
            have HV5 := Aside0.mk hmv
            have HB5 := Aside0.mk (HB4.out.trans (Bys.of_below hb5))
            have HHQ5 := Aside0.mk (show ∀ k, k < W.heap.size → Q5 k → Q k from fun k hk hh => (hmq k hh).elim (fun h4 => HQ4.out k hk h4) (fun h4 => absurd hk (Nat.not_lt.2 (Nat.le_trans HB4.out.size h4.1))))
            clear hmid hn5 hb5 hmw hmv hmq
            go_wp2_with fail
            go_loopg [93] es.length (fun kq v93 w' => ∃ i : Int, v93 = .int .i64 i ∧ 0 ≤ i ∧ i + kq = es.length ∧ Aside0 (Below w5.heap.size w5 w5) ∧ Aside0 (∃ S' Q', Wl W0 w' S' Q' g (N + 2) L P.2.1 { P.2.2 with st := M.st.adds (es.take i.toNat) } ∧ Bys w5 S4 w' S' L ∧ (∀ k, Q5 k → Q' k) ∧ ∀ k, k < w5.heap.size → Q' k → Q5 k))
            case atStart =>
              refine ⟨0, rfl, by omega, by omega, ⟨Below.refl _ _⟩, ⟨S4, Q5, ?_, Bys.refl _ _ _, fun _ h => h, fun _ _ h => h⟩⟩
              have e1 : ({ P.2.2 with st := M.st.adds (es.take (0 : Int).toNat) } : LM) = P.2.2 := by
                rw [show es.take (0 : Int).toNat = [] from rfl, show M.st.adds [] = M.st from rfl, ← HST.out]
              rw [e1]
              exact HW5.out
            case round =>
              obtain ⟨i, rfl, i0, i1, _, HREL⟩ := hrel
              by_cases hi : i < (es.length : Int)
              · have c6 : decide (i < (es.length : Int)) = true := decide_eq_true hi
                obtain ⟨S6, Q6, hw6, hB6, hq6, hq6'⟩ := HREL.out
                have hV6 := V_bys hB6 (fun k hk => (HW5.out.q k hk).2.2) HV5.out
                obtain ⟨ad, A6, c6', hA5, y0, y1, y2, y3, hc6, hF6⟩ := at_T48F (Kd.V_F hV6) i i0 hi
                subst hA5
                have hxe := rd48_at i0 hi
                have heok := HALL.out _ (List.mem_of_getElem? hxe)
                have hfit := (adds_fit HFT.out i.toNat (by omega)).1
                have hado := adds_ok HM.out.st HFT.out HALL.out i.toNat (by omega)
                have hii : (i.toNat : Int) = i := by omega
                rw [hii] at hfit
                have htk : es.take (i + 1).toNat = es.take i.toNat ++ [rd_T48 es i] := by
                  rw [show (i + 1).toNat = i.toNat + 1 by omega, List.take_add_one, hxe]; rfl
                obtain ⟨x, hx⟩ : ∃ x, rd_T48 es i = x := ⟨_, rfl⟩
                rw [hx] at y0 y1 y2 y3 hc6 hF6 heok hfit htk
                have HADN := Aside0.mk (show M.st.adds (es.take (i + 1).toNat) = (M.st.adds (es.take i.toNat)).add x by rw [htk, adds_snoc])
                have hba := below_drew1 (below_alloc (Below.refl wr.heap.size wr) (.cells #[.int .i64 x.f0, .int .i64 x.f1, .int .i64 x.f2, .slice A6 x.f3.length c6'] 48))
                have HBa := Aside0.mk hba
                have HWa := Aside0.mk (hw6.below hba)
                have HADD := Aside0.mk (add_w HWa.out hado.1 (by dsimp only; omega) (Kd.F_mono (Kd.F_below hF6 hba) (fun k hk => ⟨hq6 k hk.1, hk.2⟩)) hc6 heok hfit)
                have HB6 := Aside0.mk (hB6.trans (Bys.of_below hba))
                have HQ6 := Aside0.mk (And.intro hq6 hq6')
                have p0 := eq_true i0
                have p1 := eq_true hi
                have hni : IntKind.i64.wrap (i + 1) = i + 1 := IntWalk.i64_in _ ⟨by omega, by omega⟩
                clear hw6 hB6 hq6 hq6' hV6 hF6 hxe heok hfit hado hii htk hx hba
                go_wp2_with fail
                go_region_law (go_simp; go_at_call 74; refine HADD.out.mono ?_; rintro e9 w9 ⟨rfl, hnl⟩; have HNL := Aside0.mk hnl; clear hnl)
                go_wp2_with fail
                obtain ⟨S9, Q9, hw9, hB9, hq9, hq9'⟩ := HNL.out
                have HFN := Aside0.mk (show ∃ S' Q', Wl W0 w9 S' Q' g (N + 2) L P.2.1 { P.2.2 with st := M.st.adds (es.take (i + 1).toNat) } ∧ Bys w5 S4 w9 S' L ∧ (∀ k, Q5 k → Q' k) ∧ ∀ k, k < w5.heap.size → Q' k → Q5 k from
                  ⟨S9, Q9, by rw [HADN.out]; exact hw9, HB6.out.trans hB9, fun k hk => hq9' k (HQ6.out.1 k hk), fun k hk h9 => HQ6.out.2 k hk (hq9 k (Nat.lt_of_lt_of_le hk HB6.out.size) h9)⟩)
                clear hw9 hB9 hq9 hq9'
                go_roundg (gk - 1)
                case measure => omega
                case rel => exact ⟨i + 1, rfl, by omega, by omega, ⟨Below.refl _ _⟩, HFN⟩
              · have c6 : decide (i < (es.length : Int)) = false := decide_eq_false hi
                have he : i.toNat = es.length := by omega
                have HREL2 := HREL
                rw [he, List.take_length] at HREL2
                clear he
                go_wp2_with fail
                go_ret
                rw [HRR.out]
                obtain ⟨S6, Q6, hw6, hB6, hq6, hq6'⟩ := HREL2.out
                exact ⟨rfl, S6, Q6, hw6, HB5.out.trans hB6, fun k hk h6 => HHQ5.out k hk (hq6' k (Nat.lt_of_lt_of_le hk HB5.out.size) h6)⟩
          · have t1 : (p == 0) = false := beq_eq_false_iff_ne.mpr hp0
            have t2 : (p != 0) = true := by simp [bne, t1]
            have HRR := Aside0.mk (show R = P by rw [HR2.out, if_neg hp0])
            clear hp0
            go_wp2_with fail
            go_ret
            rw [HRR.out]
            exact ⟨by rw [HPP.out]; rfl, S4, Q4, HW4.out, HB4.out, HQ4.out⟩
end Go.Proofs.Ytmmiipnmimjojaa.PS
end
