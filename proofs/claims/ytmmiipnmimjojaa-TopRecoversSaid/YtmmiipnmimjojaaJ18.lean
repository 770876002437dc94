/- The texts of this claim's seat, joined: part 18. -/
import Derived.Test.YtmmiipnmimjojaaJ17
section
namespace Go.Proofs.Ytmmiipnmimjojaa.PS
open Go.RowKit Go.Proofs.YtmmiipnmimjojaaW.PrintWords Go.Proofs.YtmmiipnmimjojaaW.PrintLast Go.Proofs.YtmmiipnmimjojaaW.PrintMore
attribute [local go_sem] max2_int min2_int max_two min_two max_three min_three max_four min_four   -- for this text's walks alone
set_option linter.unusedVariables false
set_option linter.unusedSimpArgs false

attribute [local go_sem high] eqA81 eqA83
def tollgateref06_SameState.f (k : Nat) (a0_0 : Int) (a0_1 : Int) (a0_2 : Int) (a0_3 : Int) (l0_4 : List (S48)) (a1_0 : Int) (a1_1 : Int) (a1_2 : Int) (a1_3 : Int) (l1_4 : List (S48)) : Option (Bool) := if (a0_0 == a1_0 && (a0_1 == a1_1)) = true then (if (a0_2 == a1_2 && (a0_3 == a1_3)) = true then ((tollgateref02_SameEntries.f k l0_4 l1_4).bind fun t254 => (some t254)) else (some false)) else (some false)
theorem tollgateref06_SameState.mono : ∀ a0 a1 a2 a3 a4 a5 a6 a7 a8 a9 k, LeO (tollgateref06_SameState.f k a0 a1 a2 a3 a4 a5 a6 a7 a8 a9) (tollgateref06_SameState.f (k + 1) a0 a1 a2 a3 a4 a5 a6 a7 a8 a9) := by
  intro a0 a1 a2 a3 a4 a5 a6 a7 a8 a9 k
  unfold tollgateref06_SameState.f
  repeat' first
      | (with_reducible exact tollgateref02_SameEntries.mono _ _ _)
      | (with_reducible exact LeO.refl _)
      | (with_reducible exact LeO.none _)
      | (with_reducible refine LeO.ite ?_ ?_)
      | (with_reducible refine LeO.bind ?_ (fun _ => ?_))
      | exact tollgateref02_SameEntries.mono _ _ _
      | exact LeO.none _
      | refine LeO.ite ?_ ?_
      | refine LeO.bind ?_ (fun _ => ?_)
set_option maxHeartbeats 8000000 in
set_option maxRecDepth 100000 in
theorem tollgateref06_SameState.calls (k : Nat) (a0_0 : Int) (a0_1 : Int) (a0_2 : Int) (a0_3 : Int) (A0_4 : Option Addr) (c0_4 : Nat) (l0_4 : List (S48)) (a1_0 : Int) (a1_1 : Int) (a1_2 : Int) (a1_3 : Int) (A1_4 : Option Addr) (c1_4 : Nat) (l1_4 : List (S48)) (r : Bool) (w : World) (hr0_4 : Kd.C k48 w A0_4 l0_4.length l0_4) (hc0_4 : l0_4.length ≤ c0_4) (hr1_4 : Kd.C k48 w A1_4 l1_4.length l1_4) (hc1_4 : l1_4.length ≤ c1_4) (h : tollgateref06_SameState.f k a0_0 a0_1 a0_2 a0_3 l0_4 a1_0 a1_1 a1_2 a1_3 l1_4 = some r) :
    Calls Try.prog 52 #[.agg #[.int .i64 a0_0, .int .i64 a0_1, .int .i64 a0_2, .int .i64 a0_3, .slice A0_4 l0_4.length c0_4], .agg #[.int .i64 a1_0, .int .i64 a1_1, .int .i64 a1_2, .int .i64 a1_3, .slice A1_4 l1_4.length c1_4]] w fun e w' => e = .returned (.bool r) ∧ Below w.heap.size w w' := by
  have hu87 := Try.underlying87
  have hu83 := Try.underlying83
  have hu81 := Try.underlying81
  have HR0_4 := Aside0.mk hr0_4
  have HC0_4 := Aside0.mk hc0_4
  clear hr0_4 hc0_4
  have HR1_4 := Aside0.mk hr1_4
  have HC1_4 := Aside0.mk hc1_4
  clear hr1_4 hc1_4
  have HB := Aside0.mk (Below.refl w.heap.size w)
  have H : (if (a0_0 == a1_0 && (a0_1 == a1_1)) = true then (if (a0_2 == a1_2 && (a0_3 == a1_3)) = true then ((tollgateref02_SameEntries.f k l0_4 l1_4).bind fun t254 => (some t254)) else (some false)) else (some false)) = some r := h
  clear h
  by_cases c3 : (a0_0 == a1_0 && (a0_1 == a1_1)) = true
  · rw [if_pos c3] at H
    have c3b0 : (a0_0 == a1_0 && (a0_1 == a1_1)) = true := c3
    (try (have c3b1 : decide (a0_0 = a1_0 && (a0_1 == a1_1)) = true := by simpa using c3))
    (try (have c3b2 : (a0_0 == a1_0 && (a0_1 == a1_1)) = true := by simpa using c3))
    clear c3
    by_cases c4 : (a0_2 == a1_2 && (a0_3 == a1_3)) = true
    · rw [if_pos c4] at H
      have c4b0 : (a0_2 == a1_2 && (a0_3 == a1_3)) = true := c4
      (try (have c4b1 : decide (a0_2 = a1_2 && (a0_3 == a1_3)) = true := by simpa using c4))
      (try (have c4b2 : (a0_2 == a1_2 && (a0_3 == a1_3)) = true := by simpa using c4))
      clear c4
      replace H := Option.bind_eq_some_iff.mp H
      obtain ⟨t254, A50, H⟩ := H
      replace H : (some t254) = some r := H
      have A5 := Aside0.mk A50
      clear A50
      obtain rfl := Option.some.inj H
      go_enter Try.func52, Try.ntmps52
      go_wp2_with (first | ((with_reducible refine gate_dst (N := 2) rfl ?_); refine box_event ?hg (N := 2) ?hd (cs := #[.int .i64 a0_0, .int .i64 a0_1, .int .i64 a0_2, .int .i64 a0_3, .slice A0_4 l0_4.length c0_4]) (t := 87) ?hr ?_; (case hd => rfl); (case hg => rfl); (case hr => first | (go_simp; done) | (go_simp; rfl)); intro gb252 hg w6 hbox hb; have n0_ := Aside0.mk (below_step (by repeat (first | (with_reducible first | exact HB.out | apply below_alloc | apply pw_below_drewN | apply below_drew1) | exact HB.out)) hb); have n1_ := Aside0.mk (hbox); have n2_ := Aside0.mk ((by rw [hg]; exact (below_size (by repeat (first | (with_reducible first | exact HB.out | apply below_alloc | apply pw_below_drewN | apply below_drew1) | exact HB.out))) : w.heap.size ≤ gb252)); have n3_ := Aside0.mk ((by rw [hg]; exact (below_size (by repeat (first | (with_reducible first | exact HB.out | apply below_alloc | apply pw_below_drewN | apply below_drew1) | exact HB.out))) : w.heap.size ≤ gb252)); clear HB; have HB := n0_; have BK252 := n1_; have GW252 := n2_; have GE252 := n3_; clear n0_ n1_ n2_ n3_; clear hb hbox hg) | ((with_reducible refine gate_dst (N := 3) rfl ?_); refine box_event ?hg (N := 3) ?hd (cs := #[.int .i64 a1_0, .int .i64 a1_1, .int .i64 a1_2, .int .i64 a1_3, .slice A1_4 l1_4.length c1_4]) (t := 87) ?hr ?_; (case hd => rfl); (case hg => rfl); (case hr => first | (go_simp; done) | (go_simp; rfl)); intro gb253 hg w7 hbox hb; have n0_ := Aside0.mk (blk_below (g := gb252) (o := .cells #[.int .i64 a0_0, .int .i64 a0_1, .int .i64 a0_2, .int .i64 a0_3, .slice A0_4 l0_4.length c0_4] 87 (0, 0)) (by (with_reducible repeat (first | refine blk_drewN ?_ _ | refine blk_drew ?_ | refine blk_alloc ?_ _)); exact BK252.out) hb); have n1_ := Aside0.mk (below_step (by repeat (first | (with_reducible first | exact HB.out | apply below_alloc | apply pw_below_drewN | apply below_drew1 | refine below_set ?_ GE252.out) | exact HB.out)) hb); have n2_ := Aside0.mk (hbox); have n3_ := Aside0.mk ((by rw [hg]; exact (below_size (by repeat (first | (with_reducible first | exact HB.out | apply below_alloc | apply pw_below_drewN | apply below_drew1 | refine below_set ?_ GE252.out) | exact HB.out))) : w.heap.size ≤ gb253)); have n4_ := Aside0.mk ((by rw [hg]; exact (below_size (by repeat (first | (with_reducible first | exact HB.out | apply below_alloc | apply pw_below_drewN | apply below_drew1 | refine below_set ?_ GE252.out) | exact HB.out))) : w.heap.size ≤ gb253)); have n5_ := Aside0.mk ((by rw [hg]; exact Nat.ne_of_lt (blk_lt (g := gb252) (o := .cells #[.int .i64 a0_0, .int .i64 a0_1, .int .i64 a0_2, .int .i64 a0_3, .slice A0_4 l0_4.length c0_4] 87 (0, 0)) (by (with_reducible repeat (first | refine blk_drewN ?_ _ | refine blk_drew ?_ | refine blk_alloc ?_ _)); exact BK252.out)) : gb252 ≠ gb253)); have n6_ := Aside0.mk ((by rw [hg]; exact Nat.ne_of_gt (blk_lt (g := gb252) (o := .cells #[.int .i64 a0_0, .int .i64 a0_1, .int .i64 a0_2, .int .i64 a0_3, .slice A0_4 l0_4.length c0_4] 87 (0, 0)) (by (with_reducible repeat (first | refine blk_drewN ?_ _ | refine blk_drew ?_ | refine blk_alloc ?_ _)); exact BK252.out)) : gb253 ≠ gb252)); clear BK252; clear HB; have BK252 := n0_; have HB := n1_; have BK253 := n2_; have GW253 := n3_; have GE253 := n4_; have NB252_253 := n5_; have NB253_252 := n6_; clear n0_ n1_ n2_ n3_ n4_ n5_ n6_; clear hb hbox hg; have hnb8 := NB252_253.out; have hnc8 := NB253_252.out; have hcz9_0 : w7.cell? ⟨gb252, 0, none⟩ = some (.int .i64 a0_0) := (blk_cell BK252.out 0).trans rfl; have hcz9_1 : w7.cell? ⟨gb252, 1, none⟩ = some (.int .i64 a0_1) := (blk_cell BK252.out 1).trans rfl; have hcz9_2 : w7.cell? ⟨gb252, 2, none⟩ = some (.int .i64 a0_2) := (blk_cell BK252.out 2).trans rfl; have hcz9_3 : w7.cell? ⟨gb252, 3, none⟩ = some (.int .i64 a0_3) := (blk_cell BK252.out 3).trans rfl; have hcz9_4 : w7.cell? ⟨gb252, 4, none⟩ = some (.slice A0_4 l0_4.length c0_4) := (blk_cell BK252.out 4).trans rfl; have hfz9_0 := blk_frozen BK252.out 0; have hfz9_1 := blk_frozen BK252.out 1; have hfz9_2 := blk_frozen BK252.out 2; have hfz9_3 := blk_frozen BK252.out 3; have hfz9_4 := blk_frozen BK252.out 4; have hcz10_0 : w7.cell? ⟨gb253, 0, none⟩ = some (.int .i64 a1_0) := (blk_cell BK253.out 0).trans rfl; have hcz10_1 : w7.cell? ⟨gb253, 1, none⟩ = some (.int .i64 a1_1) := (blk_cell BK253.out 1).trans rfl; have hcz10_2 : w7.cell? ⟨gb253, 2, none⟩ = some (.int .i64 a1_2) := (blk_cell BK253.out 2).trans rfl; have hcz10_3 : w7.cell? ⟨gb253, 3, none⟩ = some (.int .i64 a1_3) := (blk_cell BK253.out 3).trans rfl; have hcz10_4 : w7.cell? ⟨gb253, 4, none⟩ = some (.slice A1_4 l1_4.length c1_4) := (blk_cell BK253.out 4).trans rfl; have hfz10_0 := blk_frozen BK253.out 0; have hfz10_1 := blk_frozen BK253.out 1; have hfz10_2 := blk_frozen BK253.out 2; have hfz10_3 := blk_frozen BK253.out 3; have hfz10_4 := blk_frozen BK253.out 4) | (go_at_call 93; (with_reducible refine (tollgateref02_SameEntries.calls k _ _ l0_4 _ _ l1_4 t254 _ ?side1 ?side2 ?side3 ?side4 A5.out).mono ?_); (case side1 => repeat (first | exact (Kd.C_below HR0_4.out HB.out) | (with_reducible refine Kd.C_alloc ?_ _) | (with_reducible refine Kd.C_drewN ?_ _) | (with_reducible refine Kd.C_drew ?_))); (case side2 => exact HC0_4.out); (case side3 => repeat (first | exact (Kd.C_below HR1_4.out HB.out) | (with_reducible refine Kd.C_alloc ?_ _) | (with_reducible refine Kd.C_drewN ?_ _) | (with_reducible refine Kd.C_drew ?_))); (case side4 => exact HC1_4.out); rintro e w11 ⟨rfl, hb⟩; have n0_ := Aside0.mk (blk_below (g := gb252) (o := .cells #[.int .i64 a0_0, .int .i64 a0_1, .int .i64 a0_2, .int .i64 a0_3, .slice A0_4 l0_4.length c0_4] 87 (0, 0)) (by (with_reducible repeat (first | refine blk_drewN ?_ _ | refine blk_drew ?_ | refine blk_alloc ?_ _)); exact BK252.out) hb); have n1_ := Aside0.mk (blk_below (g := gb253) (o := .cells #[.int .i64 a1_0, .int .i64 a1_1, .int .i64 a1_2, .int .i64 a1_3, .slice A1_4 l1_4.length c1_4] 87 (0, 0)) (by (with_reducible repeat (first | refine blk_drewN ?_ _ | refine blk_drew ?_ | refine blk_alloc ?_ _)); exact BK253.out) hb); have n2_ := Aside0.mk (below_step (by repeat (first | (with_reducible first | exact HB.out | apply below_alloc | apply pw_below_drewN | apply below_drew1 | refine below_set ?_ GE252.out | refine below_set ?_ GE253.out) | exact HB.out)) hb); clear BK252; clear BK253; clear HB; have BK252 := n0_; have BK253 := n1_; have HB := n2_; clear n0_ n1_ n2_; (try clear hb); (try clear hb2); (try clear hk); (try clear hi)))
      go_ret
      exact ⟨by first | rfl | (simp [errW_none, errW_some] <;> rfl) | (simp [*, errW_none, errW_some] <;> rfl), by repeat (first | (with_reducible first | exact HB.out | apply below_alloc | apply pw_below_drewN | apply below_drew1 | refine below_set ?_ GE252.out | refine below_set ?_ GE253.out) | exact HB.out)⟩
    · rw [if_neg c4] at H
      have c4b0 : (a0_2 == a1_2 && (a0_3 == a1_3)) = false := by simpa using c4
      (try (have c4b1 : decide (a0_2 = a1_2 && (a0_3 == a1_3)) = false := by simpa using c4))
      (try (have c4b2 : (a0_2 == a1_2 && (a0_3 == a1_3)) = false := by simpa using c4))
      (try (have c4b3 : ¬ (a0_2 = a1_2 && (a0_3 == a1_3)) := by simpa using c4))
      clear c4
      obtain rfl := Option.some.inj H
      go_enter Try.func52, Try.ntmps52
      go_wp2_with (first | ((with_reducible refine gate_dst (N := 2) rfl ?_); refine box_event ?hg (N := 2) ?hd (cs := #[.int .i64 a0_0, .int .i64 a0_1, .int .i64 a0_2, .int .i64 a0_3, .slice A0_4 l0_4.length c0_4]) (t := 87) ?hr ?_; (case hd => rfl); (case hg => rfl); (case hr => first | (go_simp; done) | (go_simp; rfl)); intro gb252 hg w12 hbox hb; have n0_ := Aside0.mk (below_step (by repeat (first | (with_reducible first | exact HB.out | apply below_alloc | apply pw_below_drewN | apply below_drew1) | exact HB.out)) hb); have n1_ := Aside0.mk (hbox); have n2_ := Aside0.mk ((by rw [hg]; exact (below_size (by repeat (first | (with_reducible first | exact HB.out | apply below_alloc | apply pw_below_drewN | apply below_drew1) | exact HB.out))) : w.heap.size ≤ gb252)); have n3_ := Aside0.mk ((by rw [hg]; exact (below_size (by repeat (first | (with_reducible first | exact HB.out | apply below_alloc | apply pw_below_drewN | apply below_drew1) | exact HB.out))) : w.heap.size ≤ gb252)); clear HB; have HB := n0_; have BK252 := n1_; have GW252 := n2_; have GE252 := n3_; clear n0_ n1_ n2_ n3_; clear hb hbox hg) | ((with_reducible refine gate_dst (N := 3) rfl ?_); refine box_event ?hg (N := 3) ?hd (cs := #[.int .i64 a1_0, .int .i64 a1_1, .int .i64 a1_2, .int .i64 a1_3, .slice A1_4 l1_4.length c1_4]) (t := 87) ?hr ?_; (case hd => rfl); (case hg => rfl); (case hr => first | (go_simp; done) | (go_simp; rfl)); intro gb253 hg w13 hbox hb; have n0_ := Aside0.mk (blk_below (g := gb252) (o := .cells #[.int .i64 a0_0, .int .i64 a0_1, .int .i64 a0_2, .int .i64 a0_3, .slice A0_4 l0_4.length c0_4] 87 (0, 0)) (by (with_reducible repeat (first | refine blk_drewN ?_ _ | refine blk_drew ?_ | refine blk_alloc ?_ _)); exact BK252.out) hb); have n1_ := Aside0.mk (below_step (by repeat (first | (with_reducible first | exact HB.out | apply below_alloc | apply pw_below_drewN | apply below_drew1 | refine below_set ?_ GE252.out) | exact HB.out)) hb); have n2_ := Aside0.mk (hbox); have n3_ := Aside0.mk ((by rw [hg]; exact (below_size (by repeat (first | (with_reducible first | exact HB.out | apply below_alloc | apply pw_below_drewN | apply below_drew1 | refine below_set ?_ GE252.out) | exact HB.out))) : w.heap.size ≤ gb253)); have n4_ := Aside0.mk ((by rw [hg]; exact (below_size (by repeat (first | (with_reducible first | exact HB.out | apply below_alloc | apply pw_below_drewN | apply below_drew1 | refine below_set ?_ GE252.out) | exact HB.out))) : w.heap.size ≤ gb253)); have n5_ := Aside0.mk ((by rw [hg]; exact Nat.ne_of_lt (blk_lt (g := gb252) (o := .cells #[.int .i64 a0_0, .int .i64 a0_1, .int .i64 a0_2, .int .i64 a0_3, .slice A0_4 l0_4.length c0_4] 87 (0, 0)) (by (with_reducible repeat (first | refine blk_drewN ?_ _ | refine blk_drew ?_ | refine blk_alloc ?_ _)); exact BK252.out)) : gb252 ≠ gb253)); have n6_ := Aside0.mk ((by rw [hg]; exact Nat.ne_of_gt (blk_lt (g := gb252) (o := .cells #[.int .i64 a0_0, .int .i64 a0_1, .int .i64 a0_2, .int .i64 a0_3, .slice A0_4 l0_4.length c0_4] 87 (0, 0)) (by (with_reducible repeat (first | refine blk_drewN ?_ _ | refine blk_drew ?_ | refine blk_alloc ?_ _)); exact BK252.out)) : gb253 ≠ gb252)); clear BK252; clear HB; have BK252 := n0_; have HB := n1_; have BK253 := n2_; have GW253 := n3_; have GE253 := n4_; have NB252_253 := n5_; have NB253_252 := n6_; clear n0_ n1_ n2_ n3_ n4_ n5_ n6_; clear hb hbox hg; have hnb14 := NB252_253.out; have hnc14 := NB253_252.out; have hcz15_0 : w13.cell? ⟨gb252, 0, none⟩ = some (.int .i64 a0_0) := (blk_cell BK252.out 0).trans rfl; have hcz15_1 : w13.cell? ⟨gb252, 1, none⟩ = some (.int .i64 a0_1) := (blk_cell BK252.out 1).trans rfl; have hcz15_2 : w13.cell? ⟨gb252, 2, none⟩ = some (.int .i64 a0_2) := (blk_cell BK252.out 2).trans rfl; have hcz15_3 : w13.cell? ⟨gb252, 3, none⟩ = some (.int .i64 a0_3) := (blk_cell BK252.out 3).trans rfl; have hcz15_4 : w13.cell? ⟨gb252, 4, none⟩ = some (.slice A0_4 l0_4.length c0_4) := (blk_cell BK252.out 4).trans rfl; have hfz15_0 := blk_frozen BK252.out 0; have hfz15_1 := blk_frozen BK252.out 1; have hfz15_2 := blk_frozen BK252.out 2; have hfz15_3 := blk_frozen BK252.out 3; have hfz15_4 := blk_frozen BK252.out 4; have hcz16_0 : w13.cell? ⟨gb253, 0, none⟩ = some (.int .i64 a1_0) := (blk_cell BK253.out 0).trans rfl; have hcz16_1 : w13.cell? ⟨gb253, 1, none⟩ = some (.int .i64 a1_1) := (blk_cell BK253.out 1).trans rfl; have hcz16_2 : w13.cell? ⟨gb253, 2, none⟩ = some (.int .i64 a1_2) := (blk_cell BK253.out 2).trans rfl; have hcz16_3 : w13.cell? ⟨gb253, 3, none⟩ = some (.int .i64 a1_3) := (blk_cell BK253.out 3).trans rfl; have hcz16_4 : w13.cell? ⟨gb253, 4, none⟩ = some (.slice A1_4 l1_4.length c1_4) := (blk_cell BK253.out 4).trans rfl; have hfz16_0 := blk_frozen BK253.out 0; have hfz16_1 := blk_frozen BK253.out 1; have hfz16_2 := blk_frozen BK253.out 2; have hfz16_3 := blk_frozen BK253.out 3; have hfz16_4 := blk_frozen BK253.out 4))
      go_ret
      exact ⟨by first | rfl | (simp [errW_none, errW_some] <;> rfl) | (simp [*, errW_none, errW_some] <;> rfl), by repeat (first | (with_reducible first | exact HB.out | apply below_alloc | apply pw_below_drewN | apply below_drew1 | refine below_set ?_ GE252.out | refine below_set ?_ GE253.out) | exact HB.out)⟩
  · rw [if_neg c3] at H
    have c3b0 : (a0_0 == a1_0 && (a0_1 == a1_1)) = false := by simpa using c3
    (try (have c3b1 : decide (a0_0 = a1_0 && (a0_1 == a1_1)) = false := by simpa using c3))
    (try (have c3b2 : (a0_0 == a1_0 && (a0_1 == a1_1)) = false := by simpa using c3))
    (try (have c3b3 : ¬ (a0_0 = a1_0 && (a0_1 == a1_1)) := by simpa using c3))
    clear c3
    obtain rfl := Option.some.inj H
    go_enter Try.func52, Try.ntmps52
    go_wp2_with (first | ((with_reducible refine gate_dst (N := 2) rfl ?_); refine box_event ?hg (N := 2) ?hd (cs := #[.int .i64 a0_0, .int .i64 a0_1, .int .i64 a0_2, .int .i64 a0_3, .slice A0_4 l0_4.length c0_4]) (t := 87) ?hr ?_; (case hd => rfl); (case hg => rfl); (case hr => first | (go_simp; done) | (go_simp; rfl)); intro gb252 hg w17 hbox hb; have n0_ := Aside0.mk (below_step (by repeat (first | (with_reducible first | exact HB.out | apply below_alloc | apply pw_below_drewN | apply below_drew1) | exact HB.out)) hb); have n1_ := Aside0.mk (hbox); have n2_ := Aside0.mk ((by rw [hg]; exact (below_size (by repeat (first | (with_reducible first | exact HB.out | apply below_alloc | apply pw_below_drewN | apply below_drew1) | exact HB.out))) : w.heap.size ≤ gb252)); have n3_ := Aside0.mk ((by rw [hg]; exact (below_size (by repeat (first | (with_reducible first | exact HB.out | apply below_alloc | apply pw_below_drewN | apply below_drew1) | exact HB.out))) : w.heap.size ≤ gb252)); clear HB; have HB := n0_; have BK252 := n1_; have GW252 := n2_; have GE252 := n3_; clear n0_ n1_ n2_ n3_; clear hb hbox hg) | ((with_reducible refine gate_dst (N := 3) rfl ?_); refine box_event ?hg (N := 3) ?hd (cs := #[.int .i64 a1_0, .int .i64 a1_1, .int .i64 a1_2, .int .i64 a1_3, .slice A1_4 l1_4.length c1_4]) (t := 87) ?hr ?_; (case hd => rfl); (case hg => rfl); (case hr => first | (go_simp; done) | (go_simp; rfl)); intro gb253 hg w18 hbox hb; have n0_ := Aside0.mk (blk_below (g := gb252) (o := .cells #[.int .i64 a0_0, .int .i64 a0_1, .int .i64 a0_2, .int .i64 a0_3, .slice A0_4 l0_4.length c0_4] 87 (0, 0)) (by (with_reducible repeat (first | refine blk_drewN ?_ _ | refine blk_drew ?_ | refine blk_alloc ?_ _)); exact BK252.out) hb); have n1_ := Aside0.mk (below_step (by repeat (first | (with_reducible first | exact HB.out | apply below_alloc | apply pw_below_drewN | apply below_drew1 | refine below_set ?_ GE252.out) | exact HB.out)) hb); have n2_ := Aside0.mk (hbox); have n3_ := Aside0.mk ((by rw [hg]; exact (below_size (by repeat (first | (with_reducible first | exact HB.out | apply below_alloc | apply pw_below_drewN | apply below_drew1 | refine below_set ?_ GE252.out) | exact HB.out))) : w.heap.size ≤ gb253)); have n4_ := Aside0.mk ((by rw [hg]; exact (below_size (by repeat (first | (with_reducible first | exact HB.out | apply below_alloc | apply pw_below_drewN | apply below_drew1 | refine below_set ?_ GE252.out) | exact HB.out))) : w.heap.size ≤ gb253)); have n5_ := Aside0.mk ((by rw [hg]; exact Nat.ne_of_lt (blk_lt (g := gb252) (o := .cells #[.int .i64 a0_0, .int .i64 a0_1, .int .i64 a0_2, .int .i64 a0_3, .slice A0_4 l0_4.length c0_4] 87 (0, 0)) (by (with_reducible repeat (first | refine blk_drewN ?_ _ | refine blk_drew ?_ | refine blk_alloc ?_ _)); exact BK252.out)) : gb252 ≠ gb253)); have n6_ := Aside0.mk ((by rw [hg]; exact Nat.ne_of_gt (blk_lt (g := gb252) (o := .cells #[.int .i64 a0_0, .int .i64 a0_1, .int .i64 a0_2, .int .i64 a0_3, .slice A0_4 l0_4.length c0_4] 87 (0, 0)) (by (with_reducible repeat (first | refine blk_drewN ?_ _ | refine blk_drew ?_ | refine blk_alloc ?_ _)); exact BK252.out)) : gb253 ≠ gb252)); clear BK252; clear HB; have BK252 := n0_; have HB := n1_; have BK253 := n2_; have GW253 := n3_; have GE253 := n4_; have NB252_253 := n5_; have NB253_252 := n6_; clear n0_ n1_ n2_ n3_ n4_ n5_ n6_; clear hb hbox hg; have hnb19 := NB252_253.out; have hnc19 := NB253_252.out; have hcz20_0 : w18.cell? ⟨gb252, 0, none⟩ = some (.int .i64 a0_0) := (blk_cell BK252.out 0).trans rfl; have hcz20_1 : w18.cell? ⟨gb252, 1, none⟩ = some (.int .i64 a0_1) := (blk_cell BK252.out 1).trans rfl; have hcz20_2 : w18.cell? ⟨gb252, 2, none⟩ = some (.int .i64 a0_2) := (blk_cell BK252.out 2).trans rfl; have hcz20_3 : w18.cell? ⟨gb252, 3, none⟩ = some (.int .i64 a0_3) := (blk_cell BK252.out 3).trans rfl; have hcz20_4 : w18.cell? ⟨gb252, 4, none⟩ = some (.slice A0_4 l0_4.length c0_4) := (blk_cell BK252.out 4).trans rfl; have hfz20_0 := blk_frozen BK252.out 0; have hfz20_1 := blk_frozen BK252.out 1; have hfz20_2 := blk_frozen BK252.out 2; have hfz20_3 := blk_frozen BK252.out 3; have hfz20_4 := blk_frozen BK252.out 4; have hcz21_0 : w18.cell? ⟨gb253, 0, none⟩ = some (.int .i64 a1_0) := (blk_cell BK253.out 0).trans rfl; have hcz21_1 : w18.cell? ⟨gb253, 1, none⟩ = some (.int .i64 a1_1) := (blk_cell BK253.out 1).trans rfl; have hcz21_2 : w18.cell? ⟨gb253, 2, none⟩ = some (.int .i64 a1_2) := (blk_cell BK253.out 2).trans rfl; have hcz21_3 : w18.cell? ⟨gb253, 3, none⟩ = some (.int .i64 a1_3) := (blk_cell BK253.out 3).trans rfl; have hcz21_4 : w18.cell? ⟨gb253, 4, none⟩ = some (.slice A1_4 l1_4.length c1_4) := (blk_cell BK253.out 4).trans rfl; have hfz21_0 := blk_frozen BK253.out 0; have hfz21_1 := blk_frozen BK253.out 1; have hfz21_2 := blk_frozen BK253.out 2; have hfz21_3 := blk_frozen BK253.out 3; have hfz21_4 := blk_frozen BK253.out 4))
    go_ret
    exact ⟨by first | rfl | (simp [errW_none, errW_some] <;> rfl) | (simp [*, errW_none, errW_some] <;> rfl), by repeat (first | (with_reducible first | exact HB.out | apply below_alloc | apply pw_below_drewN | apply below_drew1 | refine below_set ?_ GE252.out | refine below_set ?_ GE253.out) | exact HB.out)⟩

end Go.Proofs.Ytmmiipnmimjojaa.PS
end
section
namespace Go.Proofs.Ytmmiipnmimjojaa.PS
open Go.RowKit Go.Proofs.YtmmiipnmimjojaaW.PrintWords Go.Proofs.YtmmiipnmimjojaaW.PrintLast Go.Proofs.YtmmiipnmimjojaaW.PrintMore
open Go.Maps Go.Proofs.Ytmmiipnmimjojaa.PD
set_option linter.unusedVariables false
set_option linter.unusedSimpArgs false
attribute [local go_sem high] eqA81
theorem put1_st (D : Dsk) (M : LM) (b : List Int) : (lgPut1 D M b).2.2.st = M.st := by
  unfold lgPut1
  dsimp only
  split <;> rfl
theorem put_st (D : Dsk) (M : LM) (b : List Int) : (lgPut D M b).2.2.st = M.st := by
  have h1 : (lgAnew D M M.st).2.2.st = M.st := by
    unfold lgAnew mAnew
    dsimp only
    split <;> rfl
  unfold lgPut
  split
  · split
    · rw [put1_st, h1]
    · exact h1
  · exact put1_st D M b
/-- New bytes are none of the disk's. -/
theorem F_new {W0 W w2 w3 : World} {S Q : Nat → Prop} {g N L base : Nat} {D : Dsk} {M : LM} {A : Option Addr} {c : Nat} {b : List Int} (h : Wl W0 W S Q g N L D M) (hb : W.heap.size ≤ base) (hr : k8.R 5 w3 base (fun _ => True) (.slice A b.length c) b) : Kd.F k8 w3 (fun k => (¬ S k ∧ k ≠ L) ∧ k < w3.heap.size) A b.length b :=
  Kd.F_mono (Kd.R_F (Kd.R_bound hr)) (fun k hk => ⟨⟨fun hS => by have := (h.dk.2.1 k hS).2; have := hk.2.1; omega, fun e => by have := h.lt; have := hk.2.1; omega⟩, hk.2.2.1⟩)
end Go.Proofs.Ytmmiipnmimjojaa.PS
end
section
namespace Go.Proofs.Ytmmiipnmimjojaa.PS
open Go.RowKit Go.Proofs.YtmmiipnmimjojaaW.PrintWords Go.Proofs.YtmmiipnmimjojaaW.PrintLast Go.Proofs.YtmmiipnmimjojaaW.PrintMore
open Go.Maps Go.Proofs.Ytmmiipnmimjojaa.PD
set_option linter.unusedVariables false
set_option linter.unusedSimpArgs false
/-- With cloned entries the log has blocks more. -/
theorem compact_mid {W0 W w2 : World} {S Q : Nat → Prop} {g N L : Nat} {D : Dsk} {M : LM} {v : Value} {l : List S48} (h : Wl W0 W S Q g N L D M) (hN : Kd.N k48 48 w2 W.heap.size (Pn W (fun k => Q k ∧ k ≠ L)) v l) (hb : Below W.heap.size W w2) :
    Wl W0 w2 S (fun k => Q k ∨ (W.heap.size ≤ k ∧ k < w2.heap.size)) g N L D M ∧ Kd.V k48 48 w2 0 (fun k => (Q k ∨ (W.heap.size ≤ k ∧ k < w2.heap.size)) ∧ k ≠ L) v l := by
  have hL := h.lt
  refine ⟨(h.below hb).more (fun k hk => .inl hk) (fun k hk => ?_), ?_⟩
  · rcases hk with hk | ⟨h1, h2⟩
    · exact (h.below hb).q k hk
    · have hs := h.dk.1.size
      exact ⟨by omega, h2, fun hS => by have := (h.dk.2.1 k hS).2; omega⟩
  · obtain ⟨A, c, rfl⟩ := Kd.N_slice hN
    refine ⟨A, c, rfl, (Kd.N_reads' hN).2.1, Kd.F_mono (Kd.F_bound (Kd.N_F hN)) (fun k hk => ?_)⟩
    rcases hk.1 with ⟨hq, _⟩ | hk1
    · exact ⟨.inl hq.1, hq.2⟩
    · exact ⟨.inr ⟨hk1, hk.2⟩, by omega⟩
end Go.Proofs.Ytmmiipnmimjojaa.PS
end
section
namespace Go.Proofs.Ytmmiipnmimjojaa.PS
open Go.RowKit Go.Proofs.YtmmiipnmimjojaaW.PrintWords Go.Proofs.YtmmiipnmimjojaaW.PrintLast Go.Proofs.YtmmiipnmimjojaaW.PrintMore
open Go.Maps Go.Proofs.Ytmmiipnmimjojaa.PD
set_option linter.unusedVariables false
set_option linter.unusedSimpArgs false
theorem entsErr_at {x : S48} {e : Int} : ∀ {es : List S48} {i : Nat}, (∀ y ∈ es.take i, entErr y.f0 y.f1 y.f2 y.f3 = 0) → es[i]? = some x → entErr x.f0 x.f1 x.f2 x.f3 = e → e ≠ 0 → entsErr es = e
  | [], i, _, h, _, _ => by simp at h
  | y :: es, 0, _, h, he, hn => by
    simp at h
    subst h
    rw [entsErr, if_neg (by rw [he]; exact hn), he]
  | y :: es, i + 1, ht, h, he, hn => by
    rw [entsErr, if_pos (ht y (by simp))]
    exact entsErr_at (es := es) (i := i) (fun z hz => ht z (by simp [hz])) (by simpa using h) he hn
theorem entsErr_all : ∀ {es : List S48}, (∀ y ∈ es, entErr y.f0 y.f1 y.f2 y.f3 = 0) → entsErr es = 0
  | [], _ => rfl
  | y :: es, h => by rw [entsErr, if_pos (h y (.head _))]; exact entsErr_all (fun z hz => h z (.tail _ hz))
theorem entsErr_zero : ∀ {es : List S48}, entsErr es = 0 → ∀ y ∈ es, entErr y.f0 y.f1 y.f2 y.f3 = 0
  | [], _, y, hy => by cases hy
  | x :: es, h, y, hy => by
    rw [entsErr] at h
    by_cases hx : entErr x.f0 x.f1 x.f2 x.f3 = 0
    · rw [if_pos hx] at h
      rcases List.mem_cons.1 hy with rfl | hy
      · exact hx
      · exact entsErr_zero h y hy
    · rw [if_neg hx] at h; exact absurd h hx
/-- Does entry i go on behind the one ahead of it? -/
def chkAt (s : WS) (es : List S48) (i : Nat) : Prop := if i = 0 then s.bi < (rd_T48 es 0).f2 ∧ (rd_T48 es 0).f2 ≤ s.last + 1 else (rd_T48 es i).f2 = (rd_T48 es ((i : Int) - 1)).f2 + 1
theorem rd48_succ (x : S48) (es : List S48) (n : Nat) : rd_T48 (x :: es) ((n : Int) + 1) = rd_T48 es n := by
  unfold rd_T48
  rw [show ((n : Int) + 1).toNat = n + 1 by omega, Int.toNat_natCast, List.getD_cons_succ]
theorem rowOk_of : ∀ {x : S48} {es : List S48}, (∀ i : Nat, i < es.length → (rd_T48 (x :: es) ((i : Int) + 1)).f2 = (rd_T48 (x :: es) i).f2 + 1) → rowOk x es
  | _, [], _ => trivial
  | x, y :: es, h => by
    refine ⟨?_, rowOk_of (fun i hi => ?_)⟩
    · have := h 0 (by simp)
      simpa [rd_T48] using this
    · have := h (i + 1) (by simp; omega)
      rw [rd48_succ, show ((i + 1 : Nat) : Int) = (i : Int) + 1 by omega, rd48_succ] at this
      exact this
theorem rowOk_at : ∀ {x : S48} {es : List S48}, rowOk x es → ∀ i : Nat, i < es.length → (rd_T48 (x :: es) ((i : Int) + 1)).f2 = (rd_T48 (x :: es) i).f2 + 1
  | _, [], _, i, hi => by simp at hi
  | x, y :: es, h, 0, _ => by simpa [rd_T48] using h.1
  | x, y :: es, h, i + 1, hi => by
    have := rowOk_at h.2 i (by simp at hi; omega)
    rw [rd48_succ, show ((i + 1 : Nat) : Int) = (i : Int) + 1 by omega, rd48_succ]
    exact this
theorem fits_of {s : WS} {es : List S48} (h : ∀ i, i < es.length → chkAt s es i) : fitsOk s es := by
  cases es with
  | nil => trivial
  | cons x es =>
    refine ⟨?_, rowOk_of (fun i hi => ?_)⟩
    · have := h 0 (by simp)
      unfold chkAt at this
      rw [if_pos rfl] at this
      simpa [rd_T48] using this
    · have := h (i + 1) (by simp; omega)
      unfold chkAt at this
      rw [if_neg (by omega)] at this
      rw [show ((i + 1 : Nat) : Int) - 1 = i by omega, show ((i + 1 : Nat) : Int) = (i : Int) + 1 by omega] at this
      exact this
theorem fits_at {s : WS} {es : List S48} (h : fitsOk s es) {i : Nat} (hi : i < es.length) : chkAt s es i := by
  cases es with
  | nil => simp at hi
  | cons x es =>
    unfold chkAt
    cases i with
    | zero => rw [if_pos rfl]; simpa [rd_T48] using h.1
    | succ i =>
      rw [if_neg (by omega), show ((i + 1 : Nat) : Int) - 1 = i by omega, show ((i + 1 : Nat) : Int) = (i : Int) + 1 by omega]
      exact rowOk_at h.2 i (by simp at hi; omega)
theorem adds_snoc (s : WS) (a : List S48) (x : S48) : s.adds (a ++ [x]) = (s.adds a).add x := by unfold WS.adds; rw [List.foldl_append]; rfl
theorem adds_bi (s : WS) : ∀ es : List S48, (s.adds es).bi = s.bi ∧ (s.adds es).bt = s.bt ∧ (s.adds es).ht = s.ht ∧ (s.adds es).hv = s.hv := by
  intro es
  induction es generalizing s with
  | nil => exact ⟨rfl, rfl, rfl, rfl⟩
  | cons x es ih => exact ih (s.add x)
theorem add_len {s : WS} {x : S48} (h : s.fit x) : ((s.add x).es.length : Int) = x.f2 - s.bi := by
  unfold WS.fit at h
  unfold WS.add
  rw [List.length_append, List.length_take, List.length_singleton]
  omega
/-- What is added fits, one by one. -/
theorem adds_fit {s : WS} {es : List S48} (h : fitsOk s es) : ∀ i : Nat, i < es.length → (s.adds (es.take i)).fit (rd_T48 es i) ∧ (0 < i → ((s.adds (es.take i)).es.length : Int) = (rd_T48 es ((i : Int) - 1)).f2 - s.bi)
  | 0, hi => by
    have := fits_at h hi
    unfold chkAt at this
    rw [if_pos rfl] at this
    unfold WS.last at this
    refine ⟨?_, fun h => absurd h (by omega)⟩
    unfold WS.fit
    show 0 ≤ (rd_T48 es 0).f2 - s.bi - 1 ∧ (rd_T48 es 0).f2 - s.bi - 1 ≤ s.es.length
    omega
  | i + 1, hi => by
    have ih := adds_fit h i (by omega)
    have hc := fits_at h hi
    unfold chkAt at hc
    rw [if_neg (by omega)] at hc
    have htk : es.take (i + 1) = es.take i ++ [rd_T48 es i] := by
      rw [List.take_add_one, show es[i]? = some (rd_T48 es i) from rd48_at (i := (i : Int)) (by omega) (by omega)]; rfl
    have hl := add_len ih.1
    rw [(adds_bi s _).1] at hl
    have e1 : ((i + 1 : Nat) : Int) - 1 = i := by omega
    rw [e1] at hc ⊢
    rw [htk, adds_snoc]
    refine ⟨?_, fun _ => hl⟩
    unfold WS.fit
    have hb : ((s.adds (es.take i)).add (rd_T48 es i)).bi = s.bi := (adds_bi s _).1
    rw [hb, hl]
    have h0 := ih.1
    unfold WS.fit at h0
    rw [(adds_bi s _).1] at h0
    omega
theorem adds_ok {s : WS} {es : List S48} (hs : WOk s) (h : fitsOk s es) (he : ∀ x ∈ es, EOk x) : ∀ i : Nat, i ≤ es.length → WOk (s.adds (es.take i)) ∧ (s.adds (es.take i)).es.length ≤ s.es.length + i
  | 0, _ => ⟨by simpa [WS.adds] using hs, by simp [WS.adds]⟩
  | i + 1, hi => by
    have ih := adds_ok hs h he i (by omega)
    have hf := (adds_fit h i (by omega)).1
    have hx : es[i]? = some (rd_T48 es i) := rd48_at (i := (i : Int)) (by omega) (by omega)
    have htk : es.take (i + 1) = es.take i ++ [rd_T48 es i] := by rw [List.take_add_one, hx]; rfl
    rw [htk, adds_snoc]
    refine ⟨ih.1.add hf (he _ (List.mem_of_getElem? hx)), ?_⟩
    unfold WS.add
    rw [List.length_append, List.length_take, List.length_singleton]
    omega
end Go.Proofs.Ytmmiipnmimjojaa.PS
end
