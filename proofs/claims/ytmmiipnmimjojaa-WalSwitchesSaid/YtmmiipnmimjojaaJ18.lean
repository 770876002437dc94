/- The texts of this claim's seat, joined: part 18. -/
import Derived.Test.YtmmiipnmimjojaaJ17
section
namespace Go.Proofs.Ytmmiipnmimjojaa.PS
open Go.RowKit Go.Proofs.YtmmiipnmimjojaaW.PrintWords Go.Proofs.YtmmiipnmimjojaaW.PrintLast Go.Proofs.YtmmiipnmimjojaaW.PrintMore
attribute [local go_sem] max2_int min2_int max_two min_two max_three min_three max_four min_four   -- for this text's walks alone
set_option linter.unusedVariables false
set_option linter.unusedSimpArgs false

attribute [local go_sem high] eqA81 eqA83
def tollgateref06_SameState.f (k : Nat) (a0_0 : Int) (a0_1 : Int) (a0_2 : Int) (a0_3 : Int) (l0_4 : List (S48)) (a1_0 : Int) (a1_1 : Int) (a1_2 : Int) (a1_3 : Int) (l1_4 : List (S48)) : Option (Bool) := if (a0_0 == a1_0 && (a0_1 == a1_1)) = true then (if (a0_2 == a1_2 && (a0_3 == a1_3)) = true then ((tollgateref02_SameEntries.f k l0_4 l1_4).bind fun t254 => (some t254)) else (some false)) else (some false)
theorem tollgateref06_SameState.mono : ∀ a0 a1 a2 a3 a4 a5 a6 a7 a8 a9 k, LeO (tollgateref06_SameState.f k a0 a1 a2 a3 a4 a5 a6 a7 a8 a9) (tollgateref06_SameState.f (k + 1) a0 a1 a2 a3 a4 a5 a6 a7 a8 a9) := by
  intro a0 a1 a2 a3 a4 a5 a6 a7 a8 a9 k
  unfold tollgateref06_SameState.f
  repeat' first
      | (with_reducible exact tollgateref02_SameEntries.mono _ _ _)
      | (with_reducible exact LeO.refl _)
      | (with_reducible exact LeO.none _)
      | (with_reducible refine LeO.ite ?_ ?_)
      | (with_reducible refine LeO.bind ?_ (fun _ => ?_))
      | exact tollgateref02_SameEntries.mono _ _ _
      | exact LeO.none _
      | refine LeO.ite ?_ ?_
      | refine LeO.bind ?_ (fun _ => ?_)
set_option maxHeartbeats 8000000 in
set_option maxRecDepth 100000 in
theorem tollgateref06_SameState.calls (k : Nat) (a0_0 : Int) (a0_1 : Int) (a0_2 : Int) (a0_3 : Int) (A0_4 : Option Addr) (c0_4 : Nat) (l0_4 : List (S48)) (a1_0 : Int) (a1_1 : Int) (a1_2 : Int) (a1_3 : Int) (A1_4 : Option Addr) (c1_4 : Nat) (l1_4 : List (S48)) (r : Bool) (w : World) (hr0_4 : Kd.C k48 w A0_4 l0_4.length l0_4) (hc0_4 : l0_4.length ≤ c0_4) (hr1_4 : Kd.C k48 w A1_4 l1_4.length l1_4) (hc1_4 : l1_4.length ≤ c1_4) (h : tollgateref06_SameState.f k a0_0 a0_1 a0_2 a0_3 l0_4 a1_0 a1_1 a1_2 a1_3 l1_4 = some r) :
    Calls Try.prog 52 #[.agg #[.int .i64 a0_0, .int .i64 a0_1, .int .i64 a0_2, .int .i64 a0_3, .slice A0_4 l0_4.length c0_4], .agg #[.int .i64 a1_0, .int .i64 a1_1, .int .i64 a1_2, .int .i64 a1_3, .slice A1_4 l1_4.length c1_4]] w fun e w' => e = .returned (.bool r) ∧ Below w.heap.size w w' := by
  have hu87 := Try.underlying87
  have hu83 := Try.underlying83
  have hu81 := Try.underlying81
  have HR0_4 := Aside0.mk hr0_4
  have HC0_4 := Aside0.mk hc0_4
  clear hr0_4 hc0_4
  have HR1_4 := Aside0.mk hr1_4
  have HC1_4 := Aside0.mk hc1_4
  clear hr1_4 hc1_4
  have HB := Aside0.mk (Below.refl w.heap.size w)
  have H : (if (a0_0 == a1_0 && (a0_1 == a1_1)) = true then (if (a0_2 == a1_2 && (a0_3 == a1_3)) = true then ((tollgateref02_SameEntries.f k l0_4 l1_4).bind fun t254 => (some t254)) else (some false)) else (some false)) = some r := h
  clear h
  by_cases c3 : (a0_0 == a1_0 && (a0_1 == a1_1)) = true
  · rw [if_pos c3] at H
    have c3b0 : (a0_0 == a1_0 && (a0_1 == a1_1)) = true := c3
    (try (have c3b1 : decide (a0_0 = a1_0 && (a0_1 == a1_1)) = true := by simpa using c3))
    (try (have c3b2 : (a0_0 == a1_0 && (a0_1 == a1_1)) = true := by simpa using c3))
    clear c3
    by_cases c4 : (a0_2 == a1_2 && (a0_3 == a1_3)) = true
    · rw [if_pos c4] at H
      have c4b0 : (a0_2 == a1_2 && (a0_3 == a1_3)) = true := c4
      (try (have c4b1 : decide (a0_2 = a1_2 && (a0_3 == a1_3)) = true := by simpa using c4))
      (try (have c4b2 : (a0_2 == a1_2 && (a0_3 == a1_3)) = true := by simpa using c4))
      clear c4
      replace H := Option.bind_eq_some_iff.mp H
      obtain ⟨t254, A50, H⟩ := H
      replace H : (some t254) = some r := H
      have A5 := Aside0.mk A50
      clear A50
      obtain rfl := Option.some.inj H
      go_enter Try.func52, Try.ntmps52
      go_wp2_with (first | ((with_reducible refine gate_dst (N := 2) rfl ?_); refine box_event ?hg (N := 2) ?hd (cs := #[.int .i64 a0_0, .int .i64 a0_1, .int .i64 a0_2, .int .i64 a0_3, .slice A0_4 l0_4.length c0_4]) (t := 87) ?hr ?_; (case hd => rfl); (case hg => rfl); (case hr => first | (go_simp; done) | (go_simp; rfl)); intro gb252 hg w6 hbox hb; have n0_ := Aside0.mk (below_step (by repeat (first | (with_reducible first | exact HB.out | apply below_alloc | apply pw_below_drewN | apply below_drew1) | exact HB.out)) hb); have n1_ := Aside0.mk (hbox); have n2_ := Aside0.mk ((by rw [hg]; exact (below_size (by repeat (first | (with_reducible first | exact HB.out | apply below_alloc | apply pw_below_drewN | apply below_drew1) | exact HB.out))) : w.heap.size ≤ gb252)); have n3_ := Aside0.mk ((by rw [hg]; exact (below_size (by repeat (first | (with_reducible first | exact HB.out | apply below_alloc | apply pw_below_drewN | apply below_drew1) | exact HB.out))) : w.heap.size ≤ gb252)); clear HB; have HB := n0_; have BK252 := n1_; have GW252 := n2_; have GE252 := n3_; clear n0_ n1_ n2_ n3_; clear hb hbox hg) | ((with_reducible refine gate_dst (N := 3) rfl ?_); refine box_event ?hg (N := 3) ?hd (cs := #[.int .i64 a1_0, .int .i64 a1_1, .int .i64 a1_2, .int .i64 a1_3, .slice A1_4 l1_4.length c1_4]) (t := 87) ?hr ?_; (case hd => rfl); (case hg => rfl); (case hr => first | (go_simp; done) | (go_simp; rfl)); intro gb253 hg w7 hbox hb; have n0_ := Aside0.mk (blk_below (g := gb252) (o := .cells #[.int .i64 a0_0, .int .i64 a0_1, .int .i64 a0_2, .int .i64 a0_3, .slice A0_4 l0_4.length c0_4] 87 (0, 0)) (by (with_reducible repeat (first | refine blk_drewN ?_ _ | refine blk_drew ?_ | refine blk_alloc ?_ _)); exact BK252.out) hb); have n1_ := Aside0.mk (below_step (by repeat (first | (with_reducible first | exact HB.out | apply below_alloc | apply pw_below_drewN | apply below_drew1 | refine below_set ?_ GE252.out) | exact HB.out)) hb); have n2_ := Aside0.mk (hbox); have n3_ := Aside0.mk ((by rw [hg]; exact (below_size (by repeat (first | (with_reducible first | exact HB.out | apply below_alloc | apply pw_below_drewN | apply below_drew1 | refine below_set ?_ GE252.out) | exact HB.out))) : w.heap.size ≤ gb253)); have n4_ := Aside0.mk ((by rw [hg]; exact (below_size (by repeat (first | (with_reducible first | exact HB.out | apply below_alloc | apply pw_below_drewN | apply below_drew1 | refine below_set ?_ GE252.out) | exact HB.out))) : w.heap.size ≤ gb253)); have n5_ := Aside0.mk ((by rw [hg]; exact Nat.ne_of_lt (blk_lt (g := gb252) (o := .cells #[.int .i64 a0_0, .int .i64 a0_1, .int .i64 a0_2, .int .i64 a0_3, .slice A0_4 l0_4.length c0_4] 87 (0, 0)) (by (with_reducible repeat (first | refine blk_drewN ?_ _ | refine blk_drew ?_ | refine blk_alloc ?_ _)); exact BK252.out)) : gb252 ≠ gb253)); have n6_ := Aside0.mk ((by rw [hg]; exact Nat.ne_of_gt (blk_lt (g := gb252) (o := .cells #[.int .i64 a0_0, .int .i64 a0_1, .int .i64 a0_2, .int .i64 a0_3, .slice A0_4 l0_4.length c0_4] 87 (0, 0)) (by (with_reducible repeat (first | refine blk_drewN ?_ _ | refine blk_drew ?_ | refine blk_alloc ?_ _)); exact BK252.out)) : gb253 ≠ gb252)); clear BK252; clear HB; have BK252 := n0_; have HB := n1_; have BK253 := n2_; have GW253 := n3_; have GE253 := n4_; have NB252_253 := n5_; have NB253_252 := n6_; clear n0_ n1_ n2_ n3_ n4_ n5_ n6_; clear hb hbox hg; have hnb8 := NB252_253.out; have hnc8 := NB253_252.out; have hcz9_0 : w7.cell? ⟨gb252, 0, none⟩ = some (.int .i64 a0_0) := (blk_cell BK252.out 0).trans rfl; have hcz9_1 : w7.cell? ⟨gb252, 1, none⟩ = some (.int .i64 a0_1) := (blk_cell BK252.out 1).trans rfl; have hcz9_2 : w7.cell? ⟨gb252, 2, none⟩ = some (.int .i64 a0_2) := (blk_cell BK252.out 2).trans rfl; have hcz9_3 : w7.cell? ⟨gb252, 3, none⟩ = some (.int .i64 a0_3) := (blk_cell BK252.out 3).trans rfl; have hcz9_4 : w7.cell? ⟨gb252, 4, none⟩ = some (.slice A0_4 l0_4.length c0_4) := (blk_cell BK252.out 4).trans rfl; have hfz9_0 := blk_frozen BK252.out 0; have hfz9_1 := blk_frozen BK252.out 1; have hfz9_2 := blk_frozen BK252.out 2; have hfz9_3 := blk_frozen BK252.out 3; have hfz9_4 := blk_frozen BK252.out 4; have hcz10_0 : w7.cell? ⟨gb253, 0, none⟩ = some (.int .i64 a1_0) := (blk_cell BK253.out 0).trans rfl; have hcz10_1 : w7.cell? ⟨gb253, 1, none⟩ = some (.int .i64 a1_1) := (blk_cell BK253.out 1).trans rfl; have hcz10_2 : w7.cell? ⟨gb253, 2, none⟩ = some (.int .i64 a1_2) := (blk_cell BK253.out 2).trans rfl; have hcz10_3 : w7.cell? ⟨gb253, 3, none⟩ = some (.int .i64 a1_3) := (blk_cell BK253.out 3).trans rfl; have hcz10_4 : w7.cell? ⟨gb253, 4, none⟩ = some (.slice A1_4 l1_4.length c1_4) := (blk_cell BK253.out 4).trans rfl; have hfz10_0 := blk_frozen BK253.out 0; have hfz10_1 := blk_frozen BK253.out 1; have hfz10_2 := blk_frozen BK253.out 2; have hfz10_3 := blk_frozen BK253.out 3; have hfz10_4 := blk_frozen BK253.out 4) | (go_at_call 93; (with_reducible refine (tollgateref02_SameEntries.calls k _ _ l0_4 _ _ l1_4 t254 _ ?side1 ?side2 ?side3 ?side4 A5.out).mono ?_); (case side1 => repeat (first | exact (Kd.C_below HR0_4.out HB.out) | (with_reducible refine Kd.C_alloc ?_ _) | (with_reducible refine Kd.C_drewN ?_ _) | (with_reducible refine Kd.C_drew ?_))); (case side2 => exact HC0_4.out); (case side3 => repeat (first | exact (Kd.C_below HR1_4.out HB.out) | (with_reducible refine Kd.C_alloc ?_ _) | (with_reducible refine Kd.C_drewN ?_ _) | (with_reducible refine Kd.C_drew ?_))); (case side4 => exact HC1_4.out); rintro e w11 ⟨rfl, hb⟩; have n0_ := Aside0.mk (blk_below (g := gb252) (o := .cells #[.int .i64 a0_0, .int .i64 a0_1, .int .i64 a0_2, .int .i64 a0_3, .slice A0_4 l0_4.length c0_4] 87 (0, 0)) (by (with_reducible repeat (first | refine blk_drewN ?_ _ | refine blk_drew ?_ | refine blk_alloc ?_ _)); exact BK252.out) hb); have n1_ := Aside0.mk (blk_below (g := gb253) (o := .cells #[.int .i64 a1_0, .int .i64 a1_1, .int .i64 a1_2, .int .i64 a1_3, .slice A1_4 l1_4.length c1_4] 87 (0, 0)) (by (with_reducible repeat (first | refine blk_drewN ?_ _ | refine blk_drew ?_ | refine blk_alloc ?_ _)); exact BK253.out) hb); have n2_ := Aside0.mk (below_step (by repeat (first | (with_reducible first | exact HB.out | apply below_alloc | apply pw_below_drewN | apply below_drew1 | refine below_set ?_ GE252.out | refine below_set ?_ GE253.out) | exact HB.out)) hb); clear BK252; clear BK253; clear HB; have BK252 := n0_; have BK253 := n1_; have HB := n2_; clear n0_ n1_ n2_; (try clear hb); (try clear hb2); (try clear hk); (try clear hi)))
      go_ret
      exact ⟨by first | rfl | (simp [errW_none, errW_some] <;> rfl) | (simp [*, errW_none, errW_some] <;> rfl), by repeat (first | (with_reducible first | exact HB.out | apply below_alloc | apply pw_below_drewN | apply below_drew1 | refine below_set ?_ GE252.out | refine below_set ?_ GE253.out) | exact HB.out)⟩
    · rw [if_neg c4] at H
      have c4b0 : (a0_2 == a1_2 && (a0_3 == a1_3)) = false := by simpa using c4
      (try (have c4b1 : decide (a0_2 = a1_2 && (a0_3 == a1_3)) = false := by simpa using c4))
      (try (have c4b2 : (a0_2 == a1_2 && (a0_3 == a1_3)) = false := by simpa using c4))
      (try (have c4b3 : ¬ (a0_2 = a1_2 && (a0_3 == a1_3)) := by simpa using c4))
      clear c4
      obtain rfl := Option.some.inj H
      go_enter Try.func52, Try.ntmps52
      go_wp2_with (first | ((with_reducible refine gate_dst (N := 2) rfl ?_); refine box_event ?hg (N := 2) ?hd (cs := #[.int .i64 a0_0, .int .i64 a0_1, .int .i64 a0_2, .int .i64 a0_3, .slice A0_4 l0_4.length c0_4]) (t := 87) ?hr ?_; (case hd => rfl); (case hg => rfl); (case hr => first | (go_simp; done) | (go_simp; rfl)); intro gb252 hg w12 hbox hb; have n0_ := Aside0.mk (below_step (by repeat (first | (with_reducible first | exact HB.out | apply below_alloc | apply pw_below_drewN | apply below_drew1) | exact HB.out)) hb); have n1_ := Aside0.mk (hbox); have n2_ := Aside0.mk ((by rw [hg]; exact (below_size (by repeat (first | (with_reducible first | exact HB.out | apply below_alloc | apply pw_below_drewN | apply below_drew1) | exact HB.out))) : w.heap.size ≤ gb252)); have n3_ := Aside0.mk ((by rw [hg]; exact (below_size (by repeat (first | (with_reducible first | exact HB.out | apply below_alloc | apply pw_below_drewN | apply below_drew1) | exact HB.out))) : w.heap.size ≤ gb252)); clear HB; have HB := n0_; have BK252 := n1_; have GW252 := n2_; have GE252 := n3_; clear n0_ n1_ n2_ n3_; clear hb hbox hg) | ((with_reducible refine gate_dst (N := 3) rfl ?_); refine box_event ?hg (N := 3) ?hd (cs := #[.int .i64 a1_0, .int .i64 a1_1, .int .i64 a1_2, .int .i64 a1_3, .slice A1_4 l1_4.length c1_4]) (t := 87) ?hr ?_; (case hd => rfl); (case hg => rfl); (case hr => first | (go_simp; done) | (go_simp; rfl)); intro gb253 hg w13 hbox hb; have n0_ := Aside0.mk (blk_below (g := gb252) (o := .cells #[.int .i64 a0_0, .int .i64 a0_1, .int .i64 a0_2, .int .i64 a0_3, .slice A0_4 l0_4.length c0_4] 87 (0, 0)) (by (with_reducible repeat (first | refine blk_drewN ?_ _ | refine blk_drew ?_ | refine blk_alloc ?_ _)); exact BK252.out) hb); have n1_ := Aside0.mk (below_step (by repeat (first | (with_reducible first | exact HB.out | apply below_alloc | apply pw_below_drewN | apply below_drew1 | refine below_set ?_ GE252.out) | exact HB.out)) hb); have n2_ := Aside0.mk (hbox); have n3_ := Aside0.mk ((by rw [hg]; exact (below_size (by repeat (first | (with_reducible first | exact HB.out | apply below_alloc | apply pw_below_drewN | apply below_drew1 | refine below_set ?_ GE252.out) | exact HB.out))) : w.heap.size ≤ gb253)); have n4_ := Aside0.mk ((by rw [hg]; exact (below_size (by repeat (first | (with_reducible first | exact HB.out | apply below_alloc | apply pw_below_drewN | apply below_drew1 | refine below_set ?_ GE252.out) | exact HB.out))) : w.heap.size ≤ gb253)); have n5_ := Aside0.mk ((by rw [hg]; exact Nat.ne_of_lt (blk_lt (g := gb252) (o := .cells #[.int .i64 a0_0, .int .i64 a0_1, .int .i64 a0_2, .int .i64 a0_3, .slice A0_4 l0_4.length c0_4] 87 (0, 0)) (by (with_reducible repeat (first | refine blk_drewN ?_ _ | refine blk_drew ?_ | refine blk_alloc ?_ _)); exact BK252.out)) : gb252 ≠ gb253)); have n6_ := Aside0.mk ((by rw [hg]; exact Nat.ne_of_gt (blk_lt (g := gb252) (o := .cells #[.int .i64 a0_0, .int .i64 a0_1, .int .i64 a0_2, .int .i64 a0_3, .slice A0_4 l0_4.length c0_4] 87 (0, 0)) (by (with_reducible repeat (first | refine blk_drewN ?_ _ | refine blk_drew ?_ | refine blk_alloc ?_ _)); exact BK252.out)) : gb253 ≠ gb252)); clear BK252; clear HB; have BK252 := n0_; have HB := n1_; have BK253 := n2_; have GW253 := n3_; have GE253 := n4_; have NB252_253 := n5_; have NB253_252 := n6_; clear n0_ n1_ n2_ n3_ n4_ n5_ n6_; clear hb hbox hg; have hnb14 := NB252_253.out; have hnc14 := NB253_252.out; have hcz15_0 : w13.cell? ⟨gb252, 0, none⟩ = some (.int .i64 a0_0) := (blk_cell BK252.out 0).trans rfl; have hcz15_1 : w13.cell? ⟨gb252, 1, none⟩ = some (.int .i64 a0_1) := (blk_cell BK252.out 1).trans rfl; have hcz15_2 : w13.cell? ⟨gb252, 2, none⟩ = some (.int .i64 a0_2) := (blk_cell BK252.out 2).trans rfl; have hcz15_3 : w13.cell? ⟨gb252, 3, none⟩ = some (.int .i64 a0_3) := (blk_cell BK252.out 3).trans rfl; have hcz15_4 : w13.cell? ⟨gb252, 4, none⟩ = some (.slice A0_4 l0_4.length c0_4) := (blk_cell BK252.out 4).trans rfl; have hfz15_0 := blk_frozen BK252.out 0; have hfz15_1 := blk_frozen BK252.out 1; have hfz15_2 := blk_frozen BK252.out 2; have hfz15_3 := blk_frozen BK252.out 3; have hfz15_4 := blk_frozen BK252.out 4; have hcz16_0 : w13.cell? ⟨gb253, 0, none⟩ = some (.int .i64 a1_0) := (blk_cell BK253.out 0).trans rfl; have hcz16_1 : w13.cell? ⟨gb253, 1, none⟩ = some (.int .i64 a1_1) := (blk_cell BK253.out 1).trans rfl; have hcz16_2 : w13.cell? ⟨gb253, 2, none⟩ = some (.int .i64 a1_2) := (blk_cell BK253.out 2).trans rfl; have hcz16_3 : w13.cell? ⟨gb253, 3, none⟩ = some (.int .i64 a1_3) := (blk_cell BK253.out 3).trans rfl; have hcz16_4 : w13.cell? ⟨gb253, 4, none⟩ = some (.slice A1_4 l1_4.length c1_4) := (blk_cell BK253.out 4).trans rfl; have hfz16_0 := blk_frozen BK253.out 0; have hfz16_1 := blk_frozen BK253.out 1; have hfz16_2 := blk_frozen BK253.out 2; have hfz16_3 := blk_frozen BK253.out 3; have hfz16_4 := blk_frozen BK253.out 4))
      go_ret
      exact ⟨by first | rfl | (simp [errW_none, errW_some] <;> rfl) | (simp [*, errW_none, errW_some] <;> rfl), by repeat (first | (with_reducible first | exact HB.out | apply below_alloc | apply pw_below_drewN | apply below_drew1 | refine below_set ?_ GE252.out | refine below_set ?_ GE253.out) | exact HB.out)⟩
  · rw [if_neg c3] at H
    have c3b0 : (a0_0 == a1_0 && (a0_1 == a1_1)) = false := by simpa using c3
    (try (have c3b1 : decide (a0_0 = a1_0 && (a0_1 == a1_1)) = false := by simpa using c3))
    (try (have c3b2 : (a0_0 == a1_0 && (a0_1 == a1_1)) = false := by simpa using c3))
    (try (have c3b3 : ¬ (a0_0 = a1_0 && (a0_1 == a1_1)) := by simpa using c3))
    clear c3
    obtain rfl := Option.some.inj H
    go_enter Try.func52, Try.ntmps52
    go_wp2_with (first | ((with_reducible refine gate_dst (N := 2) rfl ?_); refine box_event ?hg (N := 2) ?hd (cs := #[.int .i64 a0_0, .int .i64 a0_1, .int .i64 a0_2, .int .i64 a0_3, .slice A0_4 l0_4.length c0_4]) (t := 87) ?hr ?_; (case hd => rfl); (case hg => rfl); (case hr => first | (go_simp; done) | (go_simp; rfl)); intro gb252 hg w17 hbox hb; have n0_ := Aside0.mk (below_step (by repeat (first | (with_reducible first | exact HB.out | apply below_alloc | apply pw_below_drewN | apply below_drew1) | exact HB.out)) hb); have n1_ := Aside0.mk (hbox); have n2_ := Aside0.mk ((by rw [hg]; exact (below_size (by repeat (first | (with_reducible first | exact HB.out | apply below_alloc | apply pw_below_drewN | apply below_drew1) | exact HB.out))) : w.heap.size ≤ gb252)); have n3_ := Aside0.mk ((by rw [hg]; exact (below_size (by repeat (first | (with_reducible first | exact HB.out | apply below_alloc | apply pw_below_drewN | apply below_drew1) | exact HB.out))) : w.heap.size ≤ gb252)); clear HB; have HB := n0_; have BK252 := n1_; have GW252 := n2_; have GE252 := n3_; clear n0_ n1_ n2_ n3_; clear hb hbox hg) | ((with_reducible refine gate_dst (N := 3) rfl ?_); refine box_event ?hg (N := 3) ?hd (cs := #[.int .i64 a1_0, .int .i64 a1_1, .int .i64 a1_2, .int .i64 a1_3, .slice A1_4 l1_4.length c1_4]) (t := 87) ?hr ?_; (case hd => rfl); (case hg => rfl); (case hr => first | (go_simp; done) | (go_simp; rfl)); intro gb253 hg w18 hbox hb; have n0_ := Aside0.mk (blk_below (g := gb252) (o := .cells #[.int .i64 a0_0, .int .i64 a0_1, .int .i64 a0_2, .int .i64 a0_3, .slice A0_4 l0_4.length c0_4] 87 (0, 0)) (by (with_reducible repeat (first | refine blk_drewN ?_ _ | refine blk_drew ?_ | refine blk_alloc ?_ _)); exact BK252.out) hb); have n1_ := Aside0.mk (below_step (by repeat (first | (with_reducible first | exact HB.out | apply below_alloc | apply pw_below_drewN | apply below_drew1 | refine below_set ?_ GE252.out) | exact HB.out)) hb); have n2_ := Aside0.mk (hbox); have n3_ := Aside0.mk ((by rw [hg]; exact (below_size (by repeat (first | (with_reducible first | exact HB.out | apply below_alloc | apply pw_below_drewN | apply below_drew1 | refine below_set ?_ GE252.out) | exact HB.out))) : w.heap.size ≤ gb253)); have n4_ := Aside0.mk ((by rw [hg]; exact (below_size (by repeat (first | (with_reducible first | exact HB.out | apply below_alloc | apply pw_below_drewN | apply below_drew1 | refine below_set ?_ GE252.out) | exact HB.out))) : w.heap.size ≤ gb253)); have n5_ := Aside0.mk ((by rw [hg]; exact Nat.ne_of_lt (blk_lt (g := gb252) (o := .cells #[.int .i64 a0_0, .int .i64 a0_1, .int .i64 a0_2, .int .i64 a0_3, .slice A0_4 l0_4.length c0_4] 87 (0, 0)) (by (with_reducible repeat (first | refine blk_drewN ?_ _ | refine blk_drew ?_ | refine blk_alloc ?_ _)); exact BK252.out)) : gb252 ≠ gb253)); have n6_ := Aside0.mk ((by rw [hg]; exact Nat.ne_of_gt (blk_lt (g := gb252) (o := .cells #[.int .i64 a0_0, .int .i64 a0_1, .int .i64 a0_2, .int .i64 a0_3, .slice A0_4 l0_4.length c0_4] 87 (0, 0)) (by (with_reducible repeat (first | refine blk_drewN ?_ _ | refine blk_drew ?_ | refine blk_alloc ?_ _)); exact BK252.out)) : gb253 ≠ gb252)); clear BK252; clear HB; have BK252 := n0_; have HB := n1_; have BK253 := n2_; have GW253 := n3_; have GE253 := n4_; have NB252_253 := n5_; have NB253_252 := n6_; clear n0_ n1_ n2_ n3_ n4_ n5_ n6_; clear hb hbox hg; have hnb19 := NB252_253.out; have hnc19 := NB253_252.out; have hcz20_0 : w18.cell? ⟨gb252, 0, none⟩ = some (.int .i64 a0_0) := (blk_cell BK252.out 0).trans rfl; have hcz20_1 : w18.cell? ⟨gb252, 1, none⟩ = some (.int .i64 a0_1) := (blk_cell BK252.out 1).trans rfl; have hcz20_2 : w18.cell? ⟨gb252, 2, none⟩ = some (.int .i64 a0_2) := (blk_cell BK252.out 2).trans rfl; have hcz20_3 : w18.cell? ⟨gb252, 3, none⟩ = some (.int .i64 a0_3) := (blk_cell BK252.out 3).trans rfl; have hcz20_4 : w18.cell? ⟨gb252, 4, none⟩ = some (.slice A0_4 l0_4.length c0_4) := (blk_cell BK252.out 4).trans rfl; have hfz20_0 := blk_frozen BK252.out 0; have hfz20_1 := blk_frozen BK252.out 1; have hfz20_2 := blk_frozen BK252.out 2; have hfz20_3 := blk_frozen BK252.out 3; have hfz20_4 := blk_frozen BK252.out 4; have hcz21_0 : w18.cell? ⟨gb253, 0, none⟩ = some (.int .i64 a1_0) := (blk_cell BK253.out 0).trans rfl; have hcz21_1 : w18.cell? ⟨gb253, 1, none⟩ = some (.int .i64 a1_1) := (blk_cell BK253.out 1).trans rfl; have hcz21_2 : w18.cell? ⟨gb253, 2, none⟩ = some (.int .i64 a1_2) := (blk_cell BK253.out 2).trans rfl; have hcz21_3 : w18.cell? ⟨gb253, 3, none⟩ = some (.int .i64 a1_3) := (blk_cell BK253.out 3).trans rfl; have hcz21_4 : w18.cell? ⟨gb253, 4, none⟩ = some (.slice A1_4 l1_4.length c1_4) := (blk_cell BK253.out 4).trans rfl; have hfz21_0 := blk_frozen BK253.out 0; have hfz21_1 := blk_frozen BK253.out 1; have hfz21_2 := blk_frozen BK253.out 2; have hfz21_3 := blk_frozen BK253.out 3; have hfz21_4 := blk_frozen BK253.out 4))
    go_ret
    exact ⟨by first | rfl | (simp [errW_none, errW_some] <;> rfl) | (simp [*, errW_none, errW_some] <;> rfl), by repeat (first | (with_reducible first | exact HB.out | apply below_alloc | apply pw_below_drewN | apply below_drew1 | refine below_set ?_ GE252.out | refine below_set ?_ GE253.out) | exact HB.out)⟩

end Go.Proofs.Ytmmiipnmimjojaa.PS
end
section
namespace Go.Proofs.Ytmmiipnmimjojaa.PS
open Go.RowKit Go.Proofs.YtmmiipnmimjojaaW.PrintWords Go.Proofs.YtmmiipnmimjojaaW.PrintLast Go.Proofs.YtmmiipnmimjojaaW.PrintMore
open Go.Maps Go.Proofs.Ytmmiipnmimjojaa.PD
set_option linter.unusedVariables false
set_option linter.unusedSimpArgs false
attribute [local go_sem high] eqA81
theorem put1_st (D : Dsk) (M : LM) (b : List Int) : (lgPut1 D M b).2.2.st = M.st := by
  unfold lgPut1
  dsimp only
  split <;> rfl
theorem put_st (D : Dsk) (M : LM) (b : List Int) : (lgPut D M b).2.2.st = M.st := by
  have h1 : (lgAnew D M M.st).2.2.st = M.st := by
    unfold lgAnew mAnew
    dsimp only
    split <;> rfl
  unfold lgPut
  split
  · split
    · rw [put1_st, h1]
    · exact h1
  · exact put1_st D M b
theorem Wl.setH {W0 W : World} {S Q : Nat → Prop} {g N L : Nat} {D : Dsk} {M : LM} (h : Wl W0 W S Q g N L D M) (t u : Int) : AfW W0 W S Q g N L D { M with st := { M.st with ht := t, hv := u } } ((W.setCell ⟨L, 3, none⟩ (.int .i64 t)).setCell ⟨L, 4, none⟩ (.int .i64 u)) := by
  obtain ⟨hQ, v, hb, hv⟩ := h.lg
  refine h.setL (M' := { M with st := { M.st with ht := t, hv := u } }) (v := v) hv (kp_set (kp_set (Kp.refl W (fun k => k = L)) 3 _) 4 _) ?_
  have h1 := blk_set hb 3 (.int .i64 t)
  have h2 := blk_set h1 4 (.int .i64 u)
  rw [h2]
  unfold lgC
  simp
/-- New bytes are none of the disk's. -/
theorem F_new {W0 W w2 w3 : World} {S Q : Nat → Prop} {g N L base : Nat} {D : Dsk} {M : LM} {A : Option Addr} {c : Nat} {b : List Int} (h : Wl W0 W S Q g N L D M) (hb : W.heap.size ≤ base) (hr : k8.R 5 w3 base (fun _ => True) (.slice A b.length c) b) : Kd.F k8 w3 (fun k => (¬ S k ∧ k ≠ L) ∧ k < w3.heap.size) A b.length b :=
  Kd.F_mono (Kd.R_F (Kd.R_bound hr)) (fun k hk => ⟨⟨fun hS => by have := (h.dk.2.1 k hS).2; have := hk.2.1; omega, fun e => by have := h.lt; have := hk.2.1; omega⟩, hk.2.2.1⟩)
set_option maxHeartbeats 4000000 in
set_option maxRecDepth 100000 in
theorem sethard_calls {W0 W : World} {S Q : Nat → Prop} {g N L : Nat} {D : Dsk} {M : LM} {t u : Int} (h : Wl W0 W S Q g N L D M) (hm : MOk M) (hN : N ≤ 800000) (hn : M.n ≤ 900000000) (hnm : namedB (nameB (M.n + 1)) = true) :
    Calls Try.prog 53 #[.pointer (some ⟨L, 0, none⟩), .agg #[.int .i64 t, .int .i64 u]] W (ErrP W0 W S Q g (N + 2) L (lgHard D M t u)) := by
  obtain ⟨R, hR⟩ : ∃ R, lgHard D M t u = R := ⟨_, rfl⟩
  have hR0 := hR
  unfold lgHard at hR0
  rw [hR]
  obtain ⟨w1, hw1⟩ : ∃ w1, w1 = W.alloc (.cells #[.int .i64 t, .int .i64 u] 81) := ⟨_, rfl⟩
  have hb1 : Below W.heap.size W w1 := by rw [hw1]; exact below_alloc (Below.refl _ _) _
  have hbk : w1.heap[W.heap.size]? = some (.cells #[.int .i64 t, .int .i64 u] 81 (0, 0)) := by rw [hw1]; exact blk_new W _
  have m0 : w1.cell? ⟨W.heap.size, 0, none⟩ = some (.int .i64 t) := blk_cell hbk 0
  have m1 : w1.cell? ⟨W.heap.size, 1, none⟩ = some (.int .i64 u) := blk_cell hbk 1
  have HB1 := Aside0.mk hb1
  have HBK := Aside0.mk hbk
  have HW1 := Aside0.mk (h.below hb1)
  have HLT := Aside0.mk h.lt
  have HSK := Aside0.mk (fun k hk => (h.dk.2.1 k hk).2)
  obtain ⟨e, he⟩ : ∃ e, hardErr t u = e := ⟨_, rfl⟩
  rw [he] at hR0
  by_cases he0 : e = 0
  · have hok : hardErr t u = 0 := he.trans he0
    have hh := hard_ok hok
    have hxl : (enc t ++ enc u).length ≤ 100 := by rw [List.length_append]; have l1 := enc_len hh.1.1 hh.1.2; have l2 := enc_len hh.2.1 (by omega); omega
    obtain ⟨X, hX⟩ : ∃ X, enc t ++ enc u = X := ⟨_, rfl⟩
    have HP := Aside0.mk (wire_PutHard.calls 20 t u X 0 w1 (by rw [PutHard_f (by omega), if_pos hok, hX]))
    rw [hX] at hxl
    have HX := Aside0.mk hX
    rw [if_neg (by omega)] at hR0
    have HR0 := Aside0.mk hR0
    clear hR hR0 he he0 hX hb1 hbk hok
    by_cases hsame : t = M.st.ht ∧ u = M.st.hv
    · rw [if_pos hsame] at HR0
      obtain ⟨rfl, rfl⟩ := hsame
      clear h hm
      go_enter Try.func53, Try.ntmps53
      go_upto_region 1 with (fail)
      rw [← hw1]
      clear hw1
      go_wp2_with fail
      refine HP.out.mono ?_
      rintro e w2 ⟨v2, rfl, hR2, hB2⟩
      have HW2 := Aside0.mk (HW1.out.below hB2)
      have HB2 := Aside0.mk (below_step HB1.out hB2)
      have hK2 := (hB2.block _ (blk_lt HBK.out)).trans HBK.out
      have n0 : w2.cell? ⟨W.heap.size, 0, none⟩ = some (.int .i64 M.st.ht) := blk_cell hK2 0
      have n1 : w2.cell? ⟨W.heap.size, 1, none⟩ = some (.int .i64 M.st.hv) := blk_cell hK2 1
      obtain ⟨A1, c1', ⟨k1, k2, k3, k4, k5⟩, hV⟩ := HW2.out.cell1
      clear hR2 hB2 m0 m1 hK2 k1 k2 k5 hV
      go_wp2_with fail
      go_quiet (fail)
      go_wp2_with fail
      go_ret
      rw [← HR0.out]
      exact ⟨rfl, S, Q, (HW2.out.below (pw_below_drewN (Below.refl _ _) _)).mono (by omega), Bys.of_below (pw_below_drewN HB2.out _), fun _ _ h => h⟩
    · rw [if_neg hsame] at HR0
      have hq : (t == M.st.ht && (u == M.st.hv)) = false := by
        rw [Bool.and_eq_false_iff]
        by_cases h1 : t = M.st.ht
        · exact .inr (beq_eq_false_iff_ne.mpr (fun h2 => hsame ⟨h1, h2⟩))
        · exact .inl (beq_eq_false_iff_ne.mpr h1)
      clear hsame
      go_enter Try.func53, Try.ntmps53
      go_upto_region 1 with (fail)
      rw [← hw1]
      clear hw1
      go_wp2_with fail
      refine HP.out.mono ?_
      rintro e w2 ⟨v2, rfl, hR2, hB2⟩
      have HW2 := Aside0.mk (HW1.out.below hB2)
      have HB2 := Aside0.mk (below_step HB1.out hB2)
      have hK2 := (hB2.block _ (blk_lt HBK.out)).trans HBK.out
      have n0 : w2.cell? ⟨W.heap.size, 0, none⟩ = some (.int .i64 t) := blk_cell hK2 0
      have n1 : w2.cell? ⟨W.heap.size, 1, none⟩ = some (.int .i64 u) := blk_cell hK2 1
      obtain ⟨A1, c1', ⟨k1, k2, k3, k4, k5⟩, hV⟩ := HW2.out.cell1
      have HK2 := Aside0.mk hK2
      obtain ⟨A2, c2, rfl⟩ := Kd.R_slice hR2
      have HR2 := Aside0.mk hR2
      have hx2 := (Kd.R_reads' hR2).2.1
      have HFR := Aside0.mk (show (lgPut D M (frameB (2 :: X))) = (lgPut D M (recsB [.hard t u])) by rw [recsB_one, ← HX.out]; rfl)
      have HHR := Aside0.mk hnm
      have HM := Aside0.mk hm
      clear hR2 hB2 m0 m1 hK2 k1 k2 k5 hV h hm hnm
      go_wp2_with fail
      go_quiet (fail)
      have HW2d := Aside0.mk (HW2.out.below (pw_below_drewN (Below.refl _ _) nq))
      go_wp2_with fail
      refine (record_calls 2 (Kd.C_below (Kd.R_reads' HR2.out).2.2 (pw_below_drewN (Below.refl _ _) _)) hx2 (by omega)).mono ?_
      rintro e w3 ⟨v3, rfl, hR3, hB3⟩
      have HW3 := Aside0.mk (HW2d.out.below hB3)
      have HB3 := Aside0.mk (below_step (pw_below_drewN HB2.out nq) hB3)
      have HK3 := Aside0.mk ((hB3.block W.heap.size (blk_lt (w := w2) HK2.out)).trans HK2.out)
      obtain ⟨Y, hY⟩ : ∃ Y, frameB (2 :: X) = Y := ⟨_, rfl⟩
      have hyl : Y.length ≤ 2000000000 := by rw [← hY, frameB_len, List.length_cons]; omega
      rw [hY] at hR3 HFR
      obtain ⟨A3, c3, rfl⟩ := Kd.R_slice hR3
      have HFN := Aside0.mk (F_new (w2 := w2) HW2d.out (Nat.le_refl _) hR3)
      have hy2 := (Kd.R_reads' hR3).2.1
      obtain ⟨P, hP⟩ : ∃ P, lgPut D M Y = P := ⟨_, rfl⟩
      have HST := Aside0.mk (show P.2.2.st = M.st by rw [← hP]; exact put_st D M Y)
      have HPC := Aside0.mk (put_calls HW3.out HM.out hN hn HHR.out HFN.out hy2 hyl)
      rw [hP] at HPC HFR
      rw [← HFR.out] at HR0
      clear hR3 hB3 hx2 hY hP n0 n1 k3 k4 hq
      go_wp2_with fail
      refine HPC.out.mono ?_
      rintro e w4 ⟨rfl, S4, Q4, hw4, hB4, hq4⟩
      have HW4 := Aside0.mk hw4
      have HB4 := Aside0.mk ((Bys.of_below (S := S) (L := L) HB3.out).trans hB4)
      have HQ4 := Aside0.mk (show ∀ k, k < W.heap.size → Q4 k → Q k from fun k hk h4 => hq4 k (Nat.lt_of_lt_of_le hk HB3.out.size) h4)
      have HK4 := Aside0.mk (hB4.keep _ _ (By.new (S := S) (L := L) (b := W.heap.size) (fun k hk => (HSK.out k hk)) HLT.out (Nat.le_refl _) HK3.out))
      have n0 : w4.cell? ⟨W.heap.size, 0, none⟩ = some (.int .i64 t) := blk_cell HK4.out.at_ 0
      have n1 : w4.cell? ⟨W.heap.size, 1, none⟩ = some (.int .i64 u) := blk_cell HK4.out.at_ 1
      obtain ⟨A5, c5, hb5, _⟩ := hw4.cells
      have p3 : w4.cell? ⟨L, 3, none⟩ = some (.int .i64 P.2.2.st.ht) := blk_cell hb5 3
      have p4 : w4.cell? ⟨L, 4, none⟩ = some (.int .i64 P.2.2.st.hv) := blk_cell hb5 4
      have pf3 := blk_frozen hb5 3
      have pf4 := blk_frozen hb5 4
      obtain ⟨p, hp⟩ : ∃ p, P.1 = p := ⟨_, rfl⟩
      have HPP := Aside0.mk hp
      rw [hp] at HR0 ⊢
      clear hw4 hB4 hq4 hb5 hp
      by_cases hp0 : p = 0
      · have t1 : (p == 0) = true := by rw [hp0]; rfl
        have t2 : (p != 0) = false := by simp [bne, t1]
        have HRR := Aside0.mk (show R = (0, P.2.1, { P.2.2 with st := { M.st with ht := t, hv := u } }) by rw [← HR0.out, if_pos hp0])
        clear hp0
        go_wp2_with fail
        go_ret
        obtain ⟨S5, hw5, hB5⟩ := HW4.out.setH t u
        rw [HRR.out]
        rw [HST.out] at hw5
        exact ⟨rfl, S5, Q4, hw5, HB4.out.trans hB5, HQ4.out⟩
      · have t1 : (p == 0) = false := beq_eq_false_iff_ne.mpr hp0
        have t2 : (p != 0) = true := by simp [bne, t1]
        have HRR := Aside0.mk (show R = P by rw [← HR0.out, if_neg hp0])
        clear hp0
        go_wp2_with fail
        go_ret
        rw [HRR.out]
        exact ⟨by rw [HPP.out]; rfl, S4, Q4, HW4.out, HB4.out, HQ4.out⟩
  · have hne : e = 2 := by rw [← he] at he0 ⊢; unfold hardErr at *; split at he0 <;> simp_all
    subst hne
    have HP := Aside0.mk (wire_PutHard.calls 20 t u [] 2 w1 (by rw [PutHard_f (by omega), if_neg (by omega)]))
    have HR0 := Aside0.mk (show R = (2, D, M) by rw [← hR0, if_pos (by decide)])
    clear hR hR0 he he0 hb1 hbk h hm
    go_enter Try.func53, Try.ntmps53
    go_upto_region 1 with (fail)
    rw [← hw1]
    clear hw1
    go_wp2_with fail
    refine HP.out.mono ?_
    rintro e w2 ⟨v2, rfl, hR2, hB2⟩
    have HW2 := Aside0.mk (HW1.out.below hB2)
    have HB2 := Aside0.mk (below_step HB1.out hB2)
    clear hR2 hB2 m0 m1
    go_wp2_with fail
    go_quiet (fail)
    go_wp2_with fail
    go_ret
    rw [HR0.out]
    exact ⟨rfl, S, Q, (HW2.out.below (pw_below_drewN (Below.refl _ _) _)).mono (by omega), Bys.of_below (pw_below_drewN HB2.out _), fun _ _ h => h⟩
end Go.Proofs.Ytmmiipnmimjojaa.PS
end
section
namespace Go.Proofs.Ytmmiipnmimjojaa.PS
open Go.RowKit Go.Proofs.YtmmiipnmimjojaaW.PrintWords Go.Proofs.YtmmiipnmimjojaaW.PrintLast Go.Proofs.YtmmiipnmimjojaaW.PrintMore
open Go.Maps Go.Proofs.Ytmmiipnmimjojaa.PD
set_option linter.unusedVariables false
set_option linter.unusedSimpArgs false
theorem term_in {s : WS} {i t : Int} (h : s.term i = some t) : s.bi ≤ i ∧ i ≤ s.last := by
  unfold WS.term at h
  by_cases h1 : i < s.bi ∨ s.last < i
  · rw [if_pos h1] at h; cases h
  · omega
theorem term_ok {s : WS} {i t : Int} (hs : WOk s) (h : s.term i = some t) : 0 ≤ t ∧ t ≤ 1099511627776 := by
  have hin := term_in h
  unfold WS.term at h
  rw [if_neg (by omega)] at h
  by_cases h2 : i = s.bi
  · rw [if_pos h2] at h; cases h; exact hs.mark.2
  · rw [if_neg h2] at h
    obtain ⟨x, hx, rfl⟩ := Option.map_eq_some_iff.1 h
    have := (ent_bad (hs.ent x (List.mem_of_getElem? hx))).1
    unfold entBad at this
    omega
theorem wok_drop {s : WS} {i t : Int} (hs : WOk s) (h : s.term i = some t) (hl : s.last ≤ 1099511627776) : WOk ⟨i, t, s.ht, s.hv, s.es.drop (i - s.bi).toNat⟩ := by
  have hin := term_in h
  have hto := term_ok hs h
  have h0 := hs.mark.1
  refine ⟨⟨⟨by dsimp only; omega, by dsimp only; omega⟩, hto⟩, hs.hard, fun x hx => hs.ent x (List.mem_of_mem_drop hx), fun j x hx => ?_⟩
  dsimp only at hx ⊢
  rw [List.getElem?_drop] at hx
  have := hs.row _ x hx
  omega
/-- The last index is on the wire's reach. -/
theorem last_le {s : WS} (hs : WOk s) : s.last ≤ 1099511627776 := by
  unfold WS.last
  cases he : s.es.reverse with
  | nil =>
    have : s.es = [] := by simpa using he
    rw [this]
    have := hs.mark.1
    simp; omega
  | cons x l =>
    have hes : s.es = l.reverse ++ [x] := by rw [← List.reverse_reverse s.es, he, List.reverse_cons]
    have hx : s.es[l.length]? = some x := by rw [hes, List.getElem?_append_right (by simp)]; simp
    have h1 := hs.row _ x hx
    have h2 := (ent_bad (hs.ent x (List.mem_of_getElem? hx))).1
    unfold entBad at h2
    have h3 : s.es.length = l.length + 1 := by rw [hes]; simp
    omega
/-- With cloned entries the log has blocks more. -/
theorem compact_mid {W0 W w2 : World} {S Q : Nat → Prop} {g N L : Nat} {D : Dsk} {M : LM} {v : Value} {l : List S48} (h : Wl W0 W S Q g N L D M) (hN : Kd.N k48 48 w2 W.heap.size (Pn W (fun k => Q k ∧ k ≠ L)) v l) (hb : Below W.heap.size W w2) :
    Wl W0 w2 S (fun k => Q k ∨ (W.heap.size ≤ k ∧ k < w2.heap.size)) g N L D M ∧ Kd.V k48 48 w2 0 (fun k => (Q k ∨ (W.heap.size ≤ k ∧ k < w2.heap.size)) ∧ k ≠ L) v l := by
  have hL := h.lt
  refine ⟨(h.below hb).more (fun k hk => .inl hk) (fun k hk => ?_), ?_⟩
  · rcases hk with hk | ⟨h1, h2⟩
    · exact (h.below hb).q k hk
    · have hs := h.dk.1.size
      exact ⟨by omega, h2, fun hS => by have := (h.dk.2.1 k hS).2; omega⟩
  · obtain ⟨A, c, rfl⟩ := Kd.N_slice hN
    refine ⟨A, c, rfl, (Kd.N_reads' hN).2.1, Kd.F_mono (Kd.F_bound (Kd.N_F hN)) (fun k hk => ?_)⟩
    rcases hk.1 with ⟨hq, _⟩ | hk1
    · exact ⟨.inl hq.1, hq.2⟩
    · exact ⟨.inr ⟨hk1, hk.2⟩, by omega⟩
set_option maxHeartbeats 8000000 in
set_option maxRecDepth 100000 in
theorem compact_calls {W0 W : World} {S Q : Nat → Prop} {g N L : Nat} {D : Dsk} {M : LM} {i : Int} (h : Wl W0 W S Q g N L D M) (hm : MOk M) (hN : N ≤ 800000) (hnm : namedB (nameB (M.n + 1)) = true) (hi : -9223372036854775808 ≤ i ∧ i ≤ 9223372036854775807) :
    Calls Try.prog 51 #[.pointer (some ⟨L, 0, none⟩), .int .i64 i] W (ErrP W0 W S Q g (N + 1) L (lgCompact D M i)) := by
  obtain ⟨R, hR⟩ : ∃ R, lgCompact D M i = R := ⟨_, rfl⟩
  have hR0 := hR
  unfold lgCompact at hR0
  rw [hR]
  have HTC := Aside0.mk (term_calls h hm hi)
  cases htm : M.st.term i with
  | none =>
    rw [htm] at hR0 HTC
    have HR0 := Aside0.mk (show R = (2, D, M) from hR0.symm)
    have HW := Aside0.mk h
    clear hR hR0 h hm hnm htm
    go_enter Try.func51, Try.ntmps51
    go_wp2_with fail
    refine HTC.out.mono ?_
    rintro e w1 ⟨rfl, hb1⟩
    have HB1 := Aside0.mk hb1
    clear hb1
    go_wp2_with fail
    go_ret
    rw [HR0.out]
    exact ⟨rfl, S, Q, (HW.out.below HB1.out).mono (by omega), Bys.of_below HB1.out, fun _ _ h => h⟩
  | some tm =>
    rw [htm] at hR0 HTC
    have hin := term_in htm
    have hto := term_ok hm.st htm
    have hwd := wok_drop hm.st htm (last_le hm.st)
    have hlast : M.st.last = M.st.bi + M.st.es.length := rfl
    dsimp only at hR0
    by_cases hib : i = M.st.bi
    · have c1 : (i == M.st.bi) = true := by rw [hib]; exact beq_self_eq_true _
      rw [if_pos hib] at hR0
      have HR0 := Aside0.mk hR0
      have HW := Aside0.mk h
      clear hR hR0 h hm hnm htm hib hwd hlast hin
      go_enter Try.func51, Try.ntmps51
      go_wp2_with fail
      refine HTC.out.mono ?_
      rintro e w1 ⟨rfl, hb1⟩
      have HB1 := Aside0.mk hb1
      obtain ⟨A1, c1', ⟨k1, k2, k3, k4, k5⟩, hV⟩ := (HW.out.below hb1).cell1
      clear hb1 hV k2 k3 k4 k5
      go_wp2_with fail
      go_ret
      rw [← HR0.out]
      exact ⟨rfl, S, Q, (HW.out.below HB1.out).mono (by omega), Bys.of_below HB1.out, fun _ _ h => h⟩
    · have c1 : (i == M.st.bi) = false := beq_eq_false_iff_ne.mpr hib
      rw [if_neg hib] at hR0
      have HR0 := Aside0.mk hR0
      have HW := Aside0.mk h
      have HM := Aside0.mk hm
      have HNM := Aside0.mk hnm
      have HWD := Aside0.mk hwd
      have hfew := hm.few
      obtain ⟨k, hk⟩ : ∃ k : Nat, i - M.st.bi = k := ⟨(i - M.st.bi).toNat, by omega⟩
      have hkl : k ≤ M.st.es.length := by omega
      have hbi := hm.st.mark.1
      have hwa : IntKind.i64.wrap (i - M.st.bi) = (k : Int) := by rw [hk]; exact IntWalk.i64_in _ ⟨by omega, by omega⟩
      have hkt : (i - M.st.bi).toNat = k := by omega
      rw [hkt] at HWD HR0
      clear hR hR0 h hm hnm htm hib hwd hlast hin hk hkt
      go_enter Try.func51, Try.ntmps51
      go_wp2_with fail
      refine HTC.out.mono ?_
      rintro e w1 ⟨rfl, hb1⟩
      have HB1 := Aside0.mk hb1
      have HW1 := Aside0.mk (HW.out.below hb1)
      obtain ⟨A1, ca, ⟨k1, k2, k3, k4, k5⟩, hV⟩ := (HW.out.below hb1).cell1
      have hVF := Kd.V_F hV
      have hca : M.st.es.length ≤ ca := by obtain ⟨_, _, e, h, _⟩ := hV; injection e with _ _ e; omega
      have hcut := Kd.F_cut (m := k) hVF hkl hca
      obtain ⟨DL, hDL⟩ : ∃ DL, M.st.es.drop k = DL := ⟨_, rfl⟩
      rw [hDL] at hcut HWD HR0
      have hdl : DL.length = M.st.es.length - k := by rw [← hDL, List.length_drop]
      have HDL := Aside0.mk hdl
      have hdf : DL.length ≤ 500000 := by omega
      have HDF := Aside0.mk hdf
      rw [hdl] at hcut
      have HCUT := Aside0.mk (Kd.F_below hcut (below_drew1 (Below.refl _ _)))
      have HKB := Aside0.mk (show M.st.es.length - k ≤ 1000000000 by omega)
      have HW1d := Aside0.mk (HW1.out.below (below_drew1 (Below.refl _ _)))
      have HB1d := Aside0.mk (below_step HB1.out (below_drew1 (Below.refl _ _)))
      have HNB := Aside0.mk (show N ≤ 900000 by omega)
      have H34 := Aside0.mk (show ∀ w, Below w1.heap.size w1.drew w → w.cell? ⟨L, 3, none⟩ = some (.int .i64 M.st.ht) ∧ w.cell? ⟨L, 4, none⟩ = some (.int .i64 M.st.hv) from fun w hw => ⟨(hw.cell (HW1.out.lt)).trans k3, (hw.cell (HW1.out.lt)).trans k4⟩)
      clear hb1 hV k2 hcut hdl hdf hDL hVF
      go_wp2_with fail
      go_region_law (first
        | (go_simp; go_at_call 92; refine (cloneK (P := fun k => Q k ∧ k ≠ L) (if ca = k then A1 else Option.map (fun x => x.add (k * 4)) A1) (ca - k) DL (M.st.es.length - k) _ HDL.out HCUT.out HKB.out).mono ?_; rintro e2 w2 ⟨v2, rfl, hN2, hb2⟩; have hc2 := compact_mid HW1d.out hN2 hb2; obtain ⟨A2, c2, rfl⟩ := Kd.N_slice hN2; obtain ⟨z3, z4⟩ := H34.out _ hb2; have HC2 := Aside0.mk hc2; have HB2 := Aside0.mk (below_step HB1d.out hb2); have HAN := Aside0.mk (anew_calls (s := ⟨i, tm, M.st.ht, M.st.hv, DL⟩) hc2.1 HNB.out HWD.out HDF.out hc2.2 HM.out HNM.out); clear hN2 hb2 hc2)
        | (go_simp; go_at_call 67; refine HAN.out.mono ?_; rintro e5 w5 ⟨rfl, hnl⟩; have HNL := Aside0.mk hnl; clear hnl)
        | fail)
      all_goals
        go_wp2_with fail
      all_goals
        go_ret
        rw [← HR0.out]
        obtain ⟨S5, Q5, hw5, hB5, hq5⟩ := HNL.out
        exact ⟨rfl, S5, Q5, hw5, (Bys.of_below HB2.out).trans hB5, fun j hj h5 => (hq5 j (Nat.lt_of_lt_of_le hj HB2.out.size) h5).elim id (fun hh => by have h1 := HB1d.out.size; have h2 := hh.1; exact absurd hj (Nat.not_lt.2 (Nat.le_trans h1 h2)))⟩
end Go.Proofs.Ytmmiipnmimjojaa.PS
end
section
namespace Go.Proofs.Ytmmiipnmimjojaa.PS
open Go.RowKit Go.Proofs.YtmmiipnmimjojaaW.PrintWords Go.Proofs.YtmmiipnmimjojaaW.PrintLast Go.Proofs.YtmmiipnmimjojaaW.PrintMore
open Go.Maps Go.Proofs.Ytmmiipnmimjojaa.PD
set_option linter.unusedVariables false
set_option linter.unusedSimpArgs false
theorem entsErr_at {x : S48} {e : Int} : ∀ {es : List S48} {i : Nat}, (∀ y ∈ es.take i, entErr y.f0 y.f1 y.f2 y.f3 = 0) → es[i]? = some x → entErr x.f0 x.f1 x.f2 x.f3 = e → e ≠ 0 → entsErr es = e
  | [], i, _, h, _, _ => by simp at h
  | y :: es, 0, _, h, he, hn => by
    simp at h
    subst h
    rw [entsErr, if_neg (by rw [he]; exact hn), he]
  | y :: es, i + 1, ht, h, he, hn => by
    rw [entsErr, if_pos (ht y (by simp))]
    exact entsErr_at (es := es) (i := i) (fun z hz => ht z (by simp [hz])) (by simpa using h) he hn
theorem entsErr_all : ∀ {es : List S48}, (∀ y ∈ es, entErr y.f0 y.f1 y.f2 y.f3 = 0) → entsErr es = 0
  | [], _ => rfl
  | y :: es, h => by rw [entsErr, if_pos (h y (.head _))]; exact entsErr_all (fun z hz => h z (.tail _ hz))
theorem entsErr_zero : ∀ {es : List S48}, entsErr es = 0 → ∀ y ∈ es, entErr y.f0 y.f1 y.f2 y.f3 = 0
  | [], _, y, hy => by cases hy
  | x :: es, h, y, hy => by
    rw [entsErr] at h
    by_cases hx : entErr x.f0 x.f1 x.f2 x.f3 = 0
    · rw [if_pos hx] at h
      rcases List.mem_cons.1 hy with rfl | hy
      · exact hx
      · exact entsErr_zero h y hy
    · rw [if_neg hx] at h; exact absurd h hx
/-- Does entry i go on behind the one ahead of it? -/
def chkAt (s : WS) (es : List S48) (i : Nat) : Prop := if i = 0 then s.bi < (rd_T48 es 0).f2 ∧ (rd_T48 es 0).f2 ≤ s.last + 1 else (rd_T48 es i).f2 = (rd_T48 es ((i : Int) - 1)).f2 + 1
theorem rd48_succ (x : S48) (es : List S48) (n : Nat) : rd_T48 (x :: es) ((n : Int) + 1) = rd_T48 es n := by
  unfold rd_T48
  rw [show ((n : Int) + 1).toNat = n + 1 by omega, Int.toNat_natCast, List.getD_cons_succ]
theorem rowOk_of : ∀ {x : S48} {es : List S48}, (∀ i : Nat, i < es.length → (rd_T48 (x :: es) ((i : Int) + 1)).f2 = (rd_T48 (x :: es) i).f2 + 1) → rowOk x es
  | _, [], _ => trivial
  | x, y :: es, h => by
    refine ⟨?_, rowOk_of (fun i hi => ?_)⟩
    · have := h 0 (by simp)
      simpa [rd_T48] using this
    · have := h (i + 1) (by simp; omega)
      rw [rd48_succ, show ((i + 1 : Nat) : Int) = (i : Int) + 1 by omega, rd48_succ] at this
      exact this
theorem rowOk_at : ∀ {x : S48} {es : List S48}, rowOk x es → ∀ i : Nat, i < es.length → (rd_T48 (x :: es) ((i : Int) + 1)).f2 = (rd_T48 (x :: es) i).f2 + 1
  | _, [], _, i, hi => by simp at hi
  | x, y :: es, h, 0, _ => by simpa [rd_T48] using h.1
  | x, y :: es, h, i + 1, hi => by
    have := rowOk_at h.2 i (by simp at hi; omega)
    rw [rd48_succ, show ((i + 1 : Nat) : Int) = (i : Int) + 1 by omega, rd48_succ]
    exact this
theorem fits_of {s : WS} {es : List S48} (h : ∀ i, i < es.length → chkAt s es i) : fitsOk s es := by
  cases es with
  | nil => trivial
  | cons x es =>
    refine ⟨?_, rowOk_of (fun i hi => ?_)⟩
    · have := h 0 (by simp)
      unfold chkAt at this
      rw [if_pos rfl] at this
      simpa [rd_T48] using this
    · have := h (i + 1) (by simp; omega)
      unfold chkAt at this
      rw [if_neg (by omega)] at this
      rw [show ((i + 1 : Nat) : Int) - 1 = i by omega, show ((i + 1 : Nat) : Int) = (i : Int) + 1 by omega] at this
      exact this
theorem fits_at {s : WS} {es : List S48} (h : fitsOk s es) {i : Nat} (hi : i < es.length) : chkAt s es i := by
  cases es with
  | nil => simp at hi
  | cons x es =>
    unfold chkAt
    cases i with
    | zero => rw [if_pos rfl]; simpa [rd_T48] using h.1
    | succ i =>
      rw [if_neg (by omega), show ((i + 1 : Nat) : Int) - 1 = i by omega, show ((i + 1 : Nat) : Int) = (i : Int) + 1 by omega]
      exact rowOk_at h.2 i (by simp at hi; omega)
theorem adds_snoc (s : WS) (a : List S48) (x : S48) : s.adds (a ++ [x]) = (s.adds a).add x := by unfold WS.adds; rw [List.foldl_append]; rfl
theorem adds_bi (s : WS) : ∀ es : List S48, (s.adds es).bi = s.bi ∧ (s.adds es).bt = s.bt ∧ (s.adds es).ht = s.ht ∧ (s.adds es).hv = s.hv := by
  intro es
  induction es generalizing s with
  | nil => exact ⟨rfl, rfl, rfl, rfl⟩
  | cons x es ih => exact ih (s.add x)
theorem add_len {s : WS} {x : S48} (h : s.fit x) : ((s.add x).es.length : Int) = x.f2 - s.bi := by
  unfold WS.fit at h
  unfold WS.add
  rw [List.length_append, List.length_take, List.length_singleton]
  omega
/-- What is added fits, one by one. -/
theorem adds_fit {s : WS} {es : List S48} (h : fitsOk s es) : ∀ i : Nat, i < es.length → (s.adds (es.take i)).fit (rd_T48 es i) ∧ (0 < i → ((s.adds (es.take i)).es.length : Int) = (rd_T48 es ((i : Int) - 1)).f2 - s.bi)
  | 0, hi => by
    have := fits_at h hi
    unfold chkAt at this
    rw [if_pos rfl] at this
    unfold WS.last at this
    refine ⟨?_, fun h => absurd h (by omega)⟩
    unfold WS.fit
    show 0 ≤ (rd_T48 es 0).f2 - s.bi - 1 ∧ (rd_T48 es 0).f2 - s.bi - 1 ≤ s.es.length
    omega
  | i + 1, hi => by
    have ih := adds_fit h i (by omega)
    have hc := fits_at h hi
    unfold chkAt at hc
    rw [if_neg (by omega)] at hc
    have htk : es.take (i + 1) = es.take i ++ [rd_T48 es i] := by
      rw [List.take_add_one, show es[i]? = some (rd_T48 es i) from rd48_at (i := (i : Int)) (by omega) (by omega)]; rfl
    have hl := add_len ih.1
    rw [(adds_bi s _).1] at hl
    have e1 : ((i + 1 : Nat) : Int) - 1 = i := by omega
    rw [e1] at hc ⊢
    rw [htk, adds_snoc]
    refine ⟨?_, fun _ => hl⟩
    unfold WS.fit
    have hb : ((s.adds (es.take i)).add (rd_T48 es i)).bi = s.bi := (adds_bi s _).1
    rw [hb, hl]
    have h0 := ih.1
    unfold WS.fit at h0
    rw [(adds_bi s _).1] at h0
    omega
theorem adds_ok {s : WS} {es : List S48} (hs : WOk s) (h : fitsOk s es) (he : ∀ x ∈ es, EOk x) : ∀ i : Nat, i ≤ es.length → WOk (s.adds (es.take i)) ∧ (s.adds (es.take i)).es.length ≤ s.es.length + i
  | 0, _ => ⟨by simpa [WS.adds] using hs, by simp [WS.adds]⟩
  | i + 1, hi => by
    have ih := adds_ok hs h he i (by omega)
    have hf := (adds_fit h i (by omega)).1
    have hx : es[i]? = some (rd_T48 es i) := rd48_at (i := (i : Int)) (by omega) (by omega)
    have htk : es.take (i + 1) = es.take i ++ [rd_T48 es i] := by rw [List.take_add_one, hx]; rfl
    rw [htk, adds_snoc]
    refine ⟨ih.1.add hf (he _ (List.mem_of_getElem? hx)), ?_⟩
    unfold WS.add
    rw [List.length_append, List.length_take, List.length_singleton]
    omega
end Go.Proofs.Ytmmiipnmimjojaa.PS
end
