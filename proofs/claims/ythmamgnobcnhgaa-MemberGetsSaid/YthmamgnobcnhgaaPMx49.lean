-- written by wip/mkprint.py of this work
import Derived.Test.YthmamgnobcnhgaaPMx0
import Derived.Test.YthmamgnobcnhgaaPMx13
import Derived.Test.YthmamgnobcnhgaaPMx48
namespace Go.Proofs.Ythmamgnobcnhgaa.PM
open Go.RowKit Go.Proofs.YthmamgnobcnhgaaW.PrintWords Go.Proofs.YthmamgnobcnhgaaW.PrintLast Go.Proofs.YthmamgnobcnhgaaW.PrintMore
attribute [local go_sem] max2_int min2_int max_two min_two max_three min_three max_four min_four   -- for this text's walks alone
set_option linter.unusedVariables false
set_option linter.unusedSimpArgs false

/-! ### tollgateref03_Get: function 43 -/
mutual
def tollgateref03_Get.l0 : Nat → List Int → Int → Int → List Int → List Int → Option (List Int × List Int × Int)
  | 0, _, _, _, _, _ => none
  | k + 1, x0, x5, x6, x541000, x541001 => if x6 < 2 then ((tollgateref02_TakeNumber.f k x0 x5).bind fun bt542 => (if bt542.2.2 = 0 then (if bt542.1 > 9 then (some (([] : List Int), ([] : List Int), 4)) else (tollgateref03_Get.l1 k x0 bt542.2.1 x6 bt542.1 0 x541000 x541001)) else (some (([] : List Int), ([] : List Int), bt542.2.2)))) else (if x5 = (x0.length : Int) then ((tollgateref03_Right.f k x541000 x541001).bind fun t541 => (if t541 = true then (some (x541000, x541001, 0)) else (some (([] : List Int), ([] : List Int), 4)))) else (some (([] : List Int), ([] : List Int), 4)))
def tollgateref03_Get.l1 : Nat → List Int → Int → Int → Int → Int → List Int → List Int → Option (List Int × List Int × Int)
  | 0, _, _, _, _, _, _, _ => none
  | k + 1, x0, x5, x6, x7, x10, x541000, x541001 => if x10 < x7 then ((tollgateref02_TakeNumber.f k x0 x5).bind fun bt545 => (if bt545.2.2 = 0 then (if x6 = 0 then (if x541000.length < 17592186044416 then (tollgateref03_Get.l1 k x0 bt545.2.1 x6 x7 (wrap64 (x10 + 1)) (x541000 ++ [bt545.1]) x541001) else (none)) else (if x541001.length < 17592186044416 then (tollgateref03_Get.l1 k x0 bt545.2.1 x6 x7 (wrap64 (x10 + 1)) x541000 (x541001 ++ [bt545.1])) else (none))) else (some (([] : List Int), ([] : List Int), bt545.2.2)))) else (tollgateref03_Get.l0 k x0 x5 (wrap64 (x6 + 1)) x541000 x541001)
end
def tollgateref03_Get.f (k : Nat) (l0 : List Int) : Option (List Int × List Int × Int) := tollgateref03_Get.l0 k l0 0 0 ([] : List Int) ([] : List Int)
theorem tollgateref03_Get.mono_l : ∀ k, (∀ y0 y1 y2 y3 y4, LeO (tollgateref03_Get.l0 k y0 y1 y2 y3 y4) (tollgateref03_Get.l0 (k + 1) y0 y1 y2 y3 y4)) ∧ (∀ y0 y1 y2 y3 y4 y5 y6, LeO (tollgateref03_Get.l1 k y0 y1 y2 y3 y4 y5 y6) (tollgateref03_Get.l1 (k + 1) y0 y1 y2 y3 y4 y5 y6))
  | 0 => ⟨fun _ _ _ _ _ r h => by simp [tollgateref03_Get.l0] at h, fun _ _ _ _ _ _ _ r h => by simp [tollgateref03_Get.l1] at h⟩
  | k + 1 => by
    obtain ⟨ih0, ih1⟩ := tollgateref03_Get.mono_l k
    refine ⟨?_, ?_⟩
    · intro y0 y1 y2 y3 y4
      unfold tollgateref03_Get.l0
      repeat' first
      | (with_reducible exact ih0 _ _ _ _ _)
      | (with_reducible exact ih1 _ _ _ _ _ _ _)
      | (with_reducible exact tollgateref02_TakeNumber.mono _ _ _)
      | (with_reducible exact tollgateref03_Right.mono _ _ _)
      | (with_reducible exact LeO.refl _)
      | (with_reducible exact LeO.none _)
      | (with_reducible refine LeO.ite ?_ ?_)
      | (with_reducible refine LeO.bind ?_ (fun _ => ?_))
      | exact ih0 _ _ _ _ _
      | exact ih1 _ _ _ _ _ _ _
      | exact tollgateref02_TakeNumber.mono _ _ _
      | exact tollgateref03_Right.mono _ _ _
      | exact LeO.none _
      | refine LeO.ite ?_ ?_
      | refine LeO.bind ?_ (fun _ => ?_)
    · intro y0 y1 y2 y3 y4 y5 y6
      unfold tollgateref03_Get.l1
      repeat' first
      | (with_reducible exact ih0 _ _ _ _ _)
      | (with_reducible exact ih1 _ _ _ _ _ _ _)
      | (with_reducible exact tollgateref02_TakeNumber.mono _ _ _)
      | (with_reducible exact tollgateref03_Right.mono _ _ _)
      | (with_reducible exact LeO.refl _)
      | (with_reducible exact LeO.none _)
      | (with_reducible refine LeO.ite ?_ ?_)
      | (with_reducible refine LeO.bind ?_ (fun _ => ?_))
      | exact ih0 _ _ _ _ _
      | exact ih1 _ _ _ _ _ _ _
      | exact tollgateref02_TakeNumber.mono _ _ _
      | exact tollgateref03_Right.mono _ _ _
      | exact LeO.none _
      | refine LeO.ite ?_ ?_
      | refine LeO.bind ?_ (fun _ => ?_)
theorem tollgateref03_Get.mono : ∀ a0 k, LeO (tollgateref03_Get.f k a0) (tollgateref03_Get.f (k + 1) a0) := by
  intro a0 k
  obtain ⟨ih0, ih1⟩ := tollgateref03_Get.mono_l k
  unfold tollgateref03_Get.f
  repeat' first
      | (with_reducible exact ih0 _ _ _ _ _)
      | (with_reducible exact ih1 _ _ _ _ _ _ _)
      | (with_reducible exact tollgateref02_TakeNumber.mono _ _ _)
      | (with_reducible exact tollgateref03_Right.mono _ _ _)
      | (with_reducible exact LeO.refl _)
      | (with_reducible exact LeO.none _)
      | (with_reducible refine LeO.ite ?_ ?_)
      | (with_reducible refine LeO.bind ?_ (fun _ => ?_))
      | exact ih0 _ _ _ _ _
      | exact ih1 _ _ _ _ _ _ _
      | exact tollgateref02_TakeNumber.mono _ _ _
      | exact tollgateref03_Right.mono _ _ _
      | exact LeO.none _
      | refine LeO.ite ?_ ?_
      | refine LeO.bind ?_ (fun _ => ?_)
set_option maxHeartbeats 8000000 in
set_option maxRecDepth 100000 in
theorem tollgateref03_Get.calls (k : Nat) (A0 : Option Addr) (c0 : Nat) (l0 : List Int) (r1 : List Int) (r2 : List Int) (r3 : Int) (w : World) (hr0 : Kd.C (Kd.int .u8) w A0 l0.length l0) (hc0 : l0.length ≤ c0) (h : tollgateref03_Get.f k l0 = some (r1, r2, r3)) :
    Calls Try.prog 43 #[.slice A0 l0.length c0] w fun e w' => ∃ v0_ v1_ : Value, e = .returned (.tuple #[.agg #[v0_, v1_], .int .i64 r3]) ∧ Kd.R (Kd.int .i64) 3 w' w.heap.size (fun k_ => some k_ ≠ (v1_ : Value).ownBlock) v0_ r1 ∧ Kd.R (Kd.int .i64) 3 w' w.heap.size (fun k_ => some k_ ≠ (v0_ : Value).ownBlock) v1_ r2 ∧ Below w.heap.size w w' := by
  have hu24 := Try.underlying24
  have HR0 := Aside0.mk hr0
  have HC0 := Aside0.mk hc0
  clear hr0 hc0
  have HB := Aside0.mk (Below.refl w.heap.size w)
  have H : (tollgateref03_Get.l0 k l0 0 0 ([] : List Int) ([] : List Int)) = some (r1, r2, r3) := h
  clear h
  have H' := Aside0.mk H
  clear H
  go_enter Try.func43, Try.ntmps43
  go_wp2_with (first | ((with_reducible refine gate_dst (N := 2) rfl ?_); refine box_event ?hg (N := 2) ?hd (cs := #[.slice none 0 0, .slice none 0 0]) (t := 24) ?hr ?_; (case hd => rfl); (case hg => rfl); (case hr => first | (go_simp; done) | (go_simp; rfl)); intro gb539 hg w2 hbox hb; have n0_ := Aside0.mk (below_step (by repeat (first | (with_reducible first | exact HB.out | apply below_alloc | apply pw_below_drewN | apply below_drew1) | exact HB.out)) hb); have n1_ := Aside0.mk (hbox); have n2_ := Aside0.mk ((by rw [hg]; exact (below_size (by repeat (first | (with_reducible first | exact HB.out | apply below_alloc | apply pw_below_drewN | apply below_drew1) | exact HB.out))) : w.heap.size ≤ gb539)); have n3_ := Aside0.mk ((by rw [hg]; exact (below_size (by repeat (first | (with_reducible first | exact HB.out | apply below_alloc | apply pw_below_drewN | apply below_drew1) | exact HB.out))) : w.heap.size ≤ gb539)); clear HB; have HB := n0_; have BK539 := n1_; have GW539 := n2_; have GE539 := n3_; clear n0_ n1_ n2_ n3_; clear hb hbox hg) | ((with_reducible refine gate_dst (N := 4) rfl ?_); refine box_event ?hg (N := 4) ?hd (cs := #[.slice none 0 0, .slice none 0 0]) (t := 24) ?hr ?_; (case hd => rfl); (case hg => rfl); (case hr => first | (go_simp; done) | (go_simp; rfl)); intro gb540 hg w3 hbox hb; have n0_ := Aside0.mk (blk_below (g := gb539) (o := .cells #[.slice none 0 0, .slice none 0 0] 24 (0, 0)) (by (with_reducible repeat (first | refine blk_drewN ?_ _ | refine blk_drew ?_ | refine blk_alloc ?_ _)); exact BK539.out) hb); have n1_ := Aside0.mk (below_step (by repeat (first | (with_reducible first | exact HB.out | apply below_alloc | apply pw_below_drewN | apply below_drew1 | refine below_set ?_ GE539.out) | exact HB.out)) hb); have n2_ := Aside0.mk (hbox); have n3_ := Aside0.mk ((by rw [hg]; exact (below_size (by repeat (first | (with_reducible first | exact HB.out | apply below_alloc | apply pw_below_drewN | apply below_drew1 | refine below_set ?_ GE539.out) | exact HB.out))) : w.heap.size ≤ gb540)); have n4_ := Aside0.mk ((by rw [hg]; exact (below_size (by repeat (first | (with_reducible first | exact HB.out | apply below_alloc | apply pw_below_drewN | apply below_drew1 | refine below_set ?_ GE539.out) | exact HB.out))) : w.heap.size ≤ gb540)); have n5_ := Aside0.mk ((by rw [hg]; exact Nat.ne_of_lt (blk_lt (g := gb539) (o := .cells #[.slice none 0 0, .slice none 0 0] 24 (0, 0)) (by (with_reducible repeat (first | refine blk_drewN ?_ _ | refine blk_drew ?_ | refine blk_alloc ?_ _)); exact BK539.out)) : gb539 ≠ gb540)); have n6_ := Aside0.mk ((by rw [hg]; exact Nat.ne_of_gt (blk_lt (g := gb539) (o := .cells #[.slice none 0 0, .slice none 0 0] 24 (0, 0)) (by (with_reducible repeat (first | refine blk_drewN ?_ _ | refine blk_drew ?_ | refine blk_alloc ?_ _)); exact BK539.out)) : gb540 ≠ gb539)); clear BK539; clear HB; have BK539 := n0_; have HB := n1_; have BK540 := n2_; have GW540 := n3_; have GE540 := n4_; have NB539_540 := n5_; have NB540_539 := n6_; clear n0_ n1_ n2_ n3_ n4_ n5_ n6_; clear hb hbox hg; have hnb4 := NB540_539.out; have hnc4 := NB539_540.out; have hcz5_0 : w3.cell? ⟨gb540, 0, none⟩ = some (.slice none 0 0) := (blk_cell BK540.out 0).trans rfl; have hcz5_1 : w3.cell? ⟨gb540, 1, none⟩ = some (.slice none 0 0) := (blk_cell BK540.out 1).trans rfl; have hfz5_0 := blk_frozen BK540.out 0; have hfz5_1 := blk_frozen BK540.out 1))
  go_loopg [5, 6] k (fun kq v5 v6 w' => ∃ (x5_1 : Int) (x6_1 : Int) (x541000_1 : List Int) (x541001_1 : List Int) (u541000 : Value) (u541001 : Value), v5 = .int .i64 x5_1 ∧ v6 = .int .i64 x6_1 ∧ Aside0 (tollgateref03_Get.l0 kq l0 x5_1 x6_1 x541000_1 x541001_1 = some (r1, r2, r3)) ∧ Aside0 (kq ≤ k) ∧ Aside0 (Kd.R (Kd.int .i64) 3 w' w.heap.size (fun k_ => some k_ ≠ (u541001 : Value).ownBlock) u541000 x541000_1) ∧ Aside0 (Kd.R (Kd.int .i64) 3 w' w.heap.size (fun k_ => some k_ ≠ (u541000 : Value).ownBlock) u541001 x541001_1) ∧ Aside0 (w'.heap[gb539]? = some (.cells #[(.slice none 0 0), (.slice none 0 0)] 24 (0, 0))) ∧ Aside0 (w'.heap[gb540]? = some (.cells #[u541000, u541001] 24 (0, 0))) ∧ Aside0 (Below w.heap.size w w'))
  case atStart => exact ⟨(0), (0), (([] : List Int)), (([] : List Int)), (.slice none 0 0), (.slice none 0 0), (by first | rfl | (simp; done) | (simp [*]; done)), (by first | rfl | (simp; done) | (simp [*]; done)), H', ⟨Nat.le_refl _⟩, ⟨by first | exact Kd.R_nil _ _ _ _ _ | exact Kd.N_nil _ _ _ _ _ | exact Kd.V_nil _ _ _ _ _ | exact Kd.Q_nil _ _ _ _ _ | exact Kd.S_nil _ _ _ _ _⟩, ⟨by first | exact Kd.R_nil _ _ _ _ _ | exact Kd.N_nil _ _ _ _ _ | exact Kd.V_nil _ _ _ _ _ | exact Kd.Q_nil _ _ _ _ _ | exact Kd.S_nil _ _ _ _ _⟩, ⟨by (with_reducible repeat (first | refine blk_drewN ?_ _ | refine blk_drew ?_ | refine blk_alloc ?_ _)); refine blk_far ?_ NB539_540.out _; (with_reducible repeat (first | refine blk_drewN ?_ _ | refine blk_drew ?_ | refine blk_alloc ?_ _)); refine blk_far ?_ NB539_540.out _; (with_reducible repeat (first | refine blk_drewN ?_ _ | refine blk_drew ?_ | refine blk_alloc ?_ _)); exact BK539.out⟩, ⟨by (with_reducible repeat (first | refine blk_drewN ?_ _ | refine blk_drew ?_ | refine blk_alloc ?_ _)); refine blk_put (cs := #[.slice none 0 0, .slice none 0 0]) ?_ 1 _ rfl; (with_reducible repeat (first | refine blk_drewN ?_ _ | refine blk_drew ?_ | refine blk_alloc ?_ _)); refine blk_put (cs := #[.slice none 0 0, .slice none 0 0]) ?_ 0 _ rfl; (with_reducible repeat (first | refine blk_drewN ?_ _ | refine blk_drew ?_ | refine blk_alloc ?_ _)); exact BK540.out⟩, ⟨by repeat (first | (with_reducible first | exact HB.out | apply below_alloc | apply pw_below_drewN | apply below_drew1 | refine below_set ?_ GE539.out | refine below_set ?_ GE540.out) | exact HB.out)⟩⟩
  case round =>
    clear H'
    try clear p2
    try clear c4
    try clear hcz5_0
    try clear hcz5_1
    try clear hfz5_0
    try clear hfz5_1
    obtain ⟨x5_1, x6_1, x541000_1, x541001_1, u541000, u541001, rfl, rfl, HA, HK1, HO_541000, HO_541001, BK539, BK540, HB⟩ := hrel
    cases gk with
    | zero => exact absurd HA.out (by simp [tollgateref03_Get.l0])
    | succ k1 =>
      have H := HA.out
      clear HA
      simp only [tollgateref03_Get.l0] at H
      by_cases c6 : x6_1 < 2
      · rw [if_pos c6] at H
        have c6b0 : decide (x6_1 < 2) = true := decide_eq_true c6
        clear c6
        replace H := Option.bind_eq_some_iff.mp H
        obtain ⟨⟨t542, t543, t544⟩, A70, H⟩ := H
        replace H : (if t544 = 0 then (if t542 > 9 then (some (([] : List Int), ([] : List Int), 4)) else (tollgateref03_Get.l1 k1 l0 t543 x6_1 t542 0 x541000_1 x541001_1)) else (some (([] : List Int), ([] : List Int), t544))) = some (r1, r2, r3) := H
        have A7 := Aside0.mk A70
        clear A70
        by_cases c8 : t544 = 0
        · rw [if_pos c8] at H
          have c8b0 : (t544 == 0) = true := beq_iff_eq.mpr c8
          have c8b1 : (t544 != 0) = false := bne_eq_false_iff_eq.mpr c8
          clear c8
          by_cases c9 : t542 > 9
          · rw [if_pos c9] at H
            have c9b0 : decide (9 < t542) = true := decide_eq_true c9
            clear c9
            simp only [Option.some.injEq, Prod.mk.injEq] at H
            obtain ⟨rfl, rfl, rfl⟩ := H
            go_wp2_with (first | ((with_reducible refine gate_callee (f := 65) rfl ?_); refine goesL_ (some 22) rfl rfl Try.func65 (by kernel_rfl) rfl #[.slice A0 l0.length c0, .int .i64 x5_1] rfl (by (try simp only [List.map_toArray, List.map_cons, List.map_nil]); first | done | rfl | (simp only [List.length_drop, List.length_take]; rfl)) ?_; (with_reducible refine (tollgateref02_TakeNumber.calls k1 _ _ l0 x5_1 t542 t543 t544 _ ?side1 ?side2 A7.out).mono ?_); (case side1 => repeat (first | exact (Kd.C_below HR0.out HB.out) | (with_reducible refine Kd.C_alloc ?_ _) | (with_reducible refine Kd.C_drewN ?_ _) | (with_reducible refine Kd.C_drew ?_))); (case side2 => exact HC0.out); rintro e w' ⟨rfl, ⟨nd, rfl⟩⟩; refine ⟨_, rfl, ?_⟩; (try (rw [drewN_self wr]; generalize hq_ : World.drewN wr _ = wr; have n0_ : Aside0 (Kd.R (Kd.int .i64) 3 wr w.heap.size (fun k_ => some k_ ≠ (u541001 : Value).ownBlock) u541000 x541000_1) := ⟨by rw [← hq_]; exact (by (with_reducible repeat (first | apply Kd.R_alloc | apply Kd.R_drewN | apply Kd.R_drew)); exact HO_541000.out)⟩; have n1_ : Aside0 (Kd.R (Kd.int .i64) 3 wr w.heap.size (fun k_ => some k_ ≠ (u541000 : Value).ownBlock) u541001 x541001_1) := ⟨by rw [← hq_]; exact (by (with_reducible repeat (first | apply Kd.R_alloc | apply Kd.R_drewN | apply Kd.R_drew)); exact HO_541001.out)⟩; have n2_ : Aside0 (wr.heap[gb539]? = some (.cells #[.slice none 0 0, .slice none 0 0] 24 (0, 0))) := ⟨by rw [← hq_]; exact (by (with_reducible repeat (first | refine blk_drewN ?_ _ | refine blk_drew ?_ | refine blk_alloc ?_ _)); exact BK539.out)⟩; have n3_ : Aside0 (wr.heap[gb540]? = some (.cells #[u541000, u541001] 24 (0, 0))) := ⟨by rw [← hq_]; exact (by (with_reducible repeat (first | refine blk_drewN ?_ _ | refine blk_drew ?_ | refine blk_alloc ?_ _)); exact BK540.out)⟩; have n4_ : Aside0 (Below w.heap.size w wr) := ⟨by rw [← hq_]; exact (by repeat (first | (with_reducible first | exact HB.out | apply below_alloc | apply pw_below_drewN | apply below_drew1 | refine below_set ?_ GE539.out | refine below_set ?_ GE540.out) | exact HB.out))⟩; clear HO_541000 HO_541001 BK539 BK540 HB hq_; have HO_541000 := n0_; have HO_541001 := n1_; have BK539 := n2_; have BK540 := n3_; have HB := n4_; clear n0_ n1_ n2_ n3_ n4_)); have hnb10 := NB539_540.out; have hnc10 := NB540_539.out; have hcz11_0 : wr.cell? ⟨gb539, 0, none⟩ = some (.slice none 0 0) := (blk_cell BK539.out 0).trans rfl; have hcz11_1 : wr.cell? ⟨gb539, 1, none⟩ = some (.slice none 0 0) := (blk_cell BK539.out 1).trans rfl; have hfz11_0 := blk_frozen BK539.out 0; have hfz11_1 := blk_frozen BK539.out 1))
            refine bodyPost_ret (results_ct rfl _ _ gb539 24 #[.slice none 0 0, .slice none 0 0] (0, 0) _ rfl (by (with_reducible repeat (first | refine blk_drewN ?_ _ | refine blk_drew ?_ | refine blk_alloc ?_ _)); refine blk_put (cs := #[.slice none 0 0, .slice none 0 0]) ?_ 1 _ rfl; (with_reducible repeat (first | refine blk_drewN ?_ _ | refine blk_drew ?_ | refine blk_alloc ?_ _)); refine blk_put (cs := #[.slice none 0 0, .slice none 0 0]) ?_ 0 _ rfl; (with_reducible repeat (first | refine blk_drewN ?_ _ | refine blk_drew ?_ | refine blk_alloc ?_ _)); exact BK539.out) Try.underlying24 rfl (by kernel_rfl)) rfl ?_
            exact ⟨_, _, by first | rfl | (simp [errW_none, errW_some] <;> rfl) | (simp [*, errW_none, errW_some] <;> rfl), by first | exact Kd.R_nil _ _ _ _ _ | exact Kd.N_nil _ _ _ _ _ | exact Kd.V_nil _ _ _ _ _ | exact Kd.Q_nil _ _ _ _ _ | exact Kd.S_nil _ _ _ _ _, by first | exact Kd.R_nil _ _ _ _ _ | exact Kd.N_nil _ _ _ _ _ | exact Kd.V_nil _ _ _ _ _ | exact Kd.Q_nil _ _ _ _ _ | exact Kd.S_nil _ _ _ _ _, by repeat (first | (with_reducible first | exact HB.out | apply below_alloc | apply pw_below_drewN | apply below_drew1 | refine below_set ?_ GE539.out | refine below_set ?_ GE540.out) | exact HB.out)⟩
          · rw [if_neg c9] at H
            have c9b0 : decide (9 < t542) = false := decide_eq_false c9
            clear c9
            have H' := Aside0.mk H
            clear H
            go_wp2_with (first | ((with_reducible refine gate_callee (f := 65) rfl ?_); refine goesL_ (some 22) rfl rfl Try.func65 (by kernel_rfl) rfl #[.slice A0 l0.length c0, .int .i64 x5_1] rfl (by (try simp only [List.map_toArray, List.map_cons, List.map_nil]); first | done | rfl | (simp only [List.length_drop, List.length_take]; rfl)) ?_; (with_reducible refine (tollgateref02_TakeNumber.calls k1 _ _ l0 x5_1 t542 t543 t544 _ ?side1 ?side2 A7.out).mono ?_); (case side1 => repeat (first | exact (Kd.C_below HR0.out HB.out) | (with_reducible refine Kd.C_alloc ?_ _) | (with_reducible refine Kd.C_drewN ?_ _) | (with_reducible refine Kd.C_drew ?_))); (case side2 => exact HC0.out); rintro e w' ⟨rfl, ⟨nd, rfl⟩⟩; refine ⟨_, rfl, ?_⟩))
            go_loopg [5, 10] k1 (fun kq v5 v10 w' => ∃ (x5_2 : Int) (x10_2 : Int) (x541000_2 : List Int) (x541001_2 : List Int) (u541000 : Value) (u541001 : Value), v5 = .int .i64 x5_2 ∧ v10 = .int .i64 x10_2 ∧ Aside0 (tollgateref03_Get.l1 kq l0 x5_2 x6_1 t542 x10_2 x541000_2 x541001_2 = some (r1, r2, r3)) ∧ Aside0 (kq ≤ k1) ∧ Aside0 (Kd.R (Kd.int .i64) 3 w' w.heap.size (fun k_ => some k_ ≠ (u541001 : Value).ownBlock) u541000 x541000_2) ∧ Aside0 (Kd.R (Kd.int .i64) 3 w' w.heap.size (fun k_ => some k_ ≠ (u541000 : Value).ownBlock) u541001 x541001_2) ∧ Aside0 (w'.heap[gb539]? = some (.cells #[(.slice none 0 0), (.slice none 0 0)] 24 (0, 0))) ∧ Aside0 (w'.heap[gb540]? = some (.cells #[u541000, u541001] 24 (0, 0))) ∧ Aside0 (Below w.heap.size w w'))
            case atStart => exact ⟨(t543), (0), (x541000_1), (x541001_1), (u541000), (u541001), (by first | rfl | (simp; done) | (simp [*]; done)), (by first | rfl | (simp; done) | (simp [*]; done)), H', ⟨Nat.le_refl _⟩, ⟨by (with_reducible repeat (first | apply Kd.R_alloc | apply Kd.R_drewN | apply Kd.R_drew)); exact HO_541000.out⟩, ⟨by (with_reducible repeat (first | apply Kd.R_alloc | apply Kd.R_drewN | apply Kd.R_drew)); exact HO_541001.out⟩, ⟨by (with_reducible repeat (first | refine blk_drewN ?_ _ | refine blk_drew ?_ | refine blk_alloc ?_ _)); exact BK539.out⟩, ⟨by (with_reducible repeat (first | refine blk_drewN ?_ _ | refine blk_drew ?_ | refine blk_alloc ?_ _)); exact BK540.out⟩, ⟨by repeat (first | (with_reducible first | exact HB.out | apply below_alloc | apply pw_below_drewN | apply below_drew1 | refine below_set ?_ GE539.out | refine below_set ?_ GE540.out) | exact HB.out)⟩⟩
            case round =>
              clear H'
              try clear c1
              try clear p2
              try clear c4
              try clear c6
              try clear c6b0
              try clear c8
              try clear c8b0
              try clear c8b1
              try clear c9
              try clear c9b0
              try clear c10
              try clear hcz11_0
              try clear hcz11_1
              try clear hcz5_0
              try clear hcz5_1
              try clear hfz11_0
              try clear hfz11_1
              try clear hfz5_0
              try clear hfz5_1
              try clear p2
              obtain ⟨x5_2, x10_2, x541000_2, x541001_2, u541000, u541001, rfl, rfl, HA, HK2, HO_541000, HO_541001, BK539, BK540, HB⟩ := hrel
              cases gk with
              | zero => exact absurd HA.out (by simp [tollgateref03_Get.l1])
              | succ k2 =>
                have H := HA.out
                clear HA
                simp only [tollgateref03_Get.l1] at H
                by_cases c12 : x10_2 < t542
                · rw [if_pos c12] at H
                  have c12b0 : decide (x10_2 < t542) = true := decide_eq_true c12
                  clear c12
                  replace H := Option.bind_eq_some_iff.mp H
                  obtain ⟨⟨t545, t546, t547⟩, A130, H⟩ := H
                  replace H : (if t547 = 0 then (if x6_1 = 0 then (if x541000_2.length < 17592186044416 then (tollgateref03_Get.l1 k2 l0 t546 x6_1 t542 (wrap64 (x10_2 + 1)) (x541000_2 ++ [t545]) x541001_2) else (none)) else (if x541001_2.length < 17592186044416 then (tollgateref03_Get.l1 k2 l0 t546 x6_1 t542 (wrap64 (x10_2 + 1)) x541000_2 (x541001_2 ++ [t545])) else (none))) else (some (([] : List Int), ([] : List Int), t547))) = some (r1, r2, r3) := H
                  have A13 := Aside0.mk A130
                  clear A130
                  by_cases c14 : t547 = 0
                  · rw [if_pos c14] at H
                    have c14b0 : (t547 == 0) = true := beq_iff_eq.mpr c14
                    have c14b1 : (t547 != 0) = false := bne_eq_false_iff_eq.mpr c14
                    clear c14
                    by_cases c15 : x6_1 = 0
                    · rw [if_pos c15] at H
                      have c15b0 : (x6_1 == 0) = true := beq_iff_eq.mpr c15
                      have c15b1 : (x6_1 != 0) = false := bne_eq_false_iff_eq.mpr c15
                      clear c15
                      by_cases c16 : x541000_2.length < 17592186044416
                      · rw [if_pos c16] at H
                        have LMc16 := Aside0.mk c16
                        clear c16
                        obtain ⟨y548, hy548⟩ : ∃ y_ : List Int, y_ = (x541000_2 ++ [t545]) := ⟨_, rfl⟩
                        replace H : (tollgateref03_Get.l1 k2 l0 t546 x6_1 t542 (wrap64 (x10_2 + 1)) y548 x541001_2) = some (r1, r2, r3) := by first | (rw [hy548]; with_reducible exact H) | (have H2_ := (Option.bind_some _ _).symm.trans H; rw [hy548]; with_reducible exact H2_) | (have H2_ := (Option.bind_some _ _).symm.trans H; with_reducible exact H2_) | with_reducible exact H | (rw [hy548]; exact H) | exact H
                        have Ny548 := Aside0.mk hy548
                        clear hy548
                        have H' := Aside0.mk H
                        clear H
                        go_wp2_with (first | ((with_reducible refine gate_callee (f := 65) rfl ?_); refine goesL_ (some 42) rfl rfl Try.func65 (by kernel_rfl) rfl #[.slice A0 l0.length c0, .int .i64 x5_2] rfl (by (try simp only [List.map_toArray, List.map_cons, List.map_nil]); first | done | rfl | (simp only [List.length_drop, List.length_take]; rfl)) ?_; (with_reducible refine (tollgateref02_TakeNumber.calls k2 _ _ l0 x5_2 t545 t546 t547 _ ?side1 ?side2 A13.out).mono ?_); (case side1 => repeat (first | exact (Kd.C_below HR0.out HB.out) | (with_reducible refine Kd.C_alloc ?_ _) | (with_reducible refine Kd.C_drewN ?_ _) | (with_reducible refine Kd.C_drew ?_))); (case side2 => exact HC0.out); rintro e w' ⟨rfl, ⟨nd, rfl⟩⟩; refine ⟨_, rfl, ?_⟩; (try (rw [drewN_self wr]; generalize hq_ : World.drewN wr _ = wr; have n0_ : Aside0 (Kd.R (Kd.int .i64) 3 wr w.heap.size (fun k_ => some k_ ≠ (u541001 : Value).ownBlock) u541000 x541000_2) := ⟨by rw [← hq_]; exact (by (with_reducible repeat (first | apply Kd.R_alloc | apply Kd.R_drewN | apply Kd.R_drew)); exact HO_541000.out)⟩; have n1_ : Aside0 (Kd.R (Kd.int .i64) 3 wr w.heap.size (fun k_ => some k_ ≠ (u541000 : Value).ownBlock) u541001 x541001_2) := ⟨by rw [← hq_]; exact (by (with_reducible repeat (first | apply Kd.R_alloc | apply Kd.R_drewN | apply Kd.R_drew)); exact HO_541001.out)⟩; have n2_ : Aside0 (wr.heap[gb539]? = some (.cells #[.slice none 0 0, .slice none 0 0] 24 (0, 0))) := ⟨by rw [← hq_]; exact (by (with_reducible repeat (first | refine blk_drewN ?_ _ | refine blk_drew ?_ | refine blk_alloc ?_ _)); exact BK539.out)⟩; have n3_ : Aside0 (wr.heap[gb540]? = some (.cells #[u541000, u541001] 24 (0, 0))) := ⟨by rw [← hq_]; exact (by (with_reducible repeat (first | refine blk_drewN ?_ _ | refine blk_drew ?_ | refine blk_alloc ?_ _)); exact BK540.out)⟩; have n4_ : Aside0 (Below w.heap.size w wr) := ⟨by rw [← hq_]; exact (by repeat (first | (with_reducible first | exact HB.out | apply below_alloc | apply pw_below_drewN | apply below_drew1 | refine below_set ?_ GE539.out | refine below_set ?_ GE540.out) | exact HB.out))⟩; clear HO_541000 HO_541001 BK539 BK540 HB hq_; have HO_541000 := n0_; have HO_541001 := n1_; have BK539 := n2_; have BK540 := n3_; have HB := n4_; clear n0_ n1_ n2_ n3_ n4_)); have hnb17 := NB540_539.out; have hnc17 := NB539_540.out; have hcz18_0 : wr.cell? ⟨gb540, 0, none⟩ = some (u541000) := (blk_cell BK540.out 0).trans rfl; have hcz18_1 : wr.cell? ⟨gb540, 1, none⟩ = some (u541001) := (blk_cell BK540.out 1).trans rfl; have hfz18_0 := blk_frozen BK540.out 0; have hfz18_1 := blk_frozen BK540.out 1) | ((with_reducible refine gate_builtin (b := .append) (xs := #[.tmp 54, .tmp 56]) rfl ?_); at_builtin; refine Kd.R_append (Kd.int .i64) (w0 := w) w.heap.size rfl (.tmp 54) (.tmp 56) 22 3 (.int .i64 0) 8 rfl Try.underlying22 info3 rfl (by decide) (by omega) u541000 x541000_2 t545 [.int .i64 t545] (fun k_ => some k_ ≠ (u541001 : Value).ownBlock) (fun _ => False) rfl rfl ?aP (fun _ hk => hk.elim) ?aF ?aO ?aB ?aS ?aL ?_; (case aP => exact rfl); (case aB => exact (by repeat (first | (with_reducible first | exact HB.out | apply below_alloc | apply pw_below_drewN | apply below_drew1 | refine below_set ?_ GE539.out | refine below_set ?_ GE540.out) | exact HB.out))); (case aF => exact (fun k_ hk => Kd.fresh' (Kd.R_lt (by (with_reducible repeat (first | apply Kd.R_alloc | apply Kd.R_drewN | apply Kd.R_drew)); exact HO_541001.out)) k_ hk)); (case aO => exact (by (with_reducible repeat (first | apply Kd.R_alloc | apply Kd.R_drewN | apply Kd.R_drew)); exact HO_541000.out)); (case aS => exact (below_size (by repeat (first | (with_reducible first | exact HB.out | apply below_alloc | apply pw_below_drewN | apply below_drew1 | refine below_set ?_ GE539.out | refine below_set ?_ GE540.out) | exact HB.out)))); (case aL => have := LMc16.out; omega); intro v549 w19 ho hb hg hat; rw [← Ny548.out] at ho; have n0_ := Aside0.mk (Kd.R_after (ok := (fun _ => True)) (by (with_reducible repeat (first | apply Kd.R_alloc | apply Kd.R_drewN | apply Kd.R_drew)); exact Kd.R_mono HO_541001.out (fun _ hk => ⟨trivial, hk⟩)) hg hat); have n1_ := Aside0.mk (blk_grown (g := gb539) (o := .cells #[.slice none 0 0, .slice none 0 0] 24 (0, 0)) (by (with_reducible repeat (first | refine blk_drewN ?_ _ | refine blk_drew ?_ | refine blk_alloc ?_ _)); exact BK539.out) hg (Kd.R_ne HO_541000.out BK539.out (by decide))); have n2_ := Aside0.mk (blk_grown (g := gb540) (o := .cells #[u541000, u541001] 24 (0, 0)) (by (with_reducible repeat (first | refine blk_drewN ?_ _ | refine blk_drew ?_ | refine blk_alloc ?_ _)); exact BK540.out) hg (Kd.R_ne HO_541000.out BK540.out (by decide))); have n3_ := Aside0.mk (hb); have n4_ := Aside0.mk (ho); clear HO_541001; clear BK539; clear BK540; clear HB; clear HO_541000; have HO_541001 := n0_; have BK539 := n1_; have BK540 := n2_; have HB := n3_; have HO550 := n4_; clear n0_ n1_ n2_ n3_ n4_; clear ho hb hg hat; obtain ⟨Ao20, co20, eo20⟩ := Kd.R_slice HO550.out; subst eo20; have hcz21_0 : w19.cell? ⟨gb540, 0, none⟩ = some (u541000) := (blk_cell BK540.out 0).trans rfl; have hcz21_1 : w19.cell? ⟨gb540, 1, none⟩ = some (u541001) := (blk_cell BK540.out 1).trans rfl; have hfz21_0 := blk_frozen BK540.out 0; have hfz21_1 := blk_frozen BK540.out 1))
                        go_roundg k2
                        case measure => have := HK1.out; have := HK2.out; omega
                        case rel => exact ⟨(t546), (wrap64 (x10_2 + 1)), (y548), (x541001_2), (.slice Ao20 y548.length co20), (u541001), (by first | rfl | (simp; done) | (simp [*]; done)), (by first | rfl | (simp; done) | (simp [*]; done)), H', ⟨by have := HK1.out; have := HK2.out; omega⟩, ⟨by (with_reducible repeat (first | apply Kd.R_alloc | apply Kd.R_drewN | apply Kd.R_drew)); exact Kd.R_mono (Kd.R_far (p := ⟨gb540, 0, none⟩) (Kd.R_types HO550.out BK540.out (by decide)) (fun _ hk => hk.2) (.slice Ao20 y548.length co20)) (fun _ hk => hk.1)⟩, ⟨by (with_reducible repeat (first | apply Kd.R_alloc | apply Kd.R_drewN | apply Kd.R_drew)); exact Kd.R_mono (Kd.R_far (p := ⟨gb540, 0, none⟩) (Kd.R_types HO_541001.out BK540.out (by decide)) (fun _ hk => hk.2) (.slice Ao20 y548.length co20)) (fun _ hk => hk.1.2)⟩, ⟨by (with_reducible repeat (first | refine blk_drewN ?_ _ | refine blk_drew ?_ | refine blk_alloc ?_ _)); refine blk_far ?_ NB539_540.out _; (with_reducible repeat (first | refine blk_drewN ?_ _ | refine blk_drew ?_ | refine blk_alloc ?_ _)); exact BK539.out⟩, ⟨by (with_reducible repeat (first | refine blk_drewN ?_ _ | refine blk_drew ?_ | refine blk_alloc ?_ _)); refine blk_put (cs := #[u541000, u541001]) ?_ 0 _ rfl; (with_reducible repeat (first | refine blk_drewN ?_ _ | refine blk_drew ?_ | refine blk_alloc ?_ _)); exact BK540.out⟩, ⟨by repeat (first | (with_reducible first | exact HB.out | apply below_alloc | apply pw_below_drewN | apply below_drew1 | refine below_set ?_ GE539.out | refine below_set ?_ GE540.out) | exact HB.out)⟩⟩
                      · rw [if_neg c16] at H
                        exact absurd H (by simp)
                    · rw [if_neg c15] at H
                      have c15b0 : (x6_1 == 0) = false := beq_eq_false_iff_ne.mpr c15
                      have c15b1 : (x6_1 != 0) = true := bne_iff_ne.mpr c15
                      by_cases c22 : x541001_2.length < 17592186044416
                      · rw [if_pos c22] at H
                        have LMc22 := Aside0.mk c22
                        clear c22
                        obtain ⟨y551, hy551⟩ : ∃ y_ : List Int, y_ = (x541001_2 ++ [t545]) := ⟨_, rfl⟩
                        replace H : (tollgateref03_Get.l1 k2 l0 t546 x6_1 t542 (wrap64 (x10_2 + 1)) x541000_2 y551) = some (r1, r2, r3) := by first | (rw [hy551]; with_reducible exact H) | (have H2_ := (Option.bind_some _ _).symm.trans H; rw [hy551]; with_reducible exact H2_) | (have H2_ := (Option.bind_some _ _).symm.trans H; with_reducible exact H2_) | with_reducible exact H | (rw [hy551]; exact H) | exact H
                        have Ny551 := Aside0.mk hy551
                        clear hy551
                        have H' := Aside0.mk H
                        clear H
                        go_wp2_with (first | ((with_reducible refine gate_callee (f := 65) rfl ?_); refine goesL_ (some 42) rfl rfl Try.func65 (by kernel_rfl) rfl #[.slice A0 l0.length c0, .int .i64 x5_2] rfl (by (try simp only [List.map_toArray, List.map_cons, List.map_nil]); first | done | rfl | (simp only [List.length_drop, List.length_take]; rfl)) ?_; (with_reducible refine (tollgateref02_TakeNumber.calls k2 _ _ l0 x5_2 t545 t546 t547 _ ?side1 ?side2 A13.out).mono ?_); (case side1 => repeat (first | exact (Kd.C_below HR0.out HB.out) | (with_reducible refine Kd.C_alloc ?_ _) | (with_reducible refine Kd.C_drewN ?_ _) | (with_reducible refine Kd.C_drew ?_))); (case side2 => exact HC0.out); rintro e w' ⟨rfl, ⟨nd, rfl⟩⟩; refine ⟨_, rfl, ?_⟩; (try (rw [drewN_self wr]; generalize hq_ : World.drewN wr _ = wr; have n0_ : Aside0 (Kd.R (Kd.int .i64) 3 wr w.heap.size (fun k_ => some k_ ≠ (u541001 : Value).ownBlock) u541000 x541000_2) := ⟨by rw [← hq_]; exact (by (with_reducible repeat (first | apply Kd.R_alloc | apply Kd.R_drewN | apply Kd.R_drew)); exact HO_541000.out)⟩; have n1_ : Aside0 (Kd.R (Kd.int .i64) 3 wr w.heap.size (fun k_ => some k_ ≠ (u541000 : Value).ownBlock) u541001 x541001_2) := ⟨by rw [← hq_]; exact (by (with_reducible repeat (first | apply Kd.R_alloc | apply Kd.R_drewN | apply Kd.R_drew)); exact HO_541001.out)⟩; have n2_ : Aside0 (wr.heap[gb539]? = some (.cells #[.slice none 0 0, .slice none 0 0] 24 (0, 0))) := ⟨by rw [← hq_]; exact (by (with_reducible repeat (first | refine blk_drewN ?_ _ | refine blk_drew ?_ | refine blk_alloc ?_ _)); exact BK539.out)⟩; have n3_ : Aside0 (wr.heap[gb540]? = some (.cells #[u541000, u541001] 24 (0, 0))) := ⟨by rw [← hq_]; exact (by (with_reducible repeat (first | refine blk_drewN ?_ _ | refine blk_drew ?_ | refine blk_alloc ?_ _)); exact BK540.out)⟩; have n4_ : Aside0 (Below w.heap.size w wr) := ⟨by rw [← hq_]; exact (by repeat (first | (with_reducible first | exact HB.out | apply below_alloc | apply pw_below_drewN | apply below_drew1 | refine below_set ?_ GE539.out | refine below_set ?_ GE540.out) | exact HB.out))⟩; clear HO_541000 HO_541001 BK539 BK540 HB hq_; have HO_541000 := n0_; have HO_541001 := n1_; have BK539 := n2_; have BK540 := n3_; have HB := n4_; clear n0_ n1_ n2_ n3_ n4_)); have hnb23 := NB540_539.out; have hnc23 := NB539_540.out; have hcz24_0 : wr.cell? ⟨gb540, 0, none⟩ = some (u541000) := (blk_cell BK540.out 0).trans rfl; have hcz24_1 : wr.cell? ⟨gb540, 1, none⟩ = some (u541001) := (blk_cell BK540.out 1).trans rfl; have hfz24_0 := blk_frozen BK540.out 0; have hfz24_1 := blk_frozen BK540.out 1) | ((with_reducible refine gate_builtin (b := .append) (xs := #[.tmp 60, .tmp 62]) rfl ?_); at_builtin; refine Kd.R_append (Kd.int .i64) (w0 := w) w.heap.size rfl (.tmp 60) (.tmp 62) 22 3 (.int .i64 0) 8 rfl Try.underlying22 info3 rfl (by decide) (by omega) u541001 x541001_2 t545 [.int .i64 t545] (fun k_ => some k_ ≠ (u541000 : Value).ownBlock) (fun _ => False) rfl rfl ?aP (fun _ hk => hk.elim) ?aF ?aO ?aB ?aS ?aL ?_; (case aP => exact rfl); (case aB => exact (by repeat (first | (with_reducible first | exact HB.out | apply below_alloc | apply pw_below_drewN | apply below_drew1 | refine below_set ?_ GE539.out | refine below_set ?_ GE540.out) | exact HB.out))); (case aF => exact (fun k_ hk => Kd.fresh' (Kd.R_lt (by (with_reducible repeat (first | apply Kd.R_alloc | apply Kd.R_drewN | apply Kd.R_drew)); exact HO_541000.out)) k_ hk)); (case aO => exact (by (with_reducible repeat (first | apply Kd.R_alloc | apply Kd.R_drewN | apply Kd.R_drew)); exact HO_541001.out)); (case aS => exact (below_size (by repeat (first | (with_reducible first | exact HB.out | apply below_alloc | apply pw_below_drewN | apply below_drew1 | refine below_set ?_ GE539.out | refine below_set ?_ GE540.out) | exact HB.out)))); (case aL => have := LMc22.out; omega); intro v552 w25 ho hb hg hat; rw [← Ny551.out] at ho; have n0_ := Aside0.mk (Kd.R_after (ok := (fun _ => True)) (by (with_reducible repeat (first | apply Kd.R_alloc | apply Kd.R_drewN | apply Kd.R_drew)); exact Kd.R_mono HO_541000.out (fun _ hk => ⟨trivial, hk⟩)) hg hat); have n1_ := Aside0.mk (blk_grown (g := gb539) (o := .cells #[.slice none 0 0, .slice none 0 0] 24 (0, 0)) (by (with_reducible repeat (first | refine blk_drewN ?_ _ | refine blk_drew ?_ | refine blk_alloc ?_ _)); exact BK539.out) hg (Kd.R_ne HO_541001.out BK539.out (by decide))); have n2_ := Aside0.mk (blk_grown (g := gb540) (o := .cells #[u541000, u541001] 24 (0, 0)) (by (with_reducible repeat (first | refine blk_drewN ?_ _ | refine blk_drew ?_ | refine blk_alloc ?_ _)); exact BK540.out) hg (Kd.R_ne HO_541001.out BK540.out (by decide))); have n3_ := Aside0.mk (hb); have n4_ := Aside0.mk (ho); clear HO_541000; clear BK539; clear BK540; clear HB; clear HO_541001; have HO_541000 := n0_; have BK539 := n1_; have BK540 := n2_; have HB := n3_; have HO553 := n4_; clear n0_ n1_ n2_ n3_ n4_; clear ho hb hg hat; obtain ⟨Ao26, co26, eo26⟩ := Kd.R_slice HO553.out; subst eo26; have hcz27_0 : w25.cell? ⟨gb540, 0, none⟩ = some (u541000) := (blk_cell BK540.out 0).trans rfl; have hcz27_1 : w25.cell? ⟨gb540, 1, none⟩ = some (u541001) := (blk_cell BK540.out 1).trans rfl; have hfz27_0 := blk_frozen BK540.out 0; have hfz27_1 := blk_frozen BK540.out 1))
                        go_roundg k2
                        case measure => have := HK1.out; have := HK2.out; omega
                        case rel => exact ⟨(t546), (wrap64 (x10_2 + 1)), (x541000_2), (y551), (u541000), (.slice Ao26 y551.length co26), (by first | rfl | (simp; done) | (simp [*]; done)), (by first | rfl | (simp; done) | (simp [*]; done)), H', ⟨by have := HK1.out; have := HK2.out; omega⟩, ⟨by (with_reducible repeat (first | apply Kd.R_alloc | apply Kd.R_drewN | apply Kd.R_drew)); exact Kd.R_mono (Kd.R_far (p := ⟨gb540, 1, none⟩) (Kd.R_types HO_541000.out BK540.out (by decide)) (fun _ hk => hk.2) (.slice Ao26 y551.length co26)) (fun _ hk => hk.1.2)⟩, ⟨by (with_reducible repeat (first | apply Kd.R_alloc | apply Kd.R_drewN | apply Kd.R_drew)); exact Kd.R_mono (Kd.R_far (p := ⟨gb540, 1, none⟩) (Kd.R_types HO553.out BK540.out (by decide)) (fun _ hk => hk.2) (.slice Ao26 y551.length co26)) (fun _ hk => hk.1)⟩, ⟨by (with_reducible repeat (first | refine blk_drewN ?_ _ | refine blk_drew ?_ | refine blk_alloc ?_ _)); refine blk_far ?_ NB539_540.out _; (with_reducible repeat (first | refine blk_drewN ?_ _ | refine blk_drew ?_ | refine blk_alloc ?_ _)); exact BK539.out⟩, ⟨by (with_reducible repeat (first | refine blk_drewN ?_ _ | refine blk_drew ?_ | refine blk_alloc ?_ _)); refine blk_put (cs := #[u541000, u541001]) ?_ 1 _ rfl; (with_reducible repeat (first | refine blk_drewN ?_ _ | refine blk_drew ?_ | refine blk_alloc ?_ _)); exact BK540.out⟩, ⟨by repeat (first | (with_reducible first | exact HB.out | apply below_alloc | apply pw_below_drewN | apply below_drew1 | refine below_set ?_ GE539.out | refine below_set ?_ GE540.out) | exact HB.out)⟩⟩
                      · rw [if_neg c22] at H
                        exact absurd H (by simp)
                  · rw [if_neg c14] at H
                    have c14b0 : (t547 == 0) = false := beq_eq_false_iff_ne.mpr c14
                    have c14b1 : (t547 != 0) = true := bne_iff_ne.mpr c14
                    simp only [Option.some.injEq, Prod.mk.injEq] at H
                    obtain ⟨rfl, rfl, rfl⟩ := H
                    go_wp2_with (first | ((with_reducible refine gate_callee (f := 65) rfl ?_); refine goesL_ (some 42) rfl rfl Try.func65 (by kernel_rfl) rfl #[.slice A0 l0.length c0, .int .i64 x5_2] rfl (by (try simp only [List.map_toArray, List.map_cons, List.map_nil]); first | done | rfl | (simp only [List.length_drop, List.length_take]; rfl)) ?_; (with_reducible refine (tollgateref02_TakeNumber.calls k2 _ _ l0 x5_2 t545 t546 t547 _ ?side1 ?side2 A13.out).mono ?_); (case side1 => repeat (first | exact (Kd.C_below HR0.out HB.out) | (with_reducible refine Kd.C_alloc ?_ _) | (with_reducible refine Kd.C_drewN ?_ _) | (with_reducible refine Kd.C_drew ?_))); (case side2 => exact HC0.out); rintro e w' ⟨rfl, ⟨nd, rfl⟩⟩; refine ⟨_, rfl, ?_⟩; (try (rw [drewN_self wr]; generalize hq_ : World.drewN wr _ = wr; have n0_ : Aside0 (Kd.R (Kd.int .i64) 3 wr w.heap.size (fun k_ => some k_ ≠ (u541001 : Value).ownBlock) u541000 x541000_2) := ⟨by rw [← hq_]; exact (by (with_reducible repeat (first | apply Kd.R_alloc | apply Kd.R_drewN | apply Kd.R_drew)); exact HO_541000.out)⟩; have n1_ : Aside0 (Kd.R (Kd.int .i64) 3 wr w.heap.size (fun k_ => some k_ ≠ (u541000 : Value).ownBlock) u541001 x541001_2) := ⟨by rw [← hq_]; exact (by (with_reducible repeat (first | apply Kd.R_alloc | apply Kd.R_drewN | apply Kd.R_drew)); exact HO_541001.out)⟩; have n2_ : Aside0 (wr.heap[gb539]? = some (.cells #[.slice none 0 0, .slice none 0 0] 24 (0, 0))) := ⟨by rw [← hq_]; exact (by (with_reducible repeat (first | refine blk_drewN ?_ _ | refine blk_drew ?_ | refine blk_alloc ?_ _)); exact BK539.out)⟩; have n3_ : Aside0 (wr.heap[gb540]? = some (.cells #[u541000, u541001] 24 (0, 0))) := ⟨by rw [← hq_]; exact (by (with_reducible repeat (first | refine blk_drewN ?_ _ | refine blk_drew ?_ | refine blk_alloc ?_ _)); exact BK540.out)⟩; have n4_ : Aside0 (Below w.heap.size w wr) := ⟨by rw [← hq_]; exact (by repeat (first | (with_reducible first | exact HB.out | apply below_alloc | apply pw_below_drewN | apply below_drew1 | refine below_set ?_ GE539.out | refine below_set ?_ GE540.out) | exact HB.out))⟩; clear HO_541000 HO_541001 BK539 BK540 HB hq_; have HO_541000 := n0_; have HO_541001 := n1_; have BK539 := n2_; have BK540 := n3_; have HB := n4_; clear n0_ n1_ n2_ n3_ n4_)); have hnb28 := NB539_540.out; have hnc28 := NB540_539.out; have hcz29_0 : wr.cell? ⟨gb539, 0, none⟩ = some (.slice none 0 0) := (blk_cell BK539.out 0).trans rfl; have hcz29_1 : wr.cell? ⟨gb539, 1, none⟩ = some (.slice none 0 0) := (blk_cell BK539.out 1).trans rfl; have hfz29_0 := blk_frozen BK539.out 0; have hfz29_1 := blk_frozen BK539.out 1))
                    refine bodyPost_ret (results_ct rfl _ _ gb539 24 #[.slice none 0 0, .slice none 0 0] (0, 0) _ rfl (by (with_reducible repeat (first | refine blk_drewN ?_ _ | refine blk_drew ?_ | refine blk_alloc ?_ _)); refine blk_put (cs := #[.slice none 0 0, .slice none 0 0]) ?_ 1 _ rfl; (with_reducible repeat (first | refine blk_drewN ?_ _ | refine blk_drew ?_ | refine blk_alloc ?_ _)); refine blk_put (cs := #[.slice none 0 0, .slice none 0 0]) ?_ 0 _ rfl; (with_reducible repeat (first | refine blk_drewN ?_ _ | refine blk_drew ?_ | refine blk_alloc ?_ _)); exact BK539.out) Try.underlying24 rfl (by kernel_rfl)) rfl ?_
                    exact ⟨_, _, by first | rfl | (simp [errW_none, errW_some] <;> rfl) | (simp [*, errW_none, errW_some] <;> rfl), by first | exact Kd.R_nil _ _ _ _ _ | exact Kd.N_nil _ _ _ _ _ | exact Kd.V_nil _ _ _ _ _ | exact Kd.Q_nil _ _ _ _ _ | exact Kd.S_nil _ _ _ _ _, by first | exact Kd.R_nil _ _ _ _ _ | exact Kd.N_nil _ _ _ _ _ | exact Kd.V_nil _ _ _ _ _ | exact Kd.Q_nil _ _ _ _ _ | exact Kd.S_nil _ _ _ _ _, by repeat (first | (with_reducible first | exact HB.out | apply below_alloc | apply pw_below_drewN | apply below_drew1 | refine below_set ?_ GE539.out | refine below_set ?_ GE540.out) | exact HB.out)⟩
                · rw [if_neg c12] at H
                  have c12b0 : decide (x10_2 < t542) = false := decide_eq_false c12
                  clear c12
                  have H' := Aside0.mk H
                  clear H
                  go_wp2
                  go_roundg k2
                  case measure => have := HK1.out; have := HK2.out; omega
                  case rel => exact ⟨(x5_2), (wrap64 (x6_1 + 1)), (x541000_2), (x541001_2), (u541000), (u541001), (by first | rfl | (simp; done) | (simp [*]; done)), (by first | rfl | (simp; done) | (simp [*]; done)), H', ⟨by have := HK1.out; have := HK2.out; omega⟩, ⟨by (with_reducible repeat (first | apply Kd.R_alloc | apply Kd.R_drewN | apply Kd.R_drew)); exact HO_541000.out⟩, ⟨by (with_reducible repeat (first | apply Kd.R_alloc | apply Kd.R_drewN | apply Kd.R_drew)); exact HO_541001.out⟩, ⟨by (with_reducible repeat (first | refine blk_drewN ?_ _ | refine blk_drew ?_ | refine blk_alloc ?_ _)); exact BK539.out⟩, ⟨by (with_reducible repeat (first | refine blk_drewN ?_ _ | refine blk_drew ?_ | refine blk_alloc ?_ _)); exact BK540.out⟩, ⟨by repeat (first | (with_reducible first | exact HB.out | apply below_alloc | apply pw_below_drewN | apply below_drew1 | refine below_set ?_ GE539.out | refine below_set ?_ GE540.out) | exact HB.out)⟩⟩
        · rw [if_neg c8] at H
          have c8b0 : (t544 == 0) = false := beq_eq_false_iff_ne.mpr c8
          have c8b1 : (t544 != 0) = true := bne_iff_ne.mpr c8
          simp only [Option.some.injEq, Prod.mk.injEq] at H
          obtain ⟨rfl, rfl, rfl⟩ := H
          go_wp2_with (first | ((with_reducible refine gate_callee (f := 65) rfl ?_); refine goesL_ (some 22) rfl rfl Try.func65 (by kernel_rfl) rfl #[.slice A0 l0.length c0, .int .i64 x5_1] rfl (by (try simp only [List.map_toArray, List.map_cons, List.map_nil]); first | done | rfl | (simp only [List.length_drop, List.length_take]; rfl)) ?_; (with_reducible refine (tollgateref02_TakeNumber.calls k1 _ _ l0 x5_1 t542 t543 t544 _ ?side1 ?side2 A7.out).mono ?_); (case side1 => repeat (first | exact (Kd.C_below HR0.out HB.out) | (with_reducible refine Kd.C_alloc ?_ _) | (with_reducible refine Kd.C_drewN ?_ _) | (with_reducible refine Kd.C_drew ?_))); (case side2 => exact HC0.out); rintro e w' ⟨rfl, ⟨nd, rfl⟩⟩; refine ⟨_, rfl, ?_⟩; (try (rw [drewN_self wr]; generalize hq_ : World.drewN wr _ = wr; have n0_ : Aside0 (Kd.R (Kd.int .i64) 3 wr w.heap.size (fun k_ => some k_ ≠ (u541001 : Value).ownBlock) u541000 x541000_1) := ⟨by rw [← hq_]; exact (by (with_reducible repeat (first | apply Kd.R_alloc | apply Kd.R_drewN | apply Kd.R_drew)); exact HO_541000.out)⟩; have n1_ : Aside0 (Kd.R (Kd.int .i64) 3 wr w.heap.size (fun k_ => some k_ ≠ (u541000 : Value).ownBlock) u541001 x541001_1) := ⟨by rw [← hq_]; exact (by (with_reducible repeat (first | apply Kd.R_alloc | apply Kd.R_drewN | apply Kd.R_drew)); exact HO_541001.out)⟩; have n2_ : Aside0 (wr.heap[gb539]? = some (.cells #[.slice none 0 0, .slice none 0 0] 24 (0, 0))) := ⟨by rw [← hq_]; exact (by (with_reducible repeat (first | refine blk_drewN ?_ _ | refine blk_drew ?_ | refine blk_alloc ?_ _)); exact BK539.out)⟩; have n3_ : Aside0 (wr.heap[gb540]? = some (.cells #[u541000, u541001] 24 (0, 0))) := ⟨by rw [← hq_]; exact (by (with_reducible repeat (first | refine blk_drewN ?_ _ | refine blk_drew ?_ | refine blk_alloc ?_ _)); exact BK540.out)⟩; have n4_ : Aside0 (Below w.heap.size w wr) := ⟨by rw [← hq_]; exact (by repeat (first | (with_reducible first | exact HB.out | apply below_alloc | apply pw_below_drewN | apply below_drew1 | refine below_set ?_ GE539.out | refine below_set ?_ GE540.out) | exact HB.out))⟩; clear HO_541000 HO_541001 BK539 BK540 HB hq_; have HO_541000 := n0_; have HO_541001 := n1_; have BK539 := n2_; have BK540 := n3_; have HB := n4_; clear n0_ n1_ n2_ n3_ n4_)); have hnb30 := NB539_540.out; have hnc30 := NB540_539.out; have hcz31_0 : wr.cell? ⟨gb539, 0, none⟩ = some (.slice none 0 0) := (blk_cell BK539.out 0).trans rfl; have hcz31_1 : wr.cell? ⟨gb539, 1, none⟩ = some (.slice none 0 0) := (blk_cell BK539.out 1).trans rfl; have hfz31_0 := blk_frozen BK539.out 0; have hfz31_1 := blk_frozen BK539.out 1))
          refine bodyPost_ret (results_ct rfl _ _ gb539 24 #[.slice none 0 0, .slice none 0 0] (0, 0) _ rfl (by (with_reducible repeat (first | refine blk_drewN ?_ _ | refine blk_drew ?_ | refine blk_alloc ?_ _)); refine blk_put (cs := #[.slice none 0 0, .slice none 0 0]) ?_ 1 _ rfl; (with_reducible repeat (first | refine blk_drewN ?_ _ | refine blk_drew ?_ | refine blk_alloc ?_ _)); refine blk_put (cs := #[.slice none 0 0, .slice none 0 0]) ?_ 0 _ rfl; (with_reducible repeat (first | refine blk_drewN ?_ _ | refine blk_drew ?_ | refine blk_alloc ?_ _)); exact BK539.out) Try.underlying24 rfl (by kernel_rfl)) rfl ?_
          exact ⟨_, _, by first | rfl | (simp [errW_none, errW_some] <;> rfl) | (simp [*, errW_none, errW_some] <;> rfl), by first | exact Kd.R_nil _ _ _ _ _ | exact Kd.N_nil _ _ _ _ _ | exact Kd.V_nil _ _ _ _ _ | exact Kd.Q_nil _ _ _ _ _ | exact Kd.S_nil _ _ _ _ _, by first | exact Kd.R_nil _ _ _ _ _ | exact Kd.N_nil _ _ _ _ _ | exact Kd.V_nil _ _ _ _ _ | exact Kd.Q_nil _ _ _ _ _ | exact Kd.S_nil _ _ _ _ _, by repeat (first | (with_reducible first | exact HB.out | apply below_alloc | apply pw_below_drewN | apply below_drew1 | refine below_set ?_ GE539.out | refine below_set ?_ GE540.out) | exact HB.out)⟩
      · rw [if_neg c6] at H
        have c6b0 : decide (x6_1 < 2) = false := decide_eq_false c6
        clear c6
        by_cases c32 : x5_1 = (l0.length : Int)
        · rw [if_pos c32] at H
          have c32b0 : (x5_1 == (l0.length : Int)) = true := beq_iff_eq.mpr c32
          have c32b1 : (x5_1 != (l0.length : Int)) = false := bne_eq_false_iff_eq.mpr c32
          clear c32
          replace H := Option.bind_eq_some_iff.mp H
          obtain ⟨t541, A330, H⟩ := H
          replace H : (if t541 = true then (some (x541000_1, x541001_1, 0)) else (some (([] : List Int), ([] : List Int), 4))) = some (r1, r2, r3) := H
          have A33 := Aside0.mk A330
          clear A330
          by_cases c34 : t541 = true
          · subst c34
            have H1 : (some (x541000_1, x541001_1, 0)) = some (r1, r2, r3) := by rw [if_pos rfl] at H; exact H
            clear H
            have H := H1
            clear H1
            simp only [Option.some.injEq, Prod.mk.injEq] at H
            obtain ⟨rfl, rfl, rfl⟩ := H
            have hnb35 := NB540_539.out
            have hnc35 := NB539_540.out
            have hcz36_0 : wr.cell? ⟨gb540, 0, none⟩ = some (u541000) := (blk_cell BK540.out 0).trans rfl
            have hcz36_1 : wr.cell? ⟨gb540, 1, none⟩ = some (u541001) := (blk_cell BK540.out 1).trans rfl
            have hfz36_0 := blk_frozen BK540.out 0
            have hfz36_1 := blk_frozen BK540.out 1
            obtain ⟨Ao37, co37, eo37⟩ := Kd.R_slice HO_541000.out
            subst eo37
            obtain ⟨Ao38, co38, eo38⟩ := Kd.R_slice HO_541001.out
            subst eo38
            go_wp2_with (first | (go_at_call 36; (with_reducible refine (tollgateref03_Right.calls k1 _ _ x541000_1 _ _ x541001_1 true _ ?side1 ?side2 ?side3 ?side4 A33.out).mono ?_); (case side1 => repeat (first | exact (Kd.R_reads' HO_541000.out).2.2 | (with_reducible refine Kd.C_alloc ?_ _) | (with_reducible refine Kd.C_drewN ?_ _) | (with_reducible refine Kd.C_drew ?_))); (case side2 => exact (Kd.R_reads' HO_541000.out).2.1); (case side3 => repeat (first | exact (Kd.R_reads' HO_541001.out).2.2 | (with_reducible refine Kd.C_alloc ?_ _) | (with_reducible refine Kd.C_drewN ?_ _) | (with_reducible refine Kd.C_drew ?_))); (case side4 => exact (Kd.R_reads' HO_541001.out).2.1); rintro e w39 ⟨rfl, hb⟩; have n0_ := Aside0.mk (Kd.R_below (by (with_reducible repeat (first | apply Kd.R_alloc | apply Kd.R_drewN | apply Kd.R_drew)); exact HO_541000.out) hb); have n1_ := Aside0.mk (Kd.R_below (by (with_reducible repeat (first | apply Kd.R_alloc | apply Kd.R_drewN | apply Kd.R_drew)); exact HO_541001.out) hb); have n2_ := Aside0.mk (blk_below (g := gb539) (o := .cells #[.slice none 0 0, .slice none 0 0] 24 (0, 0)) (by (with_reducible repeat (first | refine blk_drewN ?_ _ | refine blk_drew ?_ | refine blk_alloc ?_ _)); exact BK539.out) hb); have n3_ := Aside0.mk (blk_below (g := gb540) (o := .cells #[.slice Ao37 x541000_1.length co37, .slice Ao38 x541001_1.length co38] 24 (0, 0)) (by (with_reducible repeat (first | refine blk_drewN ?_ _ | refine blk_drew ?_ | refine blk_alloc ?_ _)); exact BK540.out) hb); have n4_ := Aside0.mk (below_step (by repeat (first | (with_reducible first | exact HB.out | apply below_alloc | apply pw_below_drewN | apply below_drew1 | refine below_set ?_ GE539.out | refine below_set ?_ GE540.out) | exact HB.out)) hb); clear HO_541000; clear HO_541001; clear BK539; clear BK540; clear HB; have HO_541000 := n0_; have HO_541001 := n1_; have BK539 := n2_; have BK540 := n3_; have HB := n4_; clear n0_ n1_ n2_ n3_ n4_; (try clear hb); (try clear hb2); (try clear hk); (try clear hi); have hcz40_0 : w39.cell? ⟨gb540, 0, none⟩ = some (.slice Ao37 x541000_1.length co37) := (blk_cell BK540.out 0).trans rfl; have hcz40_1 : w39.cell? ⟨gb540, 1, none⟩ = some (.slice Ao38 x541001_1.length co38) := (blk_cell BK540.out 1).trans rfl; have hfz40_0 := blk_frozen BK540.out 0; have hfz40_1 := blk_frozen BK540.out 1; have hcz41_0 : w39.cell? ⟨gb539, 0, none⟩ = some (.slice none 0 0) := (blk_cell BK539.out 0).trans rfl; have hcz41_1 : w39.cell? ⟨gb539, 1, none⟩ = some (.slice none 0 0) := (blk_cell BK539.out 1).trans rfl; have hfz41_0 := blk_frozen BK539.out 0; have hfz41_1 := blk_frozen BK539.out 1))
            refine bodyPost_ret (results_ct rfl _ _ gb539 24 #[.slice Ao37 x541000_1.length co37, .slice Ao38 x541001_1.length co38] (0, 0) _ rfl (by (with_reducible repeat (first | refine blk_drewN ?_ _ | refine blk_drew ?_ | refine blk_alloc ?_ _)); refine blk_put (cs := #[.slice Ao37 x541000_1.length co37, .slice none 0 0]) ?_ 1 _ rfl; (with_reducible repeat (first | refine blk_drewN ?_ _ | refine blk_drew ?_ | refine blk_alloc ?_ _)); refine blk_put (cs := #[.slice none 0 0, .slice none 0 0]) ?_ 0 _ rfl; (with_reducible repeat (first | refine blk_drewN ?_ _ | refine blk_drew ?_ | refine blk_alloc ?_ _)); exact BK539.out) Try.underlying24 rfl (by kernel_rfl)) rfl ?_
            exact ⟨_, _, by first | rfl | (simp [errW_none, errW_some] <;> rfl) | (simp [*, errW_none, errW_some] <;> rfl), by (with_reducible repeat (first | apply Kd.R_alloc | apply Kd.R_drewN | apply Kd.R_drew)); exact Kd.R_mono (Kd.R_far (p := ⟨gb539, 1, none⟩) (Kd.R_far (p := ⟨gb539, 0, none⟩) (Kd.R_types HO_541000.out BK539.out (by decide)) (fun _ hk => hk.2) (.slice Ao37 x541000_1.length co37)) (fun _ hk => hk.2) (.slice Ao38 x541001_1.length co38)) (fun _ hk => hk.1), by (with_reducible repeat (first | apply Kd.R_alloc | apply Kd.R_drewN | apply Kd.R_drew)); exact Kd.R_mono (Kd.R_far (p := ⟨gb539, 1, none⟩) (Kd.R_far (p := ⟨gb539, 0, none⟩) (Kd.R_types HO_541001.out BK539.out (by decide)) (fun _ hk => hk.2) (.slice Ao37 x541000_1.length co37)) (fun _ hk => hk.2) (.slice Ao38 x541001_1.length co38)) (fun _ hk => hk.1), by repeat (first | (with_reducible first | exact HB.out | apply below_alloc | apply pw_below_drewN | apply below_drew1 | refine below_set ?_ GE539.out | refine below_set ?_ GE540.out) | exact HB.out)⟩
          · replace c34 := Bool.eq_false_iff.mpr c34
            subst c34
            have H1 : (some (([] : List Int), ([] : List Int), 4)) = some (r1, r2, r3) := by rw [if_neg (show ¬ (false = true) by decide)] at H; exact H
            clear H
            have H := H1
            clear H1
            simp only [Option.some.injEq, Prod.mk.injEq] at H
            obtain ⟨rfl, rfl, rfl⟩ := H
            have hnb42 := NB540_539.out
            have hnc42 := NB539_540.out
            have hcz43_0 : wr.cell? ⟨gb540, 0, none⟩ = some (u541000) := (blk_cell BK540.out 0).trans rfl
            have hcz43_1 : wr.cell? ⟨gb540, 1, none⟩ = some (u541001) := (blk_cell BK540.out 1).trans rfl
            have hfz43_0 := blk_frozen BK540.out 0
            have hfz43_1 := blk_frozen BK540.out 1
            obtain ⟨Ao44, co44, eo44⟩ := Kd.R_slice HO_541000.out
            subst eo44
            obtain ⟨Ao45, co45, eo45⟩ := Kd.R_slice HO_541001.out
            subst eo45
            go_wp2_with (first | (go_at_call 36; (with_reducible refine (tollgateref03_Right.calls k1 _ _ x541000_1 _ _ x541001_1 false _ ?side1 ?side2 ?side3 ?side4 A33.out).mono ?_); (case side1 => repeat (first | exact (Kd.R_reads' HO_541000.out).2.2 | (with_reducible refine Kd.C_alloc ?_ _) | (with_reducible refine Kd.C_drewN ?_ _) | (with_reducible refine Kd.C_drew ?_))); (case side2 => exact (Kd.R_reads' HO_541000.out).2.1); (case side3 => repeat (first | exact (Kd.R_reads' HO_541001.out).2.2 | (with_reducible refine Kd.C_alloc ?_ _) | (with_reducible refine Kd.C_drewN ?_ _) | (with_reducible refine Kd.C_drew ?_))); (case side4 => exact (Kd.R_reads' HO_541001.out).2.1); rintro e w46 ⟨rfl, hb⟩; have n0_ := Aside0.mk (Kd.R_below (by (with_reducible repeat (first | apply Kd.R_alloc | apply Kd.R_drewN | apply Kd.R_drew)); exact HO_541000.out) hb); have n1_ := Aside0.mk (Kd.R_below (by (with_reducible repeat (first | apply Kd.R_alloc | apply Kd.R_drewN | apply Kd.R_drew)); exact HO_541001.out) hb); have n2_ := Aside0.mk (blk_below (g := gb539) (o := .cells #[.slice none 0 0, .slice none 0 0] 24 (0, 0)) (by (with_reducible repeat (first | refine blk_drewN ?_ _ | refine blk_drew ?_ | refine blk_alloc ?_ _)); exact BK539.out) hb); have n3_ := Aside0.mk (blk_below (g := gb540) (o := .cells #[.slice Ao44 x541000_1.length co44, .slice Ao45 x541001_1.length co45] 24 (0, 0)) (by (with_reducible repeat (first | refine blk_drewN ?_ _ | refine blk_drew ?_ | refine blk_alloc ?_ _)); exact BK540.out) hb); have n4_ := Aside0.mk (below_step (by repeat (first | (with_reducible first | exact HB.out | apply below_alloc | apply pw_below_drewN | apply below_drew1 | refine below_set ?_ GE539.out | refine below_set ?_ GE540.out) | exact HB.out)) hb); clear HO_541000; clear HO_541001; clear BK539; clear BK540; clear HB; have HO_541000 := n0_; have HO_541001 := n1_; have BK539 := n2_; have BK540 := n3_; have HB := n4_; clear n0_ n1_ n2_ n3_ n4_; (try clear hb); (try clear hb2); (try clear hk); (try clear hi); have hcz47_0 : w46.cell? ⟨gb539, 0, none⟩ = some (.slice none 0 0) := (blk_cell BK539.out 0).trans rfl; have hcz47_1 : w46.cell? ⟨gb539, 1, none⟩ = some (.slice none 0 0) := (blk_cell BK539.out 1).trans rfl; have hfz47_0 := blk_frozen BK539.out 0; have hfz47_1 := blk_frozen BK539.out 1))
            refine bodyPost_ret (results_ct rfl _ _ gb539 24 #[.slice none 0 0, .slice none 0 0] (0, 0) _ rfl (by (with_reducible repeat (first | refine blk_drewN ?_ _ | refine blk_drew ?_ | refine blk_alloc ?_ _)); refine blk_put (cs := #[.slice none 0 0, .slice none 0 0]) ?_ 1 _ rfl; (with_reducible repeat (first | refine blk_drewN ?_ _ | refine blk_drew ?_ | refine blk_alloc ?_ _)); refine blk_put (cs := #[.slice none 0 0, .slice none 0 0]) ?_ 0 _ rfl; (with_reducible repeat (first | refine blk_drewN ?_ _ | refine blk_drew ?_ | refine blk_alloc ?_ _)); exact BK539.out) Try.underlying24 rfl (by kernel_rfl)) rfl ?_
            exact ⟨_, _, by first | rfl | (simp [errW_none, errW_some] <;> rfl) | (simp [*, errW_none, errW_some] <;> rfl), by first | exact Kd.R_nil _ _ _ _ _ | exact Kd.N_nil _ _ _ _ _ | exact Kd.V_nil _ _ _ _ _ | exact Kd.Q_nil _ _ _ _ _ | exact Kd.S_nil _ _ _ _ _, by first | exact Kd.R_nil _ _ _ _ _ | exact Kd.N_nil _ _ _ _ _ | exact Kd.V_nil _ _ _ _ _ | exact Kd.Q_nil _ _ _ _ _ | exact Kd.S_nil _ _ _ _ _, by repeat (first | (with_reducible first | exact HB.out | apply below_alloc | apply pw_below_drewN | apply below_drew1 | refine below_set ?_ GE539.out | refine below_set ?_ GE540.out) | exact HB.out)⟩
        · rw [if_neg c32] at H
          have c32b0 : (x5_1 == (l0.length : Int)) = false := beq_eq_false_iff_ne.mpr c32
          have c32b1 : (x5_1 != (l0.length : Int)) = true := bne_iff_ne.mpr c32
          simp only [Option.some.injEq, Prod.mk.injEq] at H
          obtain ⟨rfl, rfl, rfl⟩ := H
          have hnb48 := NB539_540.out
          have hnc48 := NB540_539.out
          have hcz49_0 : wr.cell? ⟨gb539, 0, none⟩ = some (.slice none 0 0) := (blk_cell BK539.out 0).trans rfl
          have hcz49_1 : wr.cell? ⟨gb539, 1, none⟩ = some (.slice none 0 0) := (blk_cell BK539.out 1).trans rfl
          have hfz49_0 := blk_frozen BK539.out 0
          have hfz49_1 := blk_frozen BK539.out 1
          go_wp2
          refine bodyPost_ret (results_ct rfl _ _ gb539 24 #[.slice none 0 0, .slice none 0 0] (0, 0) _ rfl (by (with_reducible repeat (first | refine blk_drewN ?_ _ | refine blk_drew ?_ | refine blk_alloc ?_ _)); refine blk_put (cs := #[.slice none 0 0, .slice none 0 0]) ?_ 1 _ rfl; (with_reducible repeat (first | refine blk_drewN ?_ _ | refine blk_drew ?_ | refine blk_alloc ?_ _)); refine blk_put (cs := #[.slice none 0 0, .slice none 0 0]) ?_ 0 _ rfl; (with_reducible repeat (first | refine blk_drewN ?_ _ | refine blk_drew ?_ | refine blk_alloc ?_ _)); exact BK539.out) Try.underlying24 rfl (by kernel_rfl)) rfl ?_
          exact ⟨_, _, by first | rfl | (simp [errW_none, errW_some] <;> rfl) | (simp [*, errW_none, errW_some] <;> rfl), by first | exact Kd.R_nil _ _ _ _ _ | exact Kd.N_nil _ _ _ _ _ | exact Kd.V_nil _ _ _ _ _ | exact Kd.Q_nil _ _ _ _ _ | exact Kd.S_nil _ _ _ _ _, by first | exact Kd.R_nil _ _ _ _ _ | exact Kd.N_nil _ _ _ _ _ | exact Kd.V_nil _ _ _ _ _ | exact Kd.Q_nil _ _ _ _ _ | exact Kd.S_nil _ _ _ _ _, by repeat (first | (with_reducible first | exact HB.out | apply below_alloc | apply pw_below_drewN | apply below_drew1 | refine below_set ?_ GE539.out | refine below_set ?_ GE540.out) | exact HB.out)⟩

end Go.Proofs.Ythmamgnobcnhgaa.PM
