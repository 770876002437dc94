-- written by wip/mkprint.py of this work
import Derived.Test.YthmamgnobcnhgaaPMx0
import Derived.Test.YthmamgnobcnhgaaPMx3
import Derived.Test.YthmamgnobcnhgaaPMx11
import Derived.Test.YthmamgnobcnhgaaPMx16
import Derived.Test.YthmamgnobcnhgaaPMx40
import Derived.Test.YthmamgnobcnhgaaEAll
namespace Go.Proofs.Ythmamgnobcnhgaa.PM
open Go.RowKit Go.Proofs.YthmamgnobcnhgaaW.PrintWords Go.Proofs.YthmamgnobcnhgaaW.PrintLast Go.Proofs.YthmamgnobcnhgaaW.PrintMore
attribute [local go_sem] max2_int min2_int max_two min_two max_three min_three max_four min_four   -- for this text's walks alone
set_option linter.unusedVariables false
set_option linter.unusedSimpArgs false

/-! ### tollgatelaw03_MemberOwn: function 16 -/
mutual
def tollgatelaw03_MemberOwn.l0 : Nat → Int → List Int → Int → List Int → List Int → List Int → List Int → List Int → List Int → Option (Bool)
  | 0, _, _, _, _, _, _, _, _, _ => none
  | k + 1, x7, x8, x9, x636000, x636001, x644000, x644001, x652000, x652001 => if x9 < (x8.length : Int) then (if 0 ≤ x9 then (tollgatelaw03_MemberOwn.l0 k x7 (x8.set (x9 : Int).toNat 77) (wrap64 (x9 + 1)) x636000 x636001 x644000 x644001 x652000 x652001) else (none)) else (if x7 = 0 then (if x652000.length < 17592186044416 then (tollgatelaw03_MemberOwn.l1 k 0 x636000 x636001 x644000 x644001 (x652000 ++ [78]) x652001) else (none)) else ((tollgatelaw03_live.f k).bind fun t667 => (if t667 = true then ((tollgateref03_Same.f k x644000 x644001 x636000 x636001).bind fun t668 => (some t668)) else (some false))))
def tollgatelaw03_MemberOwn.l1 : Nat → Int → List Int → List Int → List Int → List Int → List Int → List Int → Option (Bool)
  | 0, _, _, _, _, _, _, _ => none
  | k + 1, x10, x636000, x636001, x644000, x644001, x652000, x652001 => if x10 < (x652000.length : Int) then (if 0 ≤ x10 then (tollgatelaw03_MemberOwn.l1 k (wrap64 (x10 + 1)) x636000 x636001 x644000 x644001 (x652000.set (x10 : Int).toNat 78) x652001) else (none)) else (if x652001.length < 17592186044416 then (tollgatelaw03_MemberOwn.l2 k 0 x636000 x636001 x644000 x644001 x652000 (x652001 ++ [79])) else (none))
def tollgatelaw03_MemberOwn.l2 : Nat → Int → List Int → List Int → List Int → List Int → List Int → List Int → Option (Bool)
  | 0, _, _, _, _, _, _, _ => none
  | k + 1, x11, x636000, x636001, x644000, x644001, x652000, x652001 => if x11 < (x652001.length : Int) then (if 0 ≤ x11 then (tollgatelaw03_MemberOwn.l2 k (wrap64 (x11 + 1)) x636000 x636001 x644000 x644001 x652000 (x652001.set (x11 : Int).toNat 79)) else (none)) else (tollgatelaw03_MemberOwn.l3 k 0 x636000 x636001 x644000 x644001 x652000 x652001)
def tollgatelaw03_MemberOwn.l3 : Nat → Int → List Int → List Int → List Int → List Int → List Int → List Int → Option (Bool)
  | 0, _, _, _, _, _, _, _ => none
  | k + 1, x12, x636000, x636001, x644000, x644001, x652000, x652001 => if x12 < (x652000.length : Int) then (if 0 ≤ x12 then (if (rd x652000 x12) = 78 then (tollgatelaw03_MemberOwn.l3 k (wrap64 (x12 + 1)) x636000 x636001 x644000 x644001 x652000 x652001) else (some false)) else (none)) else ((tollgatelaw03_live.f k).bind fun t665 => (if t665 = true then ((tollgateref03_Same.f k x644000 x644001 x636000 x636001).bind fun t666 => (some t666)) else (some false)))
end
def tollgatelaw03_MemberOwn.f (k : Nat) (l0_0 : List Int) (l0_1 : List Int) (a1_0 : Int) (a1_1 : Int) : Option (Bool) := (tollgateref03_Copy.f l0_0 l0_1).bind fun bt637 => ((member_Apply.f k bt637.1 bt637.2 a1_0 a1_1).bind fun bt644 => ((member_All.f bt637.1 bt637.2).bind fun t652 => (tollgatelaw03_MemberOwn.l0 k bt644.2.2 t652 0 l0_0 l0_1 bt637.1 bt637.2 bt644.1 bt644.2.1)))
theorem tollgatelaw03_MemberOwn.mono_l : ∀ k, (∀ y0 y1 y2 y3 y4 y5 y6 y7 y8, LeO (tollgatelaw03_MemberOwn.l0 k y0 y1 y2 y3 y4 y5 y6 y7 y8) (tollgatelaw03_MemberOwn.l0 (k + 1) y0 y1 y2 y3 y4 y5 y6 y7 y8)) ∧ (∀ y0 y1 y2 y3 y4 y5 y6, LeO (tollgatelaw03_MemberOwn.l1 k y0 y1 y2 y3 y4 y5 y6) (tollgatelaw03_MemberOwn.l1 (k + 1) y0 y1 y2 y3 y4 y5 y6)) ∧ (∀ y0 y1 y2 y3 y4 y5 y6, LeO (tollgatelaw03_MemberOwn.l2 k y0 y1 y2 y3 y4 y5 y6) (tollgatelaw03_MemberOwn.l2 (k + 1) y0 y1 y2 y3 y4 y5 y6)) ∧ (∀ y0 y1 y2 y3 y4 y5 y6, LeO (tollgatelaw03_MemberOwn.l3 k y0 y1 y2 y3 y4 y5 y6) (tollgatelaw03_MemberOwn.l3 (k + 1) y0 y1 y2 y3 y4 y5 y6))
  | 0 => ⟨fun _ _ _ _ _ _ _ _ _ r h => by simp [tollgatelaw03_MemberOwn.l0] at h, fun _ _ _ _ _ _ _ r h => by simp [tollgatelaw03_MemberOwn.l1] at h, fun _ _ _ _ _ _ _ r h => by simp [tollgatelaw03_MemberOwn.l2] at h, fun _ _ _ _ _ _ _ r h => by simp [tollgatelaw03_MemberOwn.l3] at h⟩
  | k + 1 => by
    obtain ⟨ih0, ih1, ih2, ih3⟩ := tollgatelaw03_MemberOwn.mono_l k
    refine ⟨?_, ?_, ?_, ?_⟩
    · intro y0 y1 y2 y3 y4 y5 y6 y7 y8
      unfold tollgatelaw03_MemberOwn.l0
      repeat' first
      | (with_reducible exact ih0 _ _ _ _ _ _ _ _ _)
      | (with_reducible exact ih1 _ _ _ _ _ _ _)
      | (with_reducible exact ih2 _ _ _ _ _ _ _)
      | (with_reducible exact ih3 _ _ _ _ _ _ _)
      | (with_reducible exact member_Apply.mono _ _ _ _ _)
      | (with_reducible exact tollgatelaw03_live.mono _)
      | (with_reducible exact tollgateref03_Same.mono _ _ _ _ _)
      | (with_reducible exact LeO.refl _)
      | (with_reducible exact LeO.none _)
      | (with_reducible refine LeO.ite ?_ ?_)
      | (with_reducible refine LeO.bind ?_ (fun _ => ?_))
      | exact ih0 _ _ _ _ _ _ _ _ _
      | exact ih1 _ _ _ _ _ _ _
      | exact ih2 _ _ _ _ _ _ _
      | exact ih3 _ _ _ _ _ _ _
      | exact member_Apply.mono _ _ _ _ _
      | exact tollgatelaw03_live.mono _
      | exact tollgateref03_Same.mono _ _ _ _ _
      | exact LeO.none _
      | refine LeO.ite ?_ ?_
      | refine LeO.bind ?_ (fun _ => ?_)
    · intro y0 y1 y2 y3 y4 y5 y6
      unfold tollgatelaw03_MemberOwn.l1
      repeat' first
      | (with_reducible exact ih0 _ _ _ _ _ _ _ _ _)
      | (with_reducible exact ih1 _ _ _ _ _ _ _)
      | (with_reducible exact ih2 _ _ _ _ _ _ _)
      | (with_reducible exact ih3 _ _ _ _ _ _ _)
      | (with_reducible exact member_Apply.mono _ _ _ _ _)
      | (with_reducible exact tollgatelaw03_live.mono _)
      | (with_reducible exact tollgateref03_Same.mono _ _ _ _ _)
      | (with_reducible exact LeO.refl _)
      | (with_reducible exact LeO.none _)
      | (with_reducible refine LeO.ite ?_ ?_)
      | (with_reducible refine LeO.bind ?_ (fun _ => ?_))
      | exact ih0 _ _ _ _ _ _ _ _ _
      | exact ih1 _ _ _ _ _ _ _
      | exact ih2 _ _ _ _ _ _ _
      | exact ih3 _ _ _ _ _ _ _
      | exact member_Apply.mono _ _ _ _ _
      | exact tollgatelaw03_live.mono _
      | exact tollgateref03_Same.mono _ _ _ _ _
      | exact LeO.none _
      | refine LeO.ite ?_ ?_
      | refine LeO.bind ?_ (fun _ => ?_)
    · intro y0 y1 y2 y3 y4 y5 y6
      unfold tollgatelaw03_MemberOwn.l2
      repeat' first
      | (with_reducible exact ih0 _ _ _ _ _ _ _ _ _)
      | (with_reducible exact ih1 _ _ _ _ _ _ _)
      | (with_reducible exact ih2 _ _ _ _ _ _ _)
      | (with_reducible exact ih3 _ _ _ _ _ _ _)
      | (with_reducible exact member_Apply.mono _ _ _ _ _)
      | (with_reducible exact tollgatelaw03_live.mono _)
      | (with_reducible exact tollgateref03_Same.mono _ _ _ _ _)
      | (with_reducible exact LeO.refl _)
      | (with_reducible exact LeO.none _)
      | (with_reducible refine LeO.ite ?_ ?_)
      | (with_reducible refine LeO.bind ?_ (fun _ => ?_))
      | exact ih0 _ _ _ _ _ _ _ _ _
      | exact ih1 _ _ _ _ _ _ _
      | exact ih2 _ _ _ _ _ _ _
      | exact ih3 _ _ _ _ _ _ _
      | exact member_Apply.mono _ _ _ _ _
      | exact tollgatelaw03_live.mono _
      | exact tollgateref03_Same.mono _ _ _ _ _
      | exact LeO.none _
      | refine LeO.ite ?_ ?_
      | refine LeO.bind ?_ (fun _ => ?_)
    · intro y0 y1 y2 y3 y4 y5 y6
      unfold tollgatelaw03_MemberOwn.l3
      repeat' first
      | (with_reducible exact ih0 _ _ _ _ _ _ _ _ _)
      | (with_reducible exact ih1 _ _ _ _ _ _ _)
      | (with_reducible exact ih2 _ _ _ _ _ _ _)
      | (with_reducible exact ih3 _ _ _ _ _ _ _)
      | (with_reducible exact member_Apply.mono _ _ _ _ _)
      | (with_reducible exact tollgatelaw03_live.mono _)
      | (with_reducible exact tollgateref03_Same.mono _ _ _ _ _)
      | (with_reducible exact LeO.refl _)
      | (with_reducible exact LeO.none _)
      | (with_reducible refine LeO.ite ?_ ?_)
      | (with_reducible refine LeO.bind ?_ (fun _ => ?_))
      | exact ih0 _ _ _ _ _ _ _ _ _
      | exact ih1 _ _ _ _ _ _ _
      | exact ih2 _ _ _ _ _ _ _
      | exact ih3 _ _ _ _ _ _ _
      | exact member_Apply.mono _ _ _ _ _
      | exact tollgatelaw03_live.mono _
      | exact tollgateref03_Same.mono _ _ _ _ _
      | exact LeO.none _
      | refine LeO.ite ?_ ?_
      | refine LeO.bind ?_ (fun _ => ?_)
theorem tollgatelaw03_MemberOwn.mono : ∀ a0 a1 a2 a3 k, LeO (tollgatelaw03_MemberOwn.f k a0 a1 a2 a3) (tollgatelaw03_MemberOwn.f (k + 1) a0 a1 a2 a3) := by
  intro a0 a1 a2 a3 k
  obtain ⟨ih0, ih1, ih2, ih3⟩ := tollgatelaw03_MemberOwn.mono_l k
  unfold tollgatelaw03_MemberOwn.f
  repeat' first
      | (with_reducible exact ih0 _ _ _ _ _ _ _ _ _)
      | (with_reducible exact ih1 _ _ _ _ _ _ _)
      | (with_reducible exact ih2 _ _ _ _ _ _ _)
      | (with_reducible exact ih3 _ _ _ _ _ _ _)
      | (with_reducible exact member_Apply.mono _ _ _ _ _)
      | (with_reducible exact tollgatelaw03_live.mono _)
      | (with_reducible exact tollgateref03_Same.mono _ _ _ _ _)
      | (with_reducible exact LeO.refl _)
      | (with_reducible exact LeO.none _)
      | (with_reducible refine LeO.ite ?_ ?_)
      | (with_reducible refine LeO.bind ?_ (fun _ => ?_))
      | exact ih0 _ _ _ _ _ _ _ _ _
      | exact ih1 _ _ _ _ _ _ _
      | exact ih2 _ _ _ _ _ _ _
      | exact ih3 _ _ _ _ _ _ _
      | exact member_Apply.mono _ _ _ _ _
      | exact tollgatelaw03_live.mono _
      | exact tollgateref03_Same.mono _ _ _ _ _
      | exact LeO.none _
      | refine LeO.ite ?_ ?_
      | refine LeO.bind ?_ (fun _ => ?_)
set_option maxHeartbeats 8000000 in
set_option maxRecDepth 100000 in
theorem tollgatelaw03_MemberOwn.calls (k : Nat) (A0_0 : Option Addr) (c0_0 : Nat) (l0_0 : List Int) (A0_1 : Option Addr) (c0_1 : Nat) (l0_1 : List Int) (a1_0 : Int) (a1_1 : Int) (r : Bool) (w : World) (hr0_0 : Kd.C (Kd.int .i64) w A0_0 l0_0.length l0_0) (hc0_0 : l0_0.length ≤ c0_0) (hr0_1 : Kd.C (Kd.int .i64) w A0_1 l0_1.length l0_1) (hc0_1 : l0_1.length ≤ c0_1) (h : tollgatelaw03_MemberOwn.f k l0_0 l0_1 a1_0 a1_1 = some r) :
    Calls Try.prog 16 #[.agg #[.slice A0_0 l0_0.length c0_0, .slice A0_1 l0_1.length c0_1], .agg #[.int .i64 a1_0, .int .i64 a1_1]] w fun e w' => e = .returned (.bool r) ∧ Below w.heap.size w w' := by
  have hu24 := Try.underlying24
  have hu55 := Try.underlying55
  have HR0_0 := Aside0.mk hr0_0
  have HC0_0 := Aside0.mk hc0_0
  clear hr0_0 hc0_0
  have HR0_1 := Aside0.mk hr0_1
  have HC0_1 := Aside0.mk hc0_1
  clear hr0_1 hc0_1
  have HB := Aside0.mk (Below.refl w.heap.size w)
  have H : ((tollgateref03_Copy.f l0_0 l0_1).bind fun bt637 => ((member_Apply.f k bt637.1 bt637.2 a1_0 a1_1).bind fun bt644 => ((member_All.f bt637.1 bt637.2).bind fun t652 => (tollgatelaw03_MemberOwn.l0 k bt644.2.2 t652 0 l0_0 l0_1 bt637.1 bt637.2 bt644.1 bt644.2.1)))) = some r := h
  clear h
  replace H := Option.bind_eq_some_iff.mp H
  obtain ⟨⟨t637, t640⟩, A30, H⟩ := H
  replace H : ((member_Apply.f k t637 t640 a1_0 a1_1).bind fun bt644 => ((member_All.f t637 t640).bind fun t652 => (tollgatelaw03_MemberOwn.l0 k bt644.2.2 t652 0 l0_0 l0_1 t637 t640 bt644.1 bt644.2.1))) = some r := H
  have A3 := Aside0.mk A30
  clear A30
  replace H := Option.bind_eq_some_iff.mp H
  obtain ⟨⟨t644, t647, t650⟩, A40, H⟩ := H
  replace H : ((member_All.f t637 t640).bind fun t652 => (tollgatelaw03_MemberOwn.l0 k t650 t652 0 l0_0 l0_1 t637 t640 t644 t647)) = some r := H
  have A4 := Aside0.mk A40
  clear A40
  replace H := Option.bind_eq_some_iff.mp H
  obtain ⟨t652, A50, H⟩ := H
  replace H : (tollgatelaw03_MemberOwn.l0 k t650 t652 0 l0_0 l0_1 t637 t640 t644 t647) = some r := H
  have A5 := Aside0.mk A50
  clear A50
  have H' := Aside0.mk H
  clear H
  go_enter Try.func16, Try.ntmps16
  go_wp2_with (first | ((with_reducible refine gate_dst (N := 2) rfl ?_); refine box_event ?hg (N := 2) ?hd (cs := #[.slice A0_0 l0_0.length c0_0, .slice A0_1 l0_1.length c0_1]) (t := 24) ?hr ?_; (case hd => rfl); (case hg => rfl); (case hr => first | (go_simp; done) | (go_simp; rfl)); intro gb635 hg w6 hbox hb; have n0_ := Aside0.mk (below_step (by repeat (first | (with_reducible first | exact HB.out | apply below_alloc | apply pw_below_drewN | apply below_drew1) | exact HB.out)) hb); have n1_ := Aside0.mk (hbox); have n2_ := Aside0.mk ((by rw [hg]; exact (below_size (by repeat (first | (with_reducible first | exact HB.out | apply below_alloc | apply pw_below_drewN | apply below_drew1) | exact HB.out))) : w.heap.size ≤ gb635)); have n3_ := Aside0.mk ((by rw [hg]; exact (below_size (by repeat (first | (with_reducible first | exact HB.out | apply below_alloc | apply pw_below_drewN | apply below_drew1) | exact HB.out))) : w.heap.size ≤ gb635)); clear HB; have HB := n0_; have BK635 := n1_; have GW635 := n2_; have GE635 := n3_; clear n0_ n1_ n2_ n3_; clear hb hbox hg) | ((with_reducible refine gate_dst (N := 3) rfl ?_); refine box_event ?hg (N := 3) ?hd (cs := #[.int .i64 a1_0, .int .i64 a1_1]) (t := 55) ?hr ?_; (case hd => rfl); (case hg => rfl); (case hr => first | (go_simp; done) | (go_simp; rfl)); intro gb636 hg w7 hbox hb; have n0_ := Aside0.mk (blk_below (g := gb635) (o := .cells #[.slice A0_0 l0_0.length c0_0, .slice A0_1 l0_1.length c0_1] 24 (0, 0)) (by (with_reducible repeat (first | refine blk_drewN ?_ _ | refine blk_drew ?_ | refine blk_alloc ?_ _)); exact BK635.out) hb); have n1_ := Aside0.mk (below_step (by repeat (first | (with_reducible first | exact HB.out | apply below_alloc | apply pw_below_drewN | apply below_drew1 | refine below_set ?_ GE635.out) | exact HB.out)) hb); have n2_ := Aside0.mk (hbox); have n3_ := Aside0.mk ((by rw [hg]; exact (below_size (by repeat (first | (with_reducible first | exact HB.out | apply below_alloc | apply pw_below_drewN | apply below_drew1 | refine below_set ?_ GE635.out) | exact HB.out))) : w.heap.size ≤ gb636)); have n4_ := Aside0.mk ((by rw [hg]; exact (below_size (by repeat (first | (with_reducible first | exact HB.out | apply below_alloc | apply pw_below_drewN | apply below_drew1 | refine below_set ?_ GE635.out) | exact HB.out))) : w.heap.size ≤ gb636)); have n5_ := Aside0.mk ((by rw [hg]; exact Nat.ne_of_lt (blk_lt (g := gb635) (o := .cells #[.slice A0_0 l0_0.length c0_0, .slice A0_1 l0_1.length c0_1] 24 (0, 0)) (by (with_reducible repeat (first | refine blk_drewN ?_ _ | refine blk_drew ?_ | refine blk_alloc ?_ _)); exact BK635.out)) : gb635 ≠ gb636)); have n6_ := Aside0.mk ((by rw [hg]; exact Nat.ne_of_gt (blk_lt (g := gb635) (o := .cells #[.slice A0_0 l0_0.length c0_0, .slice A0_1 l0_1.length c0_1] 24 (0, 0)) (by (with_reducible repeat (first | refine blk_drewN ?_ _ | refine blk_drew ?_ | refine blk_alloc ?_ _)); exact BK635.out)) : gb636 ≠ gb635)); clear BK635; clear HB; have BK635 := n0_; have HB := n1_; have BK636 := n2_; have GW636 := n3_; have GE636 := n4_; have NB635_636 := n5_; have NB636_635 := n6_; clear n0_ n1_ n2_ n3_ n4_ n5_ n6_; clear hb hbox hg; have hnb8 := NB635_636.out; have hnc8 := NB636_635.out; have hcz9_0 : w7.cell? ⟨gb635, 0, none⟩ = some (.slice A0_0 l0_0.length c0_0) := (blk_cell BK635.out 0).trans rfl; have hcz9_1 : w7.cell? ⟨gb635, 1, none⟩ = some (.slice A0_1 l0_1.length c0_1) := (blk_cell BK635.out 1).trans rfl; have hfz9_0 := blk_frozen BK635.out 0; have hfz9_1 := blk_frozen BK635.out 1) | ((with_reducible refine gate_callee (f := 17) rfl ?_); refine goesL_ (some 14) rfl rfl Try.func17 (by kernel_rfl) rfl #[.agg #[.slice A0_0 l0_0.length c0_0, .slice A0_1 l0_1.length c0_1]] rfl (by (try simp only [List.map_toArray, List.map_cons, List.map_nil]); first | done | rfl | (simp only [List.length_drop, List.length_take]; rfl)) ?_; (with_reducible refine (tollgateref03_Copy.calls _ _ l0_0 _ _ l0_1 t637 t640 _ ?side1 ?side2 ?side3 ?side4 A3.out).mono ?_); (case side1 => repeat (first | exact (Kd.C_below HR0_0.out HB.out) | (with_reducible refine Kd.C_alloc ?_ _) | (with_reducible refine Kd.C_drewN ?_ _) | (with_reducible refine Kd.C_drew ?_))); (case side2 => exact HC0_0.out); (case side3 => repeat (first | exact (Kd.C_below HR0_1.out HB.out) | (with_reducible refine Kd.C_alloc ?_ _) | (with_reducible refine Kd.C_drewN ?_ _) | (with_reducible refine Kd.C_drew ?_))); (case side4 => exact HC0_1.out); rintro e w10 ⟨v638, v641, rfl, ho0, ho1, hb⟩; refine ⟨_, rfl, ?_⟩; have n0_ := Aside0.mk (Kd.R_lower ho0 (below_size (by repeat (first | (with_reducible first | exact HB.out | apply below_alloc | apply pw_below_drewN | apply below_drew1 | refine below_set ?_ GE635.out | refine below_set ?_ GE636.out) | exact HB.out)))); have n1_ := Aside0.mk (Kd.R_lower ho1 (below_size (by repeat (first | (with_reducible first | exact HB.out | apply below_alloc | apply pw_below_drewN | apply below_drew1 | refine below_set ?_ GE635.out | refine below_set ?_ GE636.out) | exact HB.out)))); have n2_ := Aside0.mk (blk_below (g := gb635) (o := .cells #[.slice A0_0 l0_0.length c0_0, .slice A0_1 l0_1.length c0_1] 24 (0, 0)) (by (with_reducible repeat (first | refine blk_drewN ?_ _ | refine blk_drew ?_ | refine blk_alloc ?_ _)); exact BK635.out) hb); have n3_ := Aside0.mk (blk_below (g := gb636) (o := .cells #[.int .i64 a1_0, .int .i64 a1_1] 55 (0, 0)) (by (with_reducible repeat (first | refine blk_drewN ?_ _ | refine blk_drew ?_ | refine blk_alloc ?_ _)); exact BK636.out) hb); have n4_ := Aside0.mk (below_step (by repeat (first | (with_reducible first | exact HB.out | apply below_alloc | apply pw_below_drewN | apply below_drew1 | refine below_set ?_ GE635.out | refine below_set ?_ GE636.out) | exact HB.out)) hb); clear BK635; clear BK636; clear HB; have HO639 := n0_; have HO642 := n1_; have BK635 := n2_; have BK636 := n3_; have HB := n4_; clear n0_ n1_ n2_ n3_ n4_; (try clear hb); (try clear hb2); (try clear hk); (try clear hi); (try clear ho0); (try clear ho1)) | ((with_reducible refine gate_dst (N := 5) rfl ?_); refine box_event ?hg (N := 5) ?hd (cs := #[.slice none 0 0, .slice none 0 0]) (t := 24) ?hr ?_; (case hd => rfl); (case hg => rfl); (case hr => first | (go_simp; done) | (go_simp; rfl)); intro gb643 hg w11 hbox hb; have n0_ := Aside0.mk (Kd.R_below (by (with_reducible repeat (first | apply Kd.R_alloc | apply Kd.R_drewN | apply Kd.R_drew)); exact HO639.out) hb); have n1_ := Aside0.mk (Kd.R_below (by (with_reducible repeat (first | apply Kd.R_alloc | apply Kd.R_drewN | apply Kd.R_drew)); exact HO642.out) hb); have n2_ := Aside0.mk (blk_below (g := gb635) (o := .cells #[.slice A0_0 l0_0.length c0_0, .slice A0_1 l0_1.length c0_1] 24 (0, 0)) (by (with_reducible repeat (first | refine blk_drewN ?_ _ | refine blk_drew ?_ | refine blk_alloc ?_ _)); exact BK635.out) hb); have n3_ := Aside0.mk (blk_below (g := gb636) (o := .cells #[.int .i64 a1_0, .int .i64 a1_1] 55 (0, 0)) (by (with_reducible repeat (first | refine blk_drewN ?_ _ | refine blk_drew ?_ | refine blk_alloc ?_ _)); exact BK636.out) hb); have n4_ := Aside0.mk (below_step (by repeat (first | (with_reducible first | exact HB.out | apply below_alloc | apply pw_below_drewN | apply below_drew1 | refine below_set ?_ GE635.out | refine below_set ?_ GE636.out) | exact HB.out)) hb); have n5_ := Aside0.mk (hbox); have n6_ := Aside0.mk ((by rw [hg]; exact (below_size (by repeat (first | (with_reducible first | exact HB.out | apply below_alloc | apply pw_below_drewN | apply below_drew1 | refine below_set ?_ GE635.out | refine below_set ?_ GE636.out) | exact HB.out))) : w.heap.size ≤ gb643)); have n7_ := Aside0.mk ((by rw [hg]; exact (below_size (by repeat (first | (with_reducible first | exact HB.out | apply below_alloc | apply pw_below_drewN | apply below_drew1 | refine below_set ?_ GE635.out | refine below_set ?_ GE636.out) | exact HB.out))) : w.heap.size ≤ gb643)); have n8_ := Aside0.mk ((by rw [hg]; exact Nat.ne_of_lt (blk_lt (g := gb635) (o := .cells #[.slice A0_0 l0_0.length c0_0, .slice A0_1 l0_1.length c0_1] 24 (0, 0)) (by (with_reducible repeat (first | refine blk_drewN ?_ _ | refine blk_drew ?_ | refine blk_alloc ?_ _)); exact BK635.out)) : gb635 ≠ gb643)); have n9_ := Aside0.mk ((by rw [hg]; exact Nat.ne_of_gt (blk_lt (g := gb635) (o := .cells #[.slice A0_0 l0_0.length c0_0, .slice A0_1 l0_1.length c0_1] 24 (0, 0)) (by (with_reducible repeat (first | refine blk_drewN ?_ _ | refine blk_drew ?_ | refine blk_alloc ?_ _)); exact BK635.out)) : gb643 ≠ gb635)); have n10_ := Aside0.mk ((by rw [hg]; exact Nat.ne_of_lt (blk_lt (g := gb636) (o := .cells #[.int .i64 a1_0, .int .i64 a1_1] 55 (0, 0)) (by (with_reducible repeat (first | refine blk_drewN ?_ _ | refine blk_drew ?_ | refine blk_alloc ?_ _)); exact BK636.out)) : gb636 ≠ gb643)); have n11_ := Aside0.mk ((by rw [hg]; exact Nat.ne_of_gt (blk_lt (g := gb636) (o := .cells #[.int .i64 a1_0, .int .i64 a1_1] 55 (0, 0)) (by (with_reducible repeat (first | refine blk_drewN ?_ _ | refine blk_drew ?_ | refine blk_alloc ?_ _)); exact BK636.out)) : gb643 ≠ gb636)); clear HO639; clear HO642; clear BK635; clear BK636; clear HB; have HO639 := n0_; have HO642 := n1_; have BK635 := n2_; have BK636 := n3_; have HB := n4_; have BK643 := n5_; have GW643 := n6_; have GE643 := n7_; have NB635_643 := n8_; have NB643_635 := n9_; have NB636_643 := n10_; have NB643_636 := n11_; clear n0_ n1_ n2_ n3_ n4_ n5_ n6_ n7_ n8_ n9_ n10_ n11_; clear hb hbox hg; obtain ⟨Ao12, co12, eo12⟩ := Kd.R_slice HO639.out; subst eo12; have hnb13 := NB643_635.out; have hnc13 := NB635_643.out; have hnb14 := NB643_636.out; have hnc14 := NB636_643.out; have hcz15_0 : w11.cell? ⟨gb643, 0, none⟩ = some (.slice none 0 0) := (blk_cell BK643.out 0).trans rfl; have hcz15_1 : w11.cell? ⟨gb643, 1, none⟩ = some (.slice none 0 0) := (blk_cell BK643.out 1).trans rfl; have hfz15_0 := blk_frozen BK643.out 0; have hfz15_1 := blk_frozen BK643.out 1; obtain ⟨Ao16, co16, eo16⟩ := Kd.R_slice HO642.out; subst eo16; have hcz17_0 : w11.cell? ⟨gb636, 0, none⟩ = some (.int .i64 a1_0) := (blk_cell BK636.out 0).trans rfl; have hcz17_1 : w11.cell? ⟨gb636, 1, none⟩ = some (.int .i64 a1_1) := (blk_cell BK636.out 1).trans rfl; have hfz17_0 := blk_frozen BK636.out 0; have hfz17_1 := blk_frozen BK636.out 1) | ((with_reducible refine gate_callee (f := 40) rfl ?_); refine goesL_ (some 18) rfl rfl Try.func40 (by kernel_rfl) rfl #[.agg #[.slice Ao12 t637.length co12, .slice Ao16 t640.length co16], .agg #[.int .i64 a1_0, .int .i64 a1_1]] rfl (by (try simp only [List.map_toArray, List.map_cons, List.map_nil]); first | done | rfl | (simp only [List.length_drop, List.length_take]; rfl)) ?_; (with_reducible refine (member_Apply.calls k _ _ t637 _ _ t640 a1_0 a1_1 t644 t647 t650 _ ?side1 ?side2 ?side3 ?side4 A4.out).mono ?_); (case side1 => refine (Kd.R_reads' (e := 3) (base := w.heap.size) (ok := fun k_ => some k_ ≠ (.slice Ao16 t640.length co16 : Value).ownBlock) (n := t637.length) (c := co12) ?_).2.2; exact (by (with_reducible repeat (first | apply Kd.R_alloc | apply Kd.R_drewN | apply Kd.R_drew)); exact (Kd.R_mono (Kd.R_far (p := ⟨gb643, 1, none⟩) (Kd.R_far (p := ⟨gb643, 0, none⟩) (Kd.R_types HO639.out BK643.out (by decide)) (fun _ hk => hk.2) (.slice Ao12 t637.length co12)) (fun _ hk => hk.2) (.slice Ao16 t640.length co16)) (fun _ h_ => h_.1)))); (case side2 => exact (Kd.R_reads' HO639.out).2.1); (case side3 => refine (Kd.R_reads' (e := 3) (base := w.heap.size) (ok := fun k_ => some k_ ≠ (.slice Ao12 t637.length co12 : Value).ownBlock) (n := t640.length) (c := co16) ?_).2.2; exact (by (with_reducible repeat (first | apply Kd.R_alloc | apply Kd.R_drewN | apply Kd.R_drew)); exact (Kd.R_mono (Kd.R_far (p := ⟨gb643, 1, none⟩) (Kd.R_far (p := ⟨gb643, 0, none⟩) (Kd.R_types HO642.out BK643.out (by decide)) (fun _ hk => hk.2) (.slice Ao12 t637.length co12)) (fun _ hk => hk.2) (.slice Ao16 t640.length co16)) (fun _ h_ => h_.1)))); (case side4 => exact (Kd.R_reads' HO642.out).2.1); rintro e w18 ⟨v645, v648, rfl, ho0, ho1, hb⟩; refine ⟨_, rfl, ?_⟩; have n0_ := Aside0.mk (Kd.R_mono (Kd.R_told (Kd.R_told (Kd.R_old (by (with_reducible repeat (first | apply Kd.R_alloc | apply Kd.R_drewN | apply Kd.R_drew)); exact (Kd.R_mono (Kd.R_far (p := ⟨gb643, 1, none⟩) (Kd.R_far (p := ⟨gb643, 0, none⟩) (Kd.R_types HO639.out BK643.out (by decide)) (fun _ hk => hk.2) (.slice Ao12 t637.length co12)) (fun _ hk => hk.2) (.slice Ao16 t640.length co16)) (fun _ h_ => h_.1))) hb) (Kd.R_base ho0)) (Kd.R_base ho1)) (fun _ h_ => h_.1)); have n1_ := Aside0.mk (Kd.R_mono (Kd.R_told (Kd.R_told (Kd.R_old (by (with_reducible repeat (first | apply Kd.R_alloc | apply Kd.R_drewN | apply Kd.R_drew)); exact (Kd.R_mono (Kd.R_far (p := ⟨gb643, 1, none⟩) (Kd.R_far (p := ⟨gb643, 0, none⟩) (Kd.R_types HO642.out BK643.out (by decide)) (fun _ hk => hk.2) (.slice Ao12 t637.length co12)) (fun _ hk => hk.2) (.slice Ao16 t640.length co16)) (fun _ h_ => h_.1))) hb) (Kd.R_base ho0)) (Kd.R_base ho1)) (fun _ h_ => h_.1)); have n2_ := Aside0.mk (Kd.R_lower (Kd.R_new' (Kd.R_new' ho0 (Kd.R_lt (by (with_reducible repeat (first | apply Kd.R_alloc | apply Kd.R_drewN | apply Kd.R_drew)); exact (Kd.R_mono (Kd.R_far (p := ⟨gb643, 1, none⟩) (Kd.R_far (p := ⟨gb643, 0, none⟩) (Kd.R_types HO639.out BK643.out (by decide)) (fun _ hk => hk.2) (.slice Ao12 t637.length co12)) (fun _ hk => hk.2) (.slice Ao16 t640.length co16)) (fun _ h_ => h_.1))))) (Kd.R_lt (by (with_reducible repeat (first | apply Kd.R_alloc | apply Kd.R_drewN | apply Kd.R_drew)); exact (Kd.R_mono (Kd.R_far (p := ⟨gb643, 1, none⟩) (Kd.R_far (p := ⟨gb643, 0, none⟩) (Kd.R_types HO642.out BK643.out (by decide)) (fun _ hk => hk.2) (.slice Ao12 t637.length co12)) (fun _ hk => hk.2) (.slice Ao16 t640.length co16)) (fun _ h_ => h_.1))))) (below_size (by repeat (first | (with_reducible first | exact HB.out | apply below_alloc | apply pw_below_drewN | apply below_drew1 | refine below_set ?_ GE635.out | refine below_set ?_ GE636.out | refine below_set ?_ GE643.out) | exact HB.out)))); have n3_ := Aside0.mk (Kd.R_lower (Kd.R_new' (Kd.R_new' ho1 (Kd.R_lt (by (with_reducible repeat (first | apply Kd.R_alloc | apply Kd.R_drewN | apply Kd.R_drew)); exact (Kd.R_mono (Kd.R_far (p := ⟨gb643, 1, none⟩) (Kd.R_far (p := ⟨gb643, 0, none⟩) (Kd.R_types HO639.out BK643.out (by decide)) (fun _ hk => hk.2) (.slice Ao12 t637.length co12)) (fun _ hk => hk.2) (.slice Ao16 t640.length co16)) (fun _ h_ => h_.1))))) (Kd.R_lt (by (with_reducible repeat (first | apply Kd.R_alloc | apply Kd.R_drewN | apply Kd.R_drew)); exact (Kd.R_mono (Kd.R_far (p := ⟨gb643, 1, none⟩) (Kd.R_far (p := ⟨gb643, 0, none⟩) (Kd.R_types HO642.out BK643.out (by decide)) (fun _ hk => hk.2) (.slice Ao12 t637.length co12)) (fun _ hk => hk.2) (.slice Ao16 t640.length co16)) (fun _ h_ => h_.1))))) (below_size (by repeat (first | (with_reducible first | exact HB.out | apply below_alloc | apply pw_below_drewN | apply below_drew1 | refine below_set ?_ GE635.out | refine below_set ?_ GE636.out | refine below_set ?_ GE643.out) | exact HB.out)))); have n4_ := Aside0.mk (blk_below (g := gb635) (o := .cells #[.slice A0_0 l0_0.length c0_0, .slice A0_1 l0_1.length c0_1] 24 (0, 0)) (by (with_reducible repeat (first | refine blk_drewN ?_ _ | refine blk_drew ?_ | refine blk_alloc ?_ _)); refine blk_far ?_ NB635_643.out _; (with_reducible repeat (first | refine blk_drewN ?_ _ | refine blk_drew ?_ | refine blk_alloc ?_ _)); refine blk_far ?_ NB635_643.out _; (with_reducible repeat (first | refine blk_drewN ?_ _ | refine blk_drew ?_ | refine blk_alloc ?_ _)); exact BK635.out) hb); have n5_ := Aside0.mk (blk_below (g := gb636) (o := .cells #[.int .i64 a1_0, .int .i64 a1_1] 55 (0, 0)) (by (with_reducible repeat (first | refine blk_drewN ?_ _ | refine blk_drew ?_ | refine blk_alloc ?_ _)); refine blk_far ?_ NB636_643.out _; (with_reducible repeat (first | refine blk_drewN ?_ _ | refine blk_drew ?_ | refine blk_alloc ?_ _)); refine blk_far ?_ NB636_643.out _; (with_reducible repeat (first | refine blk_drewN ?_ _ | refine blk_drew ?_ | refine blk_alloc ?_ _)); exact BK636.out) hb); have n6_ := Aside0.mk (blk_below (g := gb643) (o := .cells #[.slice Ao12 t637.length co12, .slice Ao16 t640.length co16] 24 (0, 0)) (by (with_reducible repeat (first | refine blk_drewN ?_ _ | refine blk_drew ?_ | refine blk_alloc ?_ _)); refine blk_put (cs := #[.slice Ao12 t637.length co12, .slice none 0 0]) ?_ 1 _ rfl; (with_reducible repeat (first | refine blk_drewN ?_ _ | refine blk_drew ?_ | refine blk_alloc ?_ _)); refine blk_put (cs := #[.slice none 0 0, .slice none 0 0]) ?_ 0 _ rfl; (with_reducible repeat (first | refine blk_drewN ?_ _ | refine blk_drew ?_ | refine blk_alloc ?_ _)); exact BK643.out) hb); have n7_ := Aside0.mk (below_step (by repeat (first | (with_reducible first | exact HB.out | apply below_alloc | apply pw_below_drewN | apply below_drew1 | refine below_set ?_ GE635.out | refine below_set ?_ GE636.out | refine below_set ?_ GE643.out) | exact HB.out)) hb); clear HO639; clear HO642; clear BK635; clear BK636; clear BK643; clear HB; have HO639 := n0_; have HO642 := n1_; have HO646 := n2_; have HO649 := n3_; have BK635 := n4_; have BK636 := n5_; have BK643 := n6_; have HB := n7_; clear n0_ n1_ n2_ n3_ n4_ n5_ n6_ n7_; (try clear hb); (try clear hb2); (try clear hk); (try clear hi); (try clear ho0); (try clear ho1)) | ((with_reducible refine gate_dst (N := 6) rfl ?_); refine box_event ?hg (N := 6) ?hd (cs := #[.slice none 0 0, .slice none 0 0]) (t := 24) ?hr ?_; (case hd => rfl); (case hg => rfl); (case hr => first | (go_simp; done) | (go_simp; rfl)); intro gb651 hg w19 hbox hb; have n0_ := Aside0.mk (Kd.R_below (by (with_reducible repeat (first | apply Kd.R_alloc | apply Kd.R_drewN | apply Kd.R_drew)); exact HO639.out) hb); have n1_ := Aside0.mk (Kd.R_below (by (with_reducible repeat (first | apply Kd.R_alloc | apply Kd.R_drewN | apply Kd.R_drew)); exact HO642.out) hb); have n2_ := Aside0.mk (Kd.R_below (by (with_reducible repeat (first | apply Kd.R_alloc | apply Kd.R_drewN | apply Kd.R_drew)); exact HO646.out) hb); have n3_ := Aside0.mk (Kd.R_below (by (with_reducible repeat (first | apply Kd.R_alloc | apply Kd.R_drewN | apply Kd.R_drew)); exact HO649.out) hb); have n4_ := Aside0.mk (blk_below (g := gb635) (o := .cells #[.slice A0_0 l0_0.length c0_0, .slice A0_1 l0_1.length c0_1] 24 (0, 0)) (by (with_reducible repeat (first | refine blk_drewN ?_ _ | refine blk_drew ?_ | refine blk_alloc ?_ _)); exact BK635.out) hb); have n5_ := Aside0.mk (blk_below (g := gb636) (o := .cells #[.int .i64 a1_0, .int .i64 a1_1] 55 (0, 0)) (by (with_reducible repeat (first | refine blk_drewN ?_ _ | refine blk_drew ?_ | refine blk_alloc ?_ _)); exact BK636.out) hb); have n6_ := Aside0.mk (blk_below (g := gb643) (o := .cells #[.slice Ao12 t637.length co12, .slice Ao16 t640.length co16] 24 (0, 0)) (by (with_reducible repeat (first | refine blk_drewN ?_ _ | refine blk_drew ?_ | refine blk_alloc ?_ _)); exact BK643.out) hb); have n7_ := Aside0.mk (below_step (by repeat (first | (with_reducible first | exact HB.out | apply below_alloc | apply pw_below_drewN | apply below_drew1 | refine below_set ?_ GE635.out | refine below_set ?_ GE636.out | refine below_set ?_ GE643.out) | exact HB.out)) hb); have n8_ := Aside0.mk (hbox); have n9_ := Aside0.mk ((by rw [hg]; exact (below_size (by repeat (first | (with_reducible first | exact HB.out | apply below_alloc | apply pw_below_drewN | apply below_drew1 | refine below_set ?_ GE635.out | refine below_set ?_ GE636.out | refine below_set ?_ GE643.out) | exact HB.out))) : w.heap.size ≤ gb651)); have n10_ := Aside0.mk ((by rw [hg]; exact (below_size (by repeat (first | (with_reducible first | exact HB.out | apply below_alloc | apply pw_below_drewN | apply below_drew1 | refine below_set ?_ GE635.out | refine below_set ?_ GE636.out | refine below_set ?_ GE643.out) | exact HB.out))) : w.heap.size ≤ gb651)); have n11_ := Aside0.mk ((by rw [hg]; exact Nat.ne_of_lt (blk_lt (g := gb635) (o := .cells #[.slice A0_0 l0_0.length c0_0, .slice A0_1 l0_1.length c0_1] 24 (0, 0)) (by (with_reducible repeat (first | refine blk_drewN ?_ _ | refine blk_drew ?_ | refine blk_alloc ?_ _)); exact BK635.out)) : gb635 ≠ gb651)); have n12_ := Aside0.mk ((by rw [hg]; exact Nat.ne_of_gt (blk_lt (g := gb635) (o := .cells #[.slice A0_0 l0_0.length c0_0, .slice A0_1 l0_1.length c0_1] 24 (0, 0)) (by (with_reducible repeat (first | refine blk_drewN ?_ _ | refine blk_drew ?_ | refine blk_alloc ?_ _)); exact BK635.out)) : gb651 ≠ gb635)); have n13_ := Aside0.mk ((by rw [hg]; exact Nat.ne_of_lt (blk_lt (g := gb636) (o := .cells #[.int .i64 a1_0, .int .i64 a1_1] 55 (0, 0)) (by (with_reducible repeat (first | refine blk_drewN ?_ _ | refine blk_drew ?_ | refine blk_alloc ?_ _)); exact BK636.out)) : gb636 ≠ gb651)); have n14_ := Aside0.mk ((by rw [hg]; exact Nat.ne_of_gt (blk_lt (g := gb636) (o := .cells #[.int .i64 a1_0, .int .i64 a1_1] 55 (0, 0)) (by (with_reducible repeat (first | refine blk_drewN ?_ _ | refine blk_drew ?_ | refine blk_alloc ?_ _)); exact BK636.out)) : gb651 ≠ gb636)); have n15_ := Aside0.mk ((by rw [hg]; exact Nat.ne_of_lt (blk_lt (g := gb643) (o := .cells #[.slice Ao12 t637.length co12, .slice Ao16 t640.length co16] 24 (0, 0)) (by (with_reducible repeat (first | refine blk_drewN ?_ _ | refine blk_drew ?_ | refine blk_alloc ?_ _)); exact BK643.out)) : gb643 ≠ gb651)); have n16_ := Aside0.mk ((by rw [hg]; exact Nat.ne_of_gt (blk_lt (g := gb643) (o := .cells #[.slice Ao12 t637.length co12, .slice Ao16 t640.length co16] 24 (0, 0)) (by (with_reducible repeat (first | refine blk_drewN ?_ _ | refine blk_drew ?_ | refine blk_alloc ?_ _)); exact BK643.out)) : gb651 ≠ gb643)); clear HO639; clear HO642; clear HO646; clear HO649; clear BK635; clear BK636; clear BK643; clear HB; have HO639 := n0_; have HO642 := n1_; have HO646 := n2_; have HO649 := n3_; have BK635 := n4_; have BK636 := n5_; have BK643 := n6_; have HB := n7_; have BK651 := n8_; have GW651 := n9_; have GE651 := n10_; have NB635_651 := n11_; have NB651_635 := n12_; have NB636_651 := n13_; have NB651_636 := n14_; have NB643_651 := n15_; have NB651_643 := n16_; clear n0_ n1_ n2_ n3_ n4_ n5_ n6_ n7_ n8_ n9_ n10_ n11_ n12_ n13_ n14_ n15_ n16_; clear hb hbox hg; obtain ⟨Ao20, co20, eo20⟩ := Kd.R_slice HO646.out; subst eo20; have hnb21 := NB651_635.out; have hnc21 := NB635_651.out; have hnb22 := NB651_636.out; have hnc22 := NB636_651.out; have hnb23 := NB651_643.out; have hnc23 := NB643_651.out; have hcz24_0 : w19.cell? ⟨gb651, 0, none⟩ = some (.slice none 0 0) := (blk_cell BK651.out 0).trans rfl; have hcz24_1 : w19.cell? ⟨gb651, 1, none⟩ = some (.slice none 0 0) := (blk_cell BK651.out 1).trans rfl; have hfz24_0 := blk_frozen BK651.out 0; have hfz24_1 := blk_frozen BK651.out 1; obtain ⟨Ao25, co25, eo25⟩ := Kd.R_slice HO649.out; subst eo25; have hcz26_0 : w19.cell? ⟨gb643, 0, none⟩ = some (.slice Ao12 t637.length co12) := (blk_cell BK643.out 0).trans rfl; have hcz26_1 : w19.cell? ⟨gb643, 1, none⟩ = some (.slice Ao16 t640.length co16) := (blk_cell BK643.out 1).trans rfl; have hfz26_0 := blk_frozen BK643.out 0; have hfz26_1 := blk_frozen BK643.out 1) | ((with_reducible refine gate_callee (f := 28) rfl ?_); refine goesL_ (some 22) rfl rfl Try.func28 (by kernel_rfl) rfl #[.agg #[.slice Ao12 t637.length co12, .slice Ao16 t640.length co16]] rfl (by (try simp only [List.map_toArray, List.map_cons, List.map_nil]); first | done | rfl | (simp only [List.length_drop, List.length_take]; rfl)) ?_; (with_reducible refine (member_All.calls _ _ t637 _ _ t640 t652 _ ?side1 ?side2 ?side3 ?side4 A5.out).mono ?_); (case side1 => refine (Kd.R_reads' (e := 3) (base := w.heap.size) (ok := fun k_ => ((some k_ ≠ (.slice Ao16 t640.length co16 : Value).ownBlock ∧ some k_ ≠ (.slice Ao20 t644.length co20 : Value).ownBlock) ∧ some k_ ≠ (.slice Ao25 t647.length co25 : Value).ownBlock)) (n := t637.length) (c := co12) ?_).2.2; exact (by (with_reducible repeat (first | apply Kd.R_alloc | apply Kd.R_drewN | apply Kd.R_drew)); exact (Kd.R_mono (Kd.R_far (p := ⟨gb651, 1, none⟩) (Kd.R_far (p := ⟨gb651, 0, none⟩) (Kd.R_types HO639.out BK651.out (by decide)) (fun _ hk => hk.2) (.slice Ao20 t644.length co20)) (fun _ hk => hk.2) (.slice Ao25 t647.length co25)) (fun _ h_ => h_.1)))); (case side2 => exact (Kd.R_reads' HO639.out).2.1); (case side3 => refine (Kd.R_reads' (e := 3) (base := w.heap.size) (ok := fun k_ => ((some k_ ≠ (.slice Ao12 t637.length co12 : Value).ownBlock ∧ some k_ ≠ (.slice Ao20 t644.length co20 : Value).ownBlock) ∧ some k_ ≠ (.slice Ao25 t647.length co25 : Value).ownBlock)) (n := t640.length) (c := co16) ?_).2.2; exact (by (with_reducible repeat (first | apply Kd.R_alloc | apply Kd.R_drewN | apply Kd.R_drew)); exact (Kd.R_mono (Kd.R_far (p := ⟨gb651, 1, none⟩) (Kd.R_far (p := ⟨gb651, 0, none⟩) (Kd.R_types HO642.out BK651.out (by decide)) (fun _ hk => hk.2) (.slice Ao20 t644.length co20)) (fun _ hk => hk.2) (.slice Ao25 t647.length co25)) (fun _ h_ => h_.1)))); (case side4 => exact (Kd.R_reads' HO642.out).2.1); rintro e w27 ⟨v653, rfl, ho0, hb⟩; refine ⟨_, rfl, ?_⟩; have n0_ := Aside0.mk (Kd.R_elder' (by (with_reducible repeat (first | apply Kd.R_alloc | apply Kd.R_drewN | apply Kd.R_drew)); exact (Kd.R_mono (Kd.R_far (p := ⟨gb651, 1, none⟩) (Kd.R_far (p := ⟨gb651, 0, none⟩) (Kd.R_types HO639.out BK651.out (by decide)) (fun _ hk => hk.2) (.slice Ao20 t644.length co20)) (fun _ hk => hk.2) (.slice Ao25 t647.length co25)) (fun _ h_ => h_.1))) (Kd.R_base ho0) hb); have n1_ := Aside0.mk (Kd.R_elder' (by (with_reducible repeat (first | apply Kd.R_alloc | apply Kd.R_drewN | apply Kd.R_drew)); exact (Kd.R_mono (Kd.R_far (p := ⟨gb651, 1, none⟩) (Kd.R_far (p := ⟨gb651, 0, none⟩) (Kd.R_types HO642.out BK651.out (by decide)) (fun _ hk => hk.2) (.slice Ao20 t644.length co20)) (fun _ hk => hk.2) (.slice Ao25 t647.length co25)) (fun _ h_ => h_.1))) (Kd.R_base ho0) hb); have n2_ := Aside0.mk (Kd.R_elder' (by (with_reducible repeat (first | apply Kd.R_alloc | apply Kd.R_drewN | apply Kd.R_drew)); exact (Kd.R_mono (Kd.R_far (p := ⟨gb651, 1, none⟩) (Kd.R_far (p := ⟨gb651, 0, none⟩) (Kd.R_types HO646.out BK651.out (by decide)) (fun _ hk => hk.2) (.slice Ao20 t644.length co20)) (fun _ hk => hk.2) (.slice Ao25 t647.length co25)) (fun _ h_ => h_.1))) (Kd.R_base ho0) hb); have n3_ := Aside0.mk (Kd.R_elder' (by (with_reducible repeat (first | apply Kd.R_alloc | apply Kd.R_drewN | apply Kd.R_drew)); exact (Kd.R_mono (Kd.R_far (p := ⟨gb651, 1, none⟩) (Kd.R_far (p := ⟨gb651, 0, none⟩) (Kd.R_types HO649.out BK651.out (by decide)) (fun _ hk => hk.2) (.slice Ao20 t644.length co20)) (fun _ hk => hk.2) (.slice Ao25 t647.length co25)) (fun _ h_ => h_.1))) (Kd.R_base ho0) hb); have n4_ := Aside0.mk (Kd.R_lower (Kd.R_new' (Kd.R_new' (Kd.R_new' (Kd.R_new' ho0 (Kd.R_lt (by (with_reducible repeat (first | apply Kd.R_alloc | apply Kd.R_drewN | apply Kd.R_drew)); exact (Kd.R_mono (Kd.R_far (p := ⟨gb651, 1, none⟩) (Kd.R_far (p := ⟨gb651, 0, none⟩) (Kd.R_types HO639.out BK651.out (by decide)) (fun _ hk => hk.2) (.slice Ao20 t644.length co20)) (fun _ hk => hk.2) (.slice Ao25 t647.length co25)) (fun _ h_ => h_.1))))) (Kd.R_lt (by (with_reducible repeat (first | apply Kd.R_alloc | apply Kd.R_drewN | apply Kd.R_drew)); exact (Kd.R_mono (Kd.R_far (p := ⟨gb651, 1, none⟩) (Kd.R_far (p := ⟨gb651, 0, none⟩) (Kd.R_types HO642.out BK651.out (by decide)) (fun _ hk => hk.2) (.slice Ao20 t644.length co20)) (fun _ hk => hk.2) (.slice Ao25 t647.length co25)) (fun _ h_ => h_.1))))) (Kd.R_lt (by (with_reducible repeat (first | apply Kd.R_alloc | apply Kd.R_drewN | apply Kd.R_drew)); exact (Kd.R_mono (Kd.R_far (p := ⟨gb651, 1, none⟩) (Kd.R_far (p := ⟨gb651, 0, none⟩) (Kd.R_types HO646.out BK651.out (by decide)) (fun _ hk => hk.2) (.slice Ao20 t644.length co20)) (fun _ hk => hk.2) (.slice Ao25 t647.length co25)) (fun _ h_ => h_.1))))) (Kd.R_lt (by (with_reducible repeat (first | apply Kd.R_alloc | apply Kd.R_drewN | apply Kd.R_drew)); exact (Kd.R_mono (Kd.R_far (p := ⟨gb651, 1, none⟩) (Kd.R_far (p := ⟨gb651, 0, none⟩) (Kd.R_types HO649.out BK651.out (by decide)) (fun _ hk => hk.2) (.slice Ao20 t644.length co20)) (fun _ hk => hk.2) (.slice Ao25 t647.length co25)) (fun _ h_ => h_.1))))) (below_size (by repeat (first | (with_reducible first | exact HB.out | apply below_alloc | apply pw_below_drewN | apply below_drew1 | refine below_set ?_ GE635.out | refine below_set ?_ GE636.out | refine below_set ?_ GE643.out | refine below_set ?_ GE651.out) | exact HB.out)))); have n5_ := Aside0.mk (blk_below (g := gb635) (o := .cells #[.slice A0_0 l0_0.length c0_0, .slice A0_1 l0_1.length c0_1] 24 (0, 0)) (by (with_reducible repeat (first | refine blk_drewN ?_ _ | refine blk_drew ?_ | refine blk_alloc ?_ _)); refine blk_far ?_ NB635_651.out _; (with_reducible repeat (first | refine blk_drewN ?_ _ | refine blk_drew ?_ | refine blk_alloc ?_ _)); refine blk_far ?_ NB635_651.out _; (with_reducible repeat (first | refine blk_drewN ?_ _ | refine blk_drew ?_ | refine blk_alloc ?_ _)); exact BK635.out) hb); have n6_ := Aside0.mk (blk_below (g := gb636) (o := .cells #[.int .i64 a1_0, .int .i64 a1_1] 55 (0, 0)) (by (with_reducible repeat (first | refine blk_drewN ?_ _ | refine blk_drew ?_ | refine blk_alloc ?_ _)); refine blk_far ?_ NB636_651.out _; (with_reducible repeat (first | refine blk_drewN ?_ _ | refine blk_drew ?_ | refine blk_alloc ?_ _)); refine blk_far ?_ NB636_651.out _; (with_reducible repeat (first | refine blk_drewN ?_ _ | refine blk_drew ?_ | refine blk_alloc ?_ _)); exact BK636.out) hb); have n7_ := Aside0.mk (blk_below (g := gb643) (o := .cells #[.slice Ao12 t637.length co12, .slice Ao16 t640.length co16] 24 (0, 0)) (by (with_reducible repeat (first | refine blk_drewN ?_ _ | refine blk_drew ?_ | refine blk_alloc ?_ _)); refine blk_far ?_ NB643_651.out _; (with_reducible repeat (first | refine blk_drewN ?_ _ | refine blk_drew ?_ | refine blk_alloc ?_ _)); refine blk_far ?_ NB643_651.out _; (with_reducible repeat (first | refine blk_drewN ?_ _ | refine blk_drew ?_ | refine blk_alloc ?_ _)); exact BK643.out) hb); have n8_ := Aside0.mk (blk_below (g := gb651) (o := .cells #[.slice Ao20 t644.length co20, .slice Ao25 t647.length co25] 24 (0, 0)) (by (with_reducible repeat (first | refine blk_drewN ?_ _ | refine blk_drew ?_ | refine blk_alloc ?_ _)); refine blk_put (cs := #[.slice Ao20 t644.length co20, .slice none 0 0]) ?_ 1 _ rfl; (with_reducible repeat (first | refine blk_drewN ?_ _ | refine blk_drew ?_ | refine blk_alloc ?_ _)); refine blk_put (cs := #[.slice none 0 0, .slice none 0 0]) ?_ 0 _ rfl; (with_reducible repeat (first | refine blk_drewN ?_ _ | refine blk_drew ?_ | refine blk_alloc ?_ _)); exact BK651.out) hb); have n9_ := Aside0.mk (below_step (by repeat (first | (with_reducible first | exact HB.out | apply below_alloc | apply pw_below_drewN | apply below_drew1 | refine below_set ?_ GE635.out | refine below_set ?_ GE636.out | refine below_set ?_ GE643.out | refine below_set ?_ GE651.out) | exact HB.out)) hb); clear HO639; clear HO642; clear HO646; clear HO649; clear BK635; clear BK636; clear BK643; clear BK651; clear HB; have HO639 := n0_; have HO642 := n1_; have HO646 := n2_; have HO649 := n3_; have HO654 := n4_; have BK635 := n5_; have BK636 := n6_; have BK643 := n7_; have BK651 := n8_; have HB := n9_; clear n0_ n1_ n2_ n3_ n4_ n5_ n6_ n7_ n8_ n9_; (try clear hb); (try clear hb2); (try clear hk); (try clear hi); (try clear ho0)))
  go_loopg [9] k (fun kq v9 w' => ∃ (x8_1 : List Int) (x9_1 : Int), v9 = .int .i64 x9_1 ∧ Aside0 (tollgatelaw03_MemberOwn.l0 kq t650 x8_1 x9_1 l0_0 l0_1 t637 t640 t644 t647 = some r) ∧ Aside0 (kq ≤ k) ∧ Aside0 (Kd.R (Kd.int .i64) 3 w' w.heap.size (fun k_ => some k_ ≠ ((.slice Ao12 t637.length co12) : Value).ownBlock ∧ some k_ ≠ ((.slice Ao16 t640.length co16) : Value).ownBlock ∧ some k_ ≠ ((.slice Ao20 t644.length co20) : Value).ownBlock ∧ some k_ ≠ ((.slice Ao25 t647.length co25) : Value).ownBlock) v653 x8_1) ∧ Aside0 (Kd.R (Kd.int .i64) 3 w' w.heap.size (fun k_ => some k_ ≠ (v653 : Value).ownBlock ∧ some k_ ≠ ((.slice Ao16 t640.length co16) : Value).ownBlock ∧ some k_ ≠ ((.slice Ao20 t644.length co20) : Value).ownBlock ∧ some k_ ≠ ((.slice Ao25 t647.length co25) : Value).ownBlock) (.slice Ao12 t637.length co12) t637) ∧ Aside0 (Kd.R (Kd.int .i64) 3 w' w.heap.size (fun k_ => some k_ ≠ (v653 : Value).ownBlock ∧ some k_ ≠ ((.slice Ao12 t637.length co12) : Value).ownBlock ∧ some k_ ≠ ((.slice Ao20 t644.length co20) : Value).ownBlock ∧ some k_ ≠ ((.slice Ao25 t647.length co25) : Value).ownBlock) (.slice Ao16 t640.length co16) t640) ∧ Aside0 (Kd.R (Kd.int .i64) 3 w' w.heap.size (fun k_ => some k_ ≠ (v653 : Value).ownBlock ∧ some k_ ≠ ((.slice Ao12 t637.length co12) : Value).ownBlock ∧ some k_ ≠ ((.slice Ao16 t640.length co16) : Value).ownBlock ∧ some k_ ≠ ((.slice Ao25 t647.length co25) : Value).ownBlock) (.slice Ao20 t644.length co20) t644) ∧ Aside0 (Kd.R (Kd.int .i64) 3 w' w.heap.size (fun k_ => some k_ ≠ (v653 : Value).ownBlock ∧ some k_ ≠ ((.slice Ao12 t637.length co12) : Value).ownBlock ∧ some k_ ≠ ((.slice Ao16 t640.length co16) : Value).ownBlock ∧ some k_ ≠ ((.slice Ao20 t644.length co20) : Value).ownBlock) (.slice Ao25 t647.length co25) t647) ∧ Aside0 (w'.heap[gb635]? = some (.cells #[(.slice A0_0 l0_0.length c0_0), (.slice A0_1 l0_1.length c0_1)] 24 (0, 0))) ∧ Aside0 (w'.heap[gb636]? = some (.cells #[.int .i64 a1_0, .int .i64 a1_1] 55 (0, 0))) ∧ Aside0 (w'.heap[gb643]? = some (.cells #[(.slice Ao12 t637.length co12), (.slice Ao16 t640.length co16)] 24 (0, 0))) ∧ Aside0 (w'.heap[gb651]? = some (.cells #[(.slice Ao20 t644.length co20), (.slice Ao25 t647.length co25)] 24 (0, 0))) ∧ Aside0 (Below w.heap.size w w'))
  case atStart => exact ⟨(t652), (0), (by first | rfl | (simp; done) | (simp [*]; done)), H', ⟨Nat.le_refl _⟩, ⟨by (with_reducible repeat (first | apply Kd.R_alloc | apply Kd.R_drewN | apply Kd.R_drew)); exact Kd.R_mono HO654.out (fun _ hk => ⟨hk.1.1.1.2, ⟨hk.1.1.2, ⟨hk.1.2, hk.2⟩⟩⟩)⟩, ⟨by (with_reducible repeat (first | apply Kd.R_alloc | apply Kd.R_drewN | apply Kd.R_drew)); exact Kd.R_mono HO639.out (fun _ hk => ⟨hk.2, ⟨hk.1.1.1, ⟨hk.1.1.2, hk.1.2⟩⟩⟩)⟩, ⟨by (with_reducible repeat (first | apply Kd.R_alloc | apply Kd.R_drewN | apply Kd.R_drew)); exact Kd.R_mono HO642.out (fun _ hk => ⟨hk.2, ⟨hk.1.1.1, ⟨hk.1.1.2, hk.1.2⟩⟩⟩)⟩, ⟨by (with_reducible repeat (first | apply Kd.R_alloc | apply Kd.R_drewN | apply Kd.R_drew)); exact Kd.R_mono HO646.out (fun _ hk => ⟨hk.2, ⟨hk.1.1.2, ⟨hk.1.2, hk.1.1.1⟩⟩⟩)⟩, ⟨by (with_reducible repeat (first | apply Kd.R_alloc | apply Kd.R_drewN | apply Kd.R_drew)); exact Kd.R_mono HO649.out (fun _ hk => ⟨hk.2, ⟨hk.1.1.2, ⟨hk.1.2, hk.1.1.1⟩⟩⟩)⟩, ⟨by (with_reducible repeat (first | refine blk_drewN ?_ _ | refine blk_drew ?_ | refine blk_alloc ?_ _)); exact BK635.out⟩, ⟨by (with_reducible repeat (first | refine blk_drewN ?_ _ | refine blk_drew ?_ | refine blk_alloc ?_ _)); exact BK636.out⟩, ⟨by (with_reducible repeat (first | refine blk_drewN ?_ _ | refine blk_drew ?_ | refine blk_alloc ?_ _)); exact BK643.out⟩, ⟨by (with_reducible repeat (first | refine blk_drewN ?_ _ | refine blk_drew ?_ | refine blk_alloc ?_ _)); exact BK651.out⟩, ⟨by repeat (first | (with_reducible first | exact HB.out | apply below_alloc | apply pw_below_drewN | apply below_drew1 | refine below_set ?_ GE635.out | refine below_set ?_ GE636.out | refine below_set ?_ GE643.out | refine below_set ?_ GE651.out) | exact HB.out)⟩⟩
  case round =>
    clear H'
    try clear c1
    try clear c2
    try clear p2
    try clear c4
    try clear c8
    try clear c13
    try clear c14
    try clear c16
    try clear c17
    try clear c21
    try clear c22
    try clear c23
    try clear hcz15_0
    try clear hcz15_1
    try clear hcz17_0
    try clear hcz17_1
    try clear hcz24_0
    try clear hcz24_1
    try clear hcz26_0
    try clear hcz26_1
    try clear hcz9_0
    try clear hcz9_1
    try clear hfz15_0
    try clear hfz15_1
    try clear hfz17_0
    try clear hfz17_1
    try clear hfz24_0
    try clear hfz24_1
    try clear hfz26_0
    try clear hfz26_1
    try clear hfz9_0
    try clear hfz9_1
    obtain ⟨x8_1, x9_1, rfl, HA, HK1, HO_8, HO_644000, HO_644001, HO_652000, HO_652001, BK635, BK636, BK643, BK651, HB⟩ := hrel
    cases gk with
    | zero => exact absurd HA.out (by simp [tollgatelaw03_MemberOwn.l0])
    | succ k1 =>
      have H := HA.out
      clear HA
      simp only [tollgatelaw03_MemberOwn.l0] at H
      by_cases c28 : x9_1 < (x8_1.length : Int)
      · rw [if_pos c28] at H
        have c28b0 : decide (x9_1 < (x8_1.length : Int)) = true := decide_eq_true c28
        clear c28
        by_cases c29 : 0 ≤ x9_1
        · rw [if_pos c29] at H
          have c29b0 : decide (0 ≤ x9_1) = true := decide_eq_true c29
          clear c29
          obtain ⟨y655, hy655⟩ : ∃ y_ : List Int, y_ = (x8_1.set (x9_1 : Int).toNat 77) := ⟨_, rfl⟩
          replace H : (tollgatelaw03_MemberOwn.l0 k1 t650 y655 (wrap64 (x9_1 + 1)) l0_0 l0_1 t637 t640 t644 t647) = some r := by first | (rw [hy655]; with_reducible exact H) | (have H2_ := (Option.bind_some _ _).symm.trans H; rw [hy655]; with_reducible exact H2_) | (have H2_ := (Option.bind_some _ _).symm.trans H; with_reducible exact H2_) | with_reducible exact H | (rw [hy655]; exact H) | exact H
          have Ny655 := Aside0.mk hy655
          clear hy655
          have H' := Aside0.mk H
          clear H
          obtain ⟨Ao31, co31, eo31⟩ := Kd.R_slice HO_8.out
          subst eo31
          have p30 : 0 ≤ (x9_1 : Int) := of_decide_eq_true (by first | (with_reducible assumption) | assumption)
          have q30 : (x9_1 : Int) < ((x8_1.length : Int) : Int) := of_decide_eq_true (by first | (with_reducible assumption) | assumption)
          obtain ⟨go30, co30, eo30, gb30, gl30, cl30, HG30⟩ := Kd.R_form HO_8.out (by omega)
          (first | cases eo30 | (injection eo30 with ea_ en_ ec_; (first | subst ea_ | (injection ea_ with ea_; subst ea_)); subst ec_; clear en_))
          have GB30 := Aside0.mk gb30
          have GG30 := Aside0.mk HG30
          clear gb30 gl30 HG30
          obtain ⟨hx30_0, hf30_0⟩ := Kd.R_celln 0 HO_8.out (x9_1 : Int) p30 q30
          replace p30 := eq_true p30
          replace q30 := eq_true q30
          have HP32 := Kd.R_putg HO_8.out (x9_1 : Int) 77
          go_wp2_with (first | ((with_reducible refine gate_store (t := 3) (p := 31) rfl ?_); refine store_event (t := 3) (p := 31) (v := ?vo_w33) (w1 := (wr.setCell ⟨go30, (x9_1 : Int).toNat, none⟩ (.int .i64 77))) ?hg ?ho ?hn ?hr ?_; (case ho => rfl); (case hg => rfl); (case hn => rfl); (case hr => first | (go_simp; done) | (go_simp; rfl)); intro w33 hw; have hg : wr.grownBy w33 (some go30) := (by rw [hw]; exact HP32.2); have hp_ : Kd.R (Kd.int .i64) 3 w33 w.heap.size (fun k_ => some k_ ≠ (.slice Ao12 t637.length co12 : Value).ownBlock ∧ some k_ ≠ (.slice Ao16 t640.length co16 : Value).ownBlock ∧ some k_ ≠ (.slice Ao20 t644.length co20 : Value).ownBlock ∧ some k_ ≠ (.slice Ao25 t647.length co25 : Value).ownBlock) (.slice (some ⟨go30, 0, none⟩) x8_1.length co31) y655 := (by rw [hw, Ny655.out]; exact HP32.1); clear HP32; have n0_ := Aside0.mk (hp_); have n1_ := Aside0.mk (Kd.R_after (v := (.slice (some ⟨go30, 0, none⟩) x8_1.length co31)) (v1 := (.slice (some ⟨go30, 0, none⟩) x8_1.length co31)) (ok := (fun k_ => some k_ ≠ (.slice Ao16 t640.length co16 : Value).ownBlock ∧ some k_ ≠ (.slice Ao20 t644.length co20 : Value).ownBlock ∧ some k_ ≠ (.slice Ao25 t647.length co25 : Value).ownBlock)) (by (with_reducible repeat (first | apply Kd.R_alloc | apply Kd.R_drewN | apply Kd.R_drew)); exact Kd.R_mono HO_644000.out (fun _ hk => ⟨⟨hk.2.1, ⟨hk.2.2.1, hk.2.2.2⟩⟩, hk.1⟩)) hg (.inl rfl)); have n2_ := Aside0.mk (Kd.R_after (v := (.slice (some ⟨go30, 0, none⟩) x8_1.length co31)) (v1 := (.slice (some ⟨go30, 0, none⟩) x8_1.length co31)) (ok := (fun k_ => some k_ ≠ (.slice Ao12 t637.length co12 : Value).ownBlock ∧ some k_ ≠ (.slice Ao20 t644.length co20 : Value).ownBlock ∧ some k_ ≠ (.slice Ao25 t647.length co25 : Value).ownBlock)) (by (with_reducible repeat (first | apply Kd.R_alloc | apply Kd.R_drewN | apply Kd.R_drew)); exact Kd.R_mono HO_644001.out (fun _ hk => ⟨⟨hk.2.1, ⟨hk.2.2.1, hk.2.2.2⟩⟩, hk.1⟩)) hg (.inl rfl)); have n3_ := Aside0.mk (Kd.R_after (v := (.slice (some ⟨go30, 0, none⟩) x8_1.length co31)) (v1 := (.slice (some ⟨go30, 0, none⟩) x8_1.length co31)) (ok := (fun k_ => some k_ ≠ (.slice Ao12 t637.length co12 : Value).ownBlock ∧ some k_ ≠ (.slice Ao16 t640.length co16 : Value).ownBlock ∧ some k_ ≠ (.slice Ao25 t647.length co25 : Value).ownBlock)) (by (with_reducible repeat (first | apply Kd.R_alloc | apply Kd.R_drewN | apply Kd.R_drew)); exact Kd.R_mono HO_652000.out (fun _ hk => ⟨⟨hk.2.1, ⟨hk.2.2.1, hk.2.2.2⟩⟩, hk.1⟩)) hg (.inl rfl)); have n4_ := Aside0.mk (Kd.R_after (v := (.slice (some ⟨go30, 0, none⟩) x8_1.length co31)) (v1 := (.slice (some ⟨go30, 0, none⟩) x8_1.length co31)) (ok := (fun k_ => some k_ ≠ (.slice Ao12 t637.length co12 : Value).ownBlock ∧ some k_ ≠ (.slice Ao16 t640.length co16 : Value).ownBlock ∧ some k_ ≠ (.slice Ao20 t644.length co20 : Value).ownBlock)) (by (with_reducible repeat (first | apply Kd.R_alloc | apply Kd.R_drewN | apply Kd.R_drew)); exact Kd.R_mono HO_652001.out (fun _ hk => ⟨⟨hk.2.1, ⟨hk.2.2.1, hk.2.2.2⟩⟩, hk.1⟩)) hg (.inl rfl)); have n5_ := Aside0.mk (blk_grown (g := gb635) (o := .cells #[.slice A0_0 l0_0.length c0_0, .slice A0_1 l0_1.length c0_1] 24 (0, 0)) (by (with_reducible repeat (first | refine blk_drewN ?_ _ | refine blk_drew ?_ | refine blk_alloc ?_ _)); exact BK635.out) hg (Kd.R_ne HO_8.out BK635.out (by decide))); have n6_ := Aside0.mk (blk_grown (g := gb636) (o := .cells #[.int .i64 a1_0, .int .i64 a1_1] 55 (0, 0)) (by (with_reducible repeat (first | refine blk_drewN ?_ _ | refine blk_drew ?_ | refine blk_alloc ?_ _)); exact BK636.out) hg (Kd.R_ne HO_8.out BK636.out (by decide))); have n7_ := Aside0.mk (blk_grown (g := gb643) (o := .cells #[.slice Ao12 t637.length co12, .slice Ao16 t640.length co16] 24 (0, 0)) (by (with_reducible repeat (first | refine blk_drewN ?_ _ | refine blk_drew ?_ | refine blk_alloc ?_ _)); exact BK643.out) hg (Kd.R_ne HO_8.out BK643.out (by decide))); have n8_ := Aside0.mk (blk_grown (g := gb651) (o := .cells #[.slice Ao20 t644.length co20, .slice Ao25 t647.length co25] 24 (0, 0)) (by (with_reducible repeat (first | refine blk_drewN ?_ _ | refine blk_drew ?_ | refine blk_alloc ?_ _)); exact BK651.out) hg (Kd.R_ne HO_8.out BK651.out (by decide))); have n9_ := Aside0.mk ((by rw [hw]; exact below_set (HB.out) GB30.out : Below w.heap.size w w33)); clear HO_8; clear HO_644000; clear HO_644001; clear HO_652000; clear HO_652001; clear BK635; clear BK636; clear BK643; clear BK651; clear HB; have HO_8 := n0_; have HO_644000 := n1_; have HO_644001 := n2_; have HO_652000 := n3_; have HO_652001 := n4_; have BK635 := n5_; have BK636 := n6_; have BK643 := n7_; have BK651 := n8_; have HB := n9_; clear n0_ n1_ n2_ n3_ n4_ n5_ n6_ n7_ n8_ n9_; clear hg hw hp_))
          go_roundg k1
          case measure => have := HK1.out; omega
          case rel => exact ⟨(y655), (wrap64 (x9_1 + 1)), (by first | rfl | (simp; done) | (simp [*]; done)), H', ⟨by have := HK1.out; omega⟩, ⟨by (with_reducible repeat (first | apply Kd.R_alloc | apply Kd.R_drewN | apply Kd.R_drew)); exact HO_8.out⟩, ⟨by (with_reducible repeat (first | apply Kd.R_alloc | apply Kd.R_drewN | apply Kd.R_drew)); exact Kd.R_mono HO_644000.out (fun _ hk => ⟨hk.2, ⟨hk.1.1, ⟨hk.1.2.1, hk.1.2.2⟩⟩⟩)⟩, ⟨by (with_reducible repeat (first | apply Kd.R_alloc | apply Kd.R_drewN | apply Kd.R_drew)); exact Kd.R_mono HO_644001.out (fun _ hk => ⟨hk.2, ⟨hk.1.1, ⟨hk.1.2.1, hk.1.2.2⟩⟩⟩)⟩, ⟨by (with_reducible repeat (first | apply Kd.R_alloc | apply Kd.R_drewN | apply Kd.R_drew)); exact Kd.R_mono HO_652000.out (fun _ hk => ⟨hk.2, ⟨hk.1.1, ⟨hk.1.2.1, hk.1.2.2⟩⟩⟩)⟩, ⟨by (with_reducible repeat (first | apply Kd.R_alloc | apply Kd.R_drewN | apply Kd.R_drew)); exact Kd.R_mono HO_652001.out (fun _ hk => ⟨hk.2, ⟨hk.1.1, ⟨hk.1.2.1, hk.1.2.2⟩⟩⟩)⟩, ⟨by (with_reducible repeat (first | refine blk_drewN ?_ _ | refine blk_drew ?_ | refine blk_alloc ?_ _)); exact BK635.out⟩, ⟨by (with_reducible repeat (first | refine blk_drewN ?_ _ | refine blk_drew ?_ | refine blk_alloc ?_ _)); exact BK636.out⟩, ⟨by (with_reducible repeat (first | refine blk_drewN ?_ _ | refine blk_drew ?_ | refine blk_alloc ?_ _)); exact BK643.out⟩, ⟨by (with_reducible repeat (first | refine blk_drewN ?_ _ | refine blk_drew ?_ | refine blk_alloc ?_ _)); exact BK651.out⟩, ⟨by repeat (first | (with_reducible first | exact HB.out | apply below_alloc | apply pw_below_drewN | apply below_drew1 | refine below_set ?_ GE635.out | refine below_set ?_ GE636.out | refine below_set ?_ GE643.out | refine below_set ?_ GE651.out) | exact HB.out)⟩⟩
        · rw [if_neg c29] at H
          exact absurd H (by simp)
      · rw [if_neg c28] at H
        have c28b0 : decide (x9_1 < (x8_1.length : Int)) = false := decide_eq_false c28
        clear c28
        by_cases c34 : t650 = 0
        · rw [if_pos c34] at H
          have c34b0 : (t650 == 0) = true := beq_iff_eq.mpr c34
          have c34b1 : (t650 != 0) = false := bne_eq_false_iff_eq.mpr c34
          clear c34
          by_cases c35 : t644.length < 17592186044416
          · rw [if_pos c35] at H
            have LMc35 := Aside0.mk c35
            clear c35
            obtain ⟨y656, hy656⟩ : ∃ y_ : List Int, y_ = (t644 ++ [78]) := ⟨_, rfl⟩
            replace H : (tollgatelaw03_MemberOwn.l1 k1 0 l0_0 l0_1 t637 t640 y656 t647) = some r := by first | (rw [hy656]; with_reducible exact H) | (have H2_ := (Option.bind_some _ _).symm.trans H; rw [hy656]; with_reducible exact H2_) | (have H2_ := (Option.bind_some _ _).symm.trans H; with_reducible exact H2_) | with_reducible exact H | (rw [hy656]; exact H) | exact H
            have Ny656 := Aside0.mk hy656
            clear hy656
            have H' := Aside0.mk H
            clear H
            obtain ⟨Ao36, co36, eo36⟩ := Kd.R_slice HO_8.out
            subst eo36
            have hnb37 := NB651_635.out
            have hnc37 := NB635_651.out
            have hnb38 := NB651_636.out
            have hnc38 := NB636_651.out
            have hnb39 := NB651_643.out
            have hnc39 := NB643_651.out
            have hcz40_0 : wr.cell? ⟨gb651, 0, none⟩ = some (.slice Ao20 t644.length co20) := (blk_cell BK651.out 0).trans rfl
            have hcz40_1 : wr.cell? ⟨gb651, 1, none⟩ = some (.slice Ao25 t647.length co25) := (blk_cell BK651.out 1).trans rfl
            have hfz40_0 := blk_frozen BK651.out 0
            have hfz40_1 := blk_frozen BK651.out 1
            go_wp2_with (first | ((with_reducible refine gate_builtin (b := .append) (xs := #[.tmp 35, .tmp 36]) rfl ?_); at_builtin; refine Kd.R_append (Kd.int .i64) (w0 := w) w.heap.size rfl (.tmp 35) (.tmp 36) 22 3 (.int .i64 0) 8 rfl Try.underlying22 info3 rfl (by decide) (by omega) (.slice Ao20 t644.length co20) t644 78 [.int .i64 78] (fun k_ => some k_ ≠ (.slice Ao36 x8_1.length co36 : Value).ownBlock ∧ some k_ ≠ (.slice Ao12 t637.length co12 : Value).ownBlock ∧ some k_ ≠ (.slice Ao16 t640.length co16 : Value).ownBlock ∧ some k_ ≠ (.slice Ao25 t647.length co25 : Value).ownBlock) (fun _ => False) rfl rfl ?aP (fun _ hk => hk.elim) ?aF ?aO ?aB ?aS ?aL ?_; (case aP => exact rfl); (case aB => exact (by repeat (first | (with_reducible first | exact HB.out | apply below_alloc | apply pw_below_drewN | apply below_drew1 | refine below_set ?_ GE635.out | refine below_set ?_ GE636.out | refine below_set ?_ GE643.out | refine below_set ?_ GE651.out) | exact HB.out))); (case aF => exact (fun k_ hk => ⟨Kd.fresh' (Kd.R_lt (by (with_reducible repeat (first | apply Kd.R_alloc | apply Kd.R_drewN | apply Kd.R_drew)); exact HO_8.out)) k_ hk, Kd.fresh' (Kd.R_lt (by (with_reducible repeat (first | apply Kd.R_alloc | apply Kd.R_drewN | apply Kd.R_drew)); exact HO_644000.out)) k_ hk, Kd.fresh' (Kd.R_lt (by (with_reducible repeat (first | apply Kd.R_alloc | apply Kd.R_drewN | apply Kd.R_drew)); exact HO_644001.out)) k_ hk, Kd.fresh' (Kd.R_lt (by (with_reducible repeat (first | apply Kd.R_alloc | apply Kd.R_drewN | apply Kd.R_drew)); exact HO_652001.out)) k_ hk⟩)); (case aO => exact (by (with_reducible repeat (first | apply Kd.R_alloc | apply Kd.R_drewN | apply Kd.R_drew)); exact HO_652000.out)); (case aS => exact (below_size (by repeat (first | (with_reducible first | exact HB.out | apply below_alloc | apply pw_below_drewN | apply below_drew1 | refine below_set ?_ GE635.out | refine below_set ?_ GE636.out | refine below_set ?_ GE643.out | refine below_set ?_ GE651.out) | exact HB.out)))); (case aL => have := LMc35.out; omega); intro v657 w41 ho hb hg hat; rw [← Ny656.out] at ho; have n0_ := Aside0.mk (Kd.R_after (ok := (fun k_ => some k_ ≠ (.slice Ao12 t637.length co12 : Value).ownBlock ∧ some k_ ≠ (.slice Ao16 t640.length co16 : Value).ownBlock ∧ some k_ ≠ (.slice Ao25 t647.length co25 : Value).ownBlock)) (by (with_reducible repeat (first | apply Kd.R_alloc | apply Kd.R_drewN | apply Kd.R_drew)); exact Kd.R_mono HO_8.out (fun _ hk => ⟨⟨hk.1, ⟨hk.2.1, hk.2.2.2⟩⟩, hk.2.2.1⟩)) hg hat); have n1_ := Aside0.mk (Kd.R_after (ok := (fun k_ => some k_ ≠ (.slice Ao36 x8_1.length co36 : Value).ownBlock ∧ some k_ ≠ (.slice Ao16 t640.length co16 : Value).ownBlock ∧ some k_ ≠ (.slice Ao25 t647.length co25 : Value).ownBlock)) (by (with_reducible repeat (first | apply Kd.R_alloc | apply Kd.R_drewN | apply Kd.R_drew)); exact Kd.R_mono HO_644000.out (fun _ hk => ⟨⟨hk.1, ⟨hk.2.1, hk.2.2.2⟩⟩, hk.2.2.1⟩)) hg hat); have n2_ := Aside0.mk (Kd.R_after (ok := (fun k_ => some k_ ≠ (.slice Ao36 x8_1.length co36 : Value).ownBlock ∧ some k_ ≠ (.slice Ao12 t637.length co12 : Value).ownBlock ∧ some k_ ≠ (.slice Ao25 t647.length co25 : Value).ownBlock)) (by (with_reducible repeat (first | apply Kd.R_alloc | apply Kd.R_drewN | apply Kd.R_drew)); exact Kd.R_mono HO_644001.out (fun _ hk => ⟨⟨hk.1, ⟨hk.2.1, hk.2.2.2⟩⟩, hk.2.2.1⟩)) hg hat); have n3_ := Aside0.mk (Kd.R_after (ok := (fun k_ => some k_ ≠ (.slice Ao36 x8_1.length co36 : Value).ownBlock ∧ some k_ ≠ (.slice Ao12 t637.length co12 : Value).ownBlock ∧ some k_ ≠ (.slice Ao16 t640.length co16 : Value).ownBlock)) (by (with_reducible repeat (first | apply Kd.R_alloc | apply Kd.R_drewN | apply Kd.R_drew)); exact Kd.R_mono HO_652001.out (fun _ hk => ⟨⟨hk.1, ⟨hk.2.1, hk.2.2.1⟩⟩, hk.2.2.2⟩)) hg hat); have n4_ := Aside0.mk (blk_grown (g := gb635) (o := .cells #[.slice A0_0 l0_0.length c0_0, .slice A0_1 l0_1.length c0_1] 24 (0, 0)) (by (with_reducible repeat (first | refine blk_drewN ?_ _ | refine blk_drew ?_ | refine blk_alloc ?_ _)); exact BK635.out) hg (Kd.R_ne HO_652000.out BK635.out (by decide))); have n5_ := Aside0.mk (blk_grown (g := gb636) (o := .cells #[.int .i64 a1_0, .int .i64 a1_1] 55 (0, 0)) (by (with_reducible repeat (first | refine blk_drewN ?_ _ | refine blk_drew ?_ | refine blk_alloc ?_ _)); exact BK636.out) hg (Kd.R_ne HO_652000.out BK636.out (by decide))); have n6_ := Aside0.mk (blk_grown (g := gb643) (o := .cells #[.slice Ao12 t637.length co12, .slice Ao16 t640.length co16] 24 (0, 0)) (by (with_reducible repeat (first | refine blk_drewN ?_ _ | refine blk_drew ?_ | refine blk_alloc ?_ _)); exact BK643.out) hg (Kd.R_ne HO_652000.out BK643.out (by decide))); have n7_ := Aside0.mk (blk_grown (g := gb651) (o := .cells #[.slice Ao20 t644.length co20, .slice Ao25 t647.length co25] 24 (0, 0)) (by (with_reducible repeat (first | refine blk_drewN ?_ _ | refine blk_drew ?_ | refine blk_alloc ?_ _)); exact BK651.out) hg (Kd.R_ne HO_652000.out BK651.out (by decide))); have n8_ := Aside0.mk (hb); have n9_ := Aside0.mk (ho); clear HO_8; clear HO_644000; clear HO_644001; clear HO_652001; clear BK635; clear BK636; clear BK643; clear BK651; clear HB; clear HO_652000; have HO_8 := n0_; have HO_644000 := n1_; have HO_644001 := n2_; have HO_652001 := n3_; have BK635 := n4_; have BK636 := n5_; have BK643 := n6_; have BK651 := n7_; have HB := n8_; have HO658 := n9_; clear n0_ n1_ n2_ n3_ n4_ n5_ n6_ n7_ n8_ n9_; clear ho hb hg hat; obtain ⟨Ao42, co42, eo42⟩ := Kd.R_slice HO658.out; subst eo42; have hcz43_0 : w41.cell? ⟨gb651, 0, none⟩ = some (.slice Ao20 t644.length co20) := (blk_cell BK651.out 0).trans rfl; have hcz43_1 : w41.cell? ⟨gb651, 1, none⟩ = some (.slice Ao25 t647.length co25) := (blk_cell BK651.out 1).trans rfl; have hfz43_0 := blk_frozen BK651.out 0; have hfz43_1 := blk_frozen BK651.out 1))
            go_loopg [10] k1 (fun kq v10 w' => ∃ (x10_2 : Int) (x644000_2 : List Int) (x644001_2 : List Int) (x652000_2 : List Int) (x652001_2 : List Int) (u644000 : Value) (u644001 : Value) (u652000 : Value) (u652001 : Value), v10 = .int .i64 x10_2 ∧ Aside0 (tollgatelaw03_MemberOwn.l1 kq x10_2 l0_0 l0_1 x644000_2 x644001_2 x652000_2 x652001_2 = some r) ∧ Aside0 (kq ≤ k1) ∧ Aside0 (Kd.R (Kd.int .i64) 3 w' w.heap.size (fun k_ => some k_ ≠ (u644001 : Value).ownBlock ∧ some k_ ≠ (u652000 : Value).ownBlock ∧ some k_ ≠ (u652001 : Value).ownBlock) u644000 x644000_2) ∧ Aside0 (Kd.R (Kd.int .i64) 3 w' w.heap.size (fun k_ => some k_ ≠ (u644000 : Value).ownBlock ∧ some k_ ≠ (u652000 : Value).ownBlock ∧ some k_ ≠ (u652001 : Value).ownBlock) u644001 x644001_2) ∧ Aside0 (Kd.R (Kd.int .i64) 3 w' w.heap.size (fun k_ => some k_ ≠ (u644000 : Value).ownBlock ∧ some k_ ≠ (u644001 : Value).ownBlock ∧ some k_ ≠ (u652001 : Value).ownBlock) u652000 x652000_2) ∧ Aside0 (Kd.R (Kd.int .i64) 3 w' w.heap.size (fun k_ => some k_ ≠ (u644000 : Value).ownBlock ∧ some k_ ≠ (u644001 : Value).ownBlock ∧ some k_ ≠ (u652000 : Value).ownBlock) u652001 x652001_2) ∧ Aside0 (w'.heap[gb635]? = some (.cells #[(.slice A0_0 l0_0.length c0_0), (.slice A0_1 l0_1.length c0_1)] 24 (0, 0))) ∧ Aside0 (w'.heap[gb636]? = some (.cells #[.int .i64 a1_0, .int .i64 a1_1] 55 (0, 0))) ∧ Aside0 (w'.heap[gb643]? = some (.cells #[u644000, u644001] 24 (0, 0))) ∧ Aside0 (w'.heap[gb651]? = some (.cells #[u652000, u652001] 24 (0, 0))) ∧ Aside0 (Below w.heap.size w w'))
            case atStart => exact ⟨(0), (t637), (t640), (y656), (t647), (.slice Ao12 t637.length co12), (.slice Ao16 t640.length co16), (.slice Ao42 y656.length co42), (.slice Ao25 t647.length co25), (by first | rfl | (simp; done) | (simp [*]; done)), H', ⟨Nat.le_refl _⟩, ⟨by (with_reducible repeat (first | apply Kd.R_alloc | apply Kd.R_drewN | apply Kd.R_drew)); exact Kd.R_mono (Kd.R_far (p := ⟨gb651, 0, none⟩) (Kd.R_types HO_644000.out BK651.out (by decide)) (fun _ hk => hk.2) (.slice Ao42 y656.length co42)) (fun _ hk => ⟨hk.1.1.2.1, ⟨hk.1.2, hk.1.1.2.2⟩⟩)⟩, ⟨by (with_reducible repeat (first | apply Kd.R_alloc | apply Kd.R_drewN | apply Kd.R_drew)); exact Kd.R_mono (Kd.R_far (p := ⟨gb651, 0, none⟩) (Kd.R_types HO_644001.out BK651.out (by decide)) (fun _ hk => hk.2) (.slice Ao42 y656.length co42)) (fun _ hk => ⟨hk.1.1.2.1, ⟨hk.1.2, hk.1.1.2.2⟩⟩)⟩, ⟨by (with_reducible repeat (first | apply Kd.R_alloc | apply Kd.R_drewN | apply Kd.R_drew)); exact Kd.R_mono (Kd.R_far (p := ⟨gb651, 0, none⟩) (Kd.R_types HO658.out BK651.out (by decide)) (fun _ hk => hk.2) (.slice Ao42 y656.length co42)) (fun _ hk => ⟨hk.1.2.1, ⟨hk.1.2.2.1, hk.1.2.2.2⟩⟩)⟩, ⟨by (with_reducible repeat (first | apply Kd.R_alloc | apply Kd.R_drewN | apply Kd.R_drew)); exact Kd.R_mono (Kd.R_far (p := ⟨gb651, 0, none⟩) (Kd.R_types HO_652001.out BK651.out (by decide)) (fun _ hk => hk.2) (.slice Ao42 y656.length co42)) (fun _ hk => ⟨hk.1.1.2.1, ⟨hk.1.1.2.2, hk.1.2⟩⟩)⟩, ⟨by (with_reducible repeat (first | refine blk_drewN ?_ _ | refine blk_drew ?_ | refine blk_alloc ?_ _)); refine blk_far ?_ NB635_651.out _; (with_reducible repeat (first | refine blk_drewN ?_ _ | refine blk_drew ?_ | refine blk_alloc ?_ _)); exact BK635.out⟩, ⟨by (with_reducible repeat (first | refine blk_drewN ?_ _ | refine blk_drew ?_ | refine blk_alloc ?_ _)); refine blk_far ?_ NB636_651.out _; (with_reducible repeat (first | refine blk_drewN ?_ _ | refine blk_drew ?_ | refine blk_alloc ?_ _)); exact BK636.out⟩, ⟨by (with_reducible repeat (first | refine blk_drewN ?_ _ | refine blk_drew ?_ | refine blk_alloc ?_ _)); refine blk_far ?_ NB643_651.out _; (with_reducible repeat (first | refine blk_drewN ?_ _ | refine blk_drew ?_ | refine blk_alloc ?_ _)); exact BK643.out⟩, ⟨by (with_reducible repeat (first | refine blk_drewN ?_ _ | refine blk_drew ?_ | refine blk_alloc ?_ _)); refine blk_put (cs := #[.slice Ao20 t644.length co20, .slice Ao25 t647.length co25]) ?_ 0 _ rfl; (with_reducible repeat (first | refine blk_drewN ?_ _ | refine blk_drew ?_ | refine blk_alloc ?_ _)); exact BK651.out⟩, ⟨by repeat (first | (with_reducible first | exact HB.out | apply below_alloc | apply pw_below_drewN | apply below_drew1 | refine below_set ?_ GE635.out | refine below_set ?_ GE636.out | refine below_set ?_ GE643.out | refine below_set ?_ GE651.out) | exact HB.out)⟩⟩
            case round =>
              clear H'
              try clear c1
              try clear c2
              try clear p2
              try clear c3
              try clear p3
              try clear q3
              try clear hx3
              try clear hf3
              try clear c4
              try clear p6
              try clear c8
              try clear c13
              try clear c14
              try clear c16
              try clear c17
              try clear c21
              try clear c22
              try clear c23
              try clear c28
              try clear c28b0
              try clear c29
              try clear c29b0
              try clear p30
              try clear q30
              try clear hx30
              try clear hf30
              try clear c34
              try clear c34b0
              try clear c34b1
              try clear c35
              try clear c37
              try clear c38
              try clear c39
              try clear c40
              try clear hcz15_0
              try clear hcz15_1
              try clear hcz17_0
              try clear hcz17_1
              try clear hcz24_0
              try clear hcz24_1
              try clear hcz26_0
              try clear hcz26_1
              try clear hcz40_0
              try clear hcz40_1
              try clear hcz43_0
              try clear hcz43_1
              try clear hcz9_0
              try clear hcz9_1
              try clear hfz15_0
              try clear hfz15_1
              try clear hfz17_0
              try clear hfz17_1
              try clear hfz24_0
              try clear hfz24_1
              try clear hfz26_0
              try clear hfz26_1
              try clear hfz40_0
              try clear hfz40_1
              try clear hfz43_0
              try clear hfz43_1
              try clear hfz9_0
              try clear hfz9_1
              try clear hx30_0
              try clear p2
              try clear p30
              try clear q30
              obtain ⟨x10_2, x644000_2, x644001_2, x652000_2, x652001_2, u644000, u644001, u652000, u652001, rfl, HA, HK2, HO_644000, HO_644001, HO_652000, HO_652001, BK635, BK636, BK643, BK651, HB⟩ := hrel
              cases gk with
              | zero => exact absurd HA.out (by simp [tollgatelaw03_MemberOwn.l1])
              | succ k2 =>
                have H := HA.out
                clear HA
                simp only [tollgatelaw03_MemberOwn.l1] at H
                by_cases c44 : x10_2 < (x652000_2.length : Int)
                · rw [if_pos c44] at H
                  have c44b0 : decide (x10_2 < (x652000_2.length : Int)) = true := decide_eq_true c44
                  clear c44
                  by_cases c45 : 0 ≤ x10_2
                  · rw [if_pos c45] at H
                    have c45b0 : decide (0 ≤ x10_2) = true := decide_eq_true c45
                    clear c45
                    obtain ⟨y659, hy659⟩ : ∃ y_ : List Int, y_ = (x652000_2.set (x10_2 : Int).toNat 78) := ⟨_, rfl⟩
                    replace H : (tollgatelaw03_MemberOwn.l1 k2 (wrap64 (x10_2 + 1)) l0_0 l0_1 x644000_2 x644001_2 y659 x652001_2) = some r := by first | (rw [hy659]; with_reducible exact H) | (have H2_ := (Option.bind_some _ _).symm.trans H; rw [hy659]; with_reducible exact H2_) | (have H2_ := (Option.bind_some _ _).symm.trans H; with_reducible exact H2_) | with_reducible exact H | (rw [hy659]; exact H) | exact H
                    have Ny659 := Aside0.mk hy659
                    clear hy659
                    have H' := Aside0.mk H
                    clear H
                    have hnb47 := NB651_635.out
                    have hnc47 := NB635_651.out
                    have hnb48 := NB651_636.out
                    have hnc48 := NB636_651.out
                    have hnb49 := NB651_643.out
                    have hnc49 := NB643_651.out
                    have hcz50_0 : wr.cell? ⟨gb651, 0, none⟩ = some (u652000) := (blk_cell BK651.out 0).trans rfl
                    have hcz50_1 : wr.cell? ⟨gb651, 1, none⟩ = some (u652001) := (blk_cell BK651.out 1).trans rfl
                    have hfz50_0 := blk_frozen BK651.out 0
                    have hfz50_1 := blk_frozen BK651.out 1
                    obtain ⟨Ao51, co51, eo51⟩ := Kd.R_slice HO_652000.out
                    subst eo51
                    have p46 : 0 ≤ (x10_2 : Int) := of_decide_eq_true (by first | (with_reducible assumption) | assumption)
                    have q46 : (x10_2 : Int) < ((x652000_2.length : Int) : Int) := of_decide_eq_true (by first | (with_reducible assumption) | assumption)
                    obtain ⟨go46, co46, eo46, gb46, gl46, cl46, HG46⟩ := Kd.R_form HO_652000.out (by omega)
                    (first | cases eo46 | (injection eo46 with ea_ en_ ec_; (first | subst ea_ | (injection ea_ with ea_; subst ea_)); subst ec_; clear en_))
                    have GB46 := Aside0.mk gb46
                    have GG46 := Aside0.mk HG46
                    clear gb46 gl46 HG46
                    obtain ⟨hx46_0, hf46_0⟩ := Kd.R_celln 0 HO_652000.out (x10_2 : Int) p46 q46
                    replace p46 := eq_true p46
                    replace q46 := eq_true q46
                    have HP52 := Kd.R_putg HO_652000.out (x10_2 : Int) 78
                    go_wp2_with (first | ((with_reducible refine gate_store (t := 3) (p := 49) rfl ?_); refine store_event (t := 3) (p := 49) (v := ?vo_w53) (w1 := (wr.setCell ⟨go46, (x10_2 : Int).toNat, none⟩ (.int .i64 78))) ?hg ?ho ?hn ?hr ?_; (case ho => rfl); (case hg => rfl); (case hn => rfl); (case hr => first | (go_simp; done) | (go_simp; rfl)); intro w53 hw; have hg : wr.grownBy w53 (some go46) := (by rw [hw]; exact HP52.2); have hp_ : Kd.R (Kd.int .i64) 3 w53 w.heap.size (fun k_ => some k_ ≠ (u644000 : Value).ownBlock ∧ some k_ ≠ (u644001 : Value).ownBlock ∧ some k_ ≠ (u652001 : Value).ownBlock) (.slice (some ⟨go46, 0, none⟩) x652000_2.length co51) y659 := (by rw [hw, Ny659.out]; exact HP52.1); clear HP52; have n0_ := Aside0.mk (Kd.R_after (v := (.slice (some ⟨go46, 0, none⟩) x652000_2.length co51)) (v1 := (.slice (some ⟨go46, 0, none⟩) x652000_2.length co51)) (ok := (fun k_ => some k_ ≠ (u644001 : Value).ownBlock ∧ some k_ ≠ (u652001 : Value).ownBlock)) (by (with_reducible repeat (first | apply Kd.R_alloc | apply Kd.R_drewN | apply Kd.R_drew)); exact Kd.R_mono HO_644000.out (fun _ hk => ⟨⟨hk.1, hk.2.2⟩, hk.2.1⟩)) hg (.inl rfl)); have n1_ := Aside0.mk (Kd.R_after (v := (.slice (some ⟨go46, 0, none⟩) x652000_2.length co51)) (v1 := (.slice (some ⟨go46, 0, none⟩) x652000_2.length co51)) (ok := (fun k_ => some k_ ≠ (u644000 : Value).ownBlock ∧ some k_ ≠ (u652001 : Value).ownBlock)) (by (with_reducible repeat (first | apply Kd.R_alloc | apply Kd.R_drewN | apply Kd.R_drew)); exact Kd.R_mono HO_644001.out (fun _ hk => ⟨⟨hk.1, hk.2.2⟩, hk.2.1⟩)) hg (.inl rfl)); have n2_ := Aside0.mk (hp_); have n3_ := Aside0.mk (Kd.R_after (v := (.slice (some ⟨go46, 0, none⟩) x652000_2.length co51)) (v1 := (.slice (some ⟨go46, 0, none⟩) x652000_2.length co51)) (ok := (fun k_ => some k_ ≠ (u644000 : Value).ownBlock ∧ some k_ ≠ (u644001 : Value).ownBlock)) (by (with_reducible repeat (first | apply Kd.R_alloc | apply Kd.R_drewN | apply Kd.R_drew)); exact Kd.R_mono HO_652001.out (fun _ hk => ⟨⟨hk.1, hk.2.1⟩, hk.2.2⟩)) hg (.inl rfl)); have n4_ := Aside0.mk (blk_grown (g := gb635) (o := .cells #[.slice A0_0 l0_0.length c0_0, .slice A0_1 l0_1.length c0_1] 24 (0, 0)) (by (with_reducible repeat (first | refine blk_drewN ?_ _ | refine blk_drew ?_ | refine blk_alloc ?_ _)); exact BK635.out) hg (Kd.R_ne HO_652000.out BK635.out (by decide))); have n5_ := Aside0.mk (blk_grown (g := gb636) (o := .cells #[.int .i64 a1_0, .int .i64 a1_1] 55 (0, 0)) (by (with_reducible repeat (first | refine blk_drewN ?_ _ | refine blk_drew ?_ | refine blk_alloc ?_ _)); exact BK636.out) hg (Kd.R_ne HO_652000.out BK636.out (by decide))); have n6_ := Aside0.mk (blk_grown (g := gb643) (o := .cells #[u644000, u644001] 24 (0, 0)) (by (with_reducible repeat (first | refine blk_drewN ?_ _ | refine blk_drew ?_ | refine blk_alloc ?_ _)); exact BK643.out) hg (Kd.R_ne HO_652000.out BK643.out (by decide))); have n7_ := Aside0.mk (blk_grown (g := gb651) (o := .cells #[.slice (some ⟨go46, 0, none⟩) x652000_2.length co51, u652001] 24 (0, 0)) (by (with_reducible repeat (first | refine blk_drewN ?_ _ | refine blk_drew ?_ | refine blk_alloc ?_ _)); exact BK651.out) hg (Kd.R_ne HO_652000.out BK651.out (by decide))); have n8_ := Aside0.mk ((by rw [hw]; exact below_set (HB.out) GB46.out : Below w.heap.size w w53)); clear HO_644000; clear HO_644001; clear HO_652000; clear HO_652001; clear BK635; clear BK636; clear BK643; clear BK651; clear HB; have HO_644000 := n0_; have HO_644001 := n1_; have HO_652000 := n2_; have HO_652001 := n3_; have BK635 := n4_; have BK636 := n5_; have BK643 := n6_; have BK651 := n7_; have HB := n8_; clear n0_ n1_ n2_ n3_ n4_ n5_ n6_ n7_ n8_; clear hg hw hp_))
                    go_roundg k2
                    case measure => have := HK1.out; have := HK2.out; omega
                    case rel => exact ⟨(wrap64 (x10_2 + 1)), (x644000_2), (x644001_2), (y659), (x652001_2), (u644000), (u644001), (.slice (some ⟨go46, 0, none⟩) x652000_2.length co51), (u652001), (by first | rfl | (simp; done) | (simp [*]; done)), H', ⟨by have := HK1.out; have := HK2.out; omega⟩, ⟨by (with_reducible repeat (first | apply Kd.R_alloc | apply Kd.R_drewN | apply Kd.R_drew)); exact Kd.R_mono HO_644000.out (fun _ hk => ⟨hk.1.1, ⟨hk.2, hk.1.2⟩⟩)⟩, ⟨by (with_reducible repeat (first | apply Kd.R_alloc | apply Kd.R_drewN | apply Kd.R_drew)); exact Kd.R_mono HO_644001.out (fun _ hk => ⟨hk.1.1, ⟨hk.2, hk.1.2⟩⟩)⟩, ⟨by (with_reducible repeat (first | apply Kd.R_alloc | apply Kd.R_drewN | apply Kd.R_drew)); exact HO_652000.out⟩, ⟨by (with_reducible repeat (first | apply Kd.R_alloc | apply Kd.R_drewN | apply Kd.R_drew)); exact Kd.R_mono HO_652001.out (fun _ hk => ⟨hk.1.1, ⟨hk.1.2, hk.2⟩⟩)⟩, ⟨by (with_reducible repeat (first | refine blk_drewN ?_ _ | refine blk_drew ?_ | refine blk_alloc ?_ _)); exact BK635.out⟩, ⟨by (with_reducible repeat (first | refine blk_drewN ?_ _ | refine blk_drew ?_ | refine blk_alloc ?_ _)); exact BK636.out⟩, ⟨by (with_reducible repeat (first | refine blk_drewN ?_ _ | refine blk_drew ?_ | refine blk_alloc ?_ _)); exact BK643.out⟩, ⟨by (with_reducible repeat (first | refine blk_drewN ?_ _ | refine blk_drew ?_ | refine blk_alloc ?_ _)); exact BK651.out⟩, ⟨by repeat (first | (with_reducible first | exact HB.out | apply below_alloc | apply pw_below_drewN | apply below_drew1 | refine below_set ?_ GE635.out | refine below_set ?_ GE636.out | refine below_set ?_ GE643.out | refine below_set ?_ GE651.out) | exact HB.out)⟩⟩
                  · rw [if_neg c45] at H
                    exact absurd H (by simp)
                · rw [if_neg c44] at H
                  have c44b0 : decide (x10_2 < (x652000_2.length : Int)) = false := decide_eq_false c44
                  clear c44
                  by_cases c54 : x652001_2.length < 17592186044416
                  · rw [if_pos c54] at H
                    have LMc54 := Aside0.mk c54
                    clear c54
                    obtain ⟨y660, hy660⟩ : ∃ y_ : List Int, y_ = (x652001_2 ++ [79]) := ⟨_, rfl⟩
                    replace H : (tollgatelaw03_MemberOwn.l2 k2 0 l0_0 l0_1 x644000_2 x644001_2 x652000_2 y660) = some r := by first | (rw [hy660]; with_reducible exact H) | (have H2_ := (Option.bind_some _ _).symm.trans H; rw [hy660]; with_reducible exact H2_) | (have H2_ := (Option.bind_some _ _).symm.trans H; with_reducible exact H2_) | with_reducible exact H | (rw [hy660]; exact H) | exact H
                    have Ny660 := Aside0.mk hy660
                    clear hy660
                    have H' := Aside0.mk H
                    clear H
                    have hnb55 := NB651_635.out
                    have hnc55 := NB635_651.out
                    have hnb56 := NB651_636.out
                    have hnc56 := NB636_651.out
                    have hnb57 := NB651_643.out
                    have hnc57 := NB643_651.out
                    have hcz58_0 : wr.cell? ⟨gb651, 0, none⟩ = some (u652000) := (blk_cell BK651.out 0).trans rfl
                    have hcz58_1 : wr.cell? ⟨gb651, 1, none⟩ = some (u652001) := (blk_cell BK651.out 1).trans rfl
                    have hfz58_0 := blk_frozen BK651.out 0
                    have hfz58_1 := blk_frozen BK651.out 1
                    obtain ⟨Ao59, co59, eo59⟩ := Kd.R_slice HO_652000.out
                    subst eo59
                    go_wp2_with (first | ((with_reducible refine gate_builtin (b := .append) (xs := #[.tmp 51, .tmp 52]) rfl ?_); at_builtin; refine Kd.R_append (Kd.int .i64) (w0 := w) w.heap.size rfl (.tmp 51) (.tmp 52) 22 3 (.int .i64 0) 8 rfl Try.underlying22 info3 rfl (by decide) (by omega) u652001 x652001_2 79 [.int .i64 79] (fun k_ => some k_ ≠ (u644000 : Value).ownBlock ∧ some k_ ≠ (u644001 : Value).ownBlock ∧ some k_ ≠ (.slice Ao59 x652000_2.length co59 : Value).ownBlock) (fun _ => False) rfl rfl ?aP (fun _ hk => hk.elim) ?aF ?aO ?aB ?aS ?aL ?_; (case aP => exact rfl); (case aB => exact (by repeat (first | (with_reducible first | exact HB.out | apply below_alloc | apply pw_below_drewN | apply below_drew1 | refine below_set ?_ GE635.out | refine below_set ?_ GE636.out | refine below_set ?_ GE643.out | refine below_set ?_ GE651.out) | exact HB.out))); (case aF => exact (fun k_ hk => ⟨Kd.fresh' (Kd.R_lt (by (with_reducible repeat (first | apply Kd.R_alloc | apply Kd.R_drewN | apply Kd.R_drew)); exact HO_644000.out)) k_ hk, Kd.fresh' (Kd.R_lt (by (with_reducible repeat (first | apply Kd.R_alloc | apply Kd.R_drewN | apply Kd.R_drew)); exact HO_644001.out)) k_ hk, Kd.fresh' (Kd.R_lt (by (with_reducible repeat (first | apply Kd.R_alloc | apply Kd.R_drewN | apply Kd.R_drew)); exact HO_652000.out)) k_ hk⟩)); (case aO => exact (by (with_reducible repeat (first | apply Kd.R_alloc | apply Kd.R_drewN | apply Kd.R_drew)); exact HO_652001.out)); (case aS => exact (below_size (by repeat (first | (with_reducible first | exact HB.out | apply below_alloc | apply pw_below_drewN | apply below_drew1 | refine below_set ?_ GE635.out | refine below_set ?_ GE636.out | refine below_set ?_ GE643.out | refine below_set ?_ GE651.out) | exact HB.out)))); (case aL => have := LMc54.out; omega); intro v661 w60 ho hb hg hat; rw [← Ny660.out] at ho; have n0_ := Aside0.mk (Kd.R_after (ok := (fun k_ => some k_ ≠ (u644001 : Value).ownBlock ∧ some k_ ≠ (.slice Ao59 x652000_2.length co59 : Value).ownBlock)) (by (with_reducible repeat (first | apply Kd.R_alloc | apply Kd.R_drewN | apply Kd.R_drew)); exact Kd.R_mono HO_644000.out (fun _ hk => ⟨⟨hk.1, hk.2.1⟩, hk.2.2⟩)) hg hat); have n1_ := Aside0.mk (Kd.R_after (ok := (fun k_ => some k_ ≠ (u644000 : Value).ownBlock ∧ some k_ ≠ (.slice Ao59 x652000_2.length co59 : Value).ownBlock)) (by (with_reducible repeat (first | apply Kd.R_alloc | apply Kd.R_drewN | apply Kd.R_drew)); exact Kd.R_mono HO_644001.out (fun _ hk => ⟨⟨hk.1, hk.2.1⟩, hk.2.2⟩)) hg hat); have n2_ := Aside0.mk (Kd.R_after (ok := (fun k_ => some k_ ≠ (u644000 : Value).ownBlock ∧ some k_ ≠ (u644001 : Value).ownBlock)) (by (with_reducible repeat (first | apply Kd.R_alloc | apply Kd.R_drewN | apply Kd.R_drew)); exact Kd.R_mono HO_652000.out (fun _ hk => ⟨⟨hk.1, hk.2.1⟩, hk.2.2⟩)) hg hat); have n3_ := Aside0.mk (blk_grown (g := gb635) (o := .cells #[.slice A0_0 l0_0.length c0_0, .slice A0_1 l0_1.length c0_1] 24 (0, 0)) (by (with_reducible repeat (first | refine blk_drewN ?_ _ | refine blk_drew ?_ | refine blk_alloc ?_ _)); exact BK635.out) hg (Kd.R_ne HO_652001.out BK635.out (by decide))); have n4_ := Aside0.mk (blk_grown (g := gb636) (o := .cells #[.int .i64 a1_0, .int .i64 a1_1] 55 (0, 0)) (by (with_reducible repeat (first | refine blk_drewN ?_ _ | refine blk_drew ?_ | refine blk_alloc ?_ _)); exact BK636.out) hg (Kd.R_ne HO_652001.out BK636.out (by decide))); have n5_ := Aside0.mk (blk_grown (g := gb643) (o := .cells #[u644000, u644001] 24 (0, 0)) (by (with_reducible repeat (first | refine blk_drewN ?_ _ | refine blk_drew ?_ | refine blk_alloc ?_ _)); exact BK643.out) hg (Kd.R_ne HO_652001.out BK643.out (by decide))); have n6_ := Aside0.mk (blk_grown (g := gb651) (o := .cells #[.slice Ao59 x652000_2.length co59, u652001] 24 (0, 0)) (by (with_reducible repeat (first | refine blk_drewN ?_ _ | refine blk_drew ?_ | refine blk_alloc ?_ _)); exact BK651.out) hg (Kd.R_ne HO_652001.out BK651.out (by decide))); have n7_ := Aside0.mk (hb); have n8_ := Aside0.mk (ho); clear HO_644000; clear HO_644001; clear HO_652000; clear BK635; clear BK636; clear BK643; clear BK651; clear HB; clear HO_652001; have HO_644000 := n0_; have HO_644001 := n1_; have HO_652000 := n2_; have BK635 := n3_; have BK636 := n4_; have BK643 := n5_; have BK651 := n6_; have HB := n7_; have HO662 := n8_; clear n0_ n1_ n2_ n3_ n4_ n5_ n6_ n7_ n8_; clear ho hb hg hat; obtain ⟨Ao61, co61, eo61⟩ := Kd.R_slice HO662.out; subst eo61; have hcz62_0 : w60.cell? ⟨gb651, 0, none⟩ = some (.slice Ao59 x652000_2.length co59) := (blk_cell BK651.out 0).trans rfl; have hcz62_1 : w60.cell? ⟨gb651, 1, none⟩ = some (u652001) := (blk_cell BK651.out 1).trans rfl; have hfz62_0 := blk_frozen BK651.out 0; have hfz62_1 := blk_frozen BK651.out 1))
                    go_loopg [11] k2 (fun kq v11 w' => ∃ (x11_3 : Int) (x644000_3 : List Int) (x644001_3 : List Int) (x652000_3 : List Int) (x652001_3 : List Int) (u644000 : Value) (u644001 : Value) (u652000 : Value) (u652001 : Value), v11 = .int .i64 x11_3 ∧ Aside0 (tollgatelaw03_MemberOwn.l2 kq x11_3 l0_0 l0_1 x644000_3 x644001_3 x652000_3 x652001_3 = some r) ∧ Aside0 (kq ≤ k2) ∧ Aside0 (Kd.R (Kd.int .i64) 3 w' w.heap.size (fun k_ => some k_ ≠ (u644001 : Value).ownBlock ∧ some k_ ≠ (u652000 : Value).ownBlock ∧ some k_ ≠ (u652001 : Value).ownBlock) u644000 x644000_3) ∧ Aside0 (Kd.R (Kd.int .i64) 3 w' w.heap.size (fun k_ => some k_ ≠ (u644000 : Value).ownBlock ∧ some k_ ≠ (u652000 : Value).ownBlock ∧ some k_ ≠ (u652001 : Value).ownBlock) u644001 x644001_3) ∧ Aside0 (Kd.R (Kd.int .i64) 3 w' w.heap.size (fun k_ => some k_ ≠ (u644000 : Value).ownBlock ∧ some k_ ≠ (u644001 : Value).ownBlock ∧ some k_ ≠ (u652001 : Value).ownBlock) u652000 x652000_3) ∧ Aside0 (Kd.R (Kd.int .i64) 3 w' w.heap.size (fun k_ => some k_ ≠ (u644000 : Value).ownBlock ∧ some k_ ≠ (u644001 : Value).ownBlock ∧ some k_ ≠ (u652000 : Value).ownBlock) u652001 x652001_3) ∧ Aside0 (w'.heap[gb635]? = some (.cells #[(.slice A0_0 l0_0.length c0_0), (.slice A0_1 l0_1.length c0_1)] 24 (0, 0))) ∧ Aside0 (w'.heap[gb636]? = some (.cells #[.int .i64 a1_0, .int .i64 a1_1] 55 (0, 0))) ∧ Aside0 (w'.heap[gb643]? = some (.cells #[u644000, u644001] 24 (0, 0))) ∧ Aside0 (w'.heap[gb651]? = some (.cells #[u652000, u652001] 24 (0, 0))) ∧ Aside0 (Below w.heap.size w w'))
                    case atStart => exact ⟨(0), (x644000_2), (x644001_2), (x652000_2), (y660), (u644000), (u644001), (.slice Ao59 x652000_2.length co59), (.slice Ao61 y660.length co61), (by first | rfl | (simp; done) | (simp [*]; done)), H', ⟨Nat.le_refl _⟩, ⟨by (with_reducible repeat (first | apply Kd.R_alloc | apply Kd.R_drewN | apply Kd.R_drew)); exact Kd.R_mono (Kd.R_far (p := ⟨gb651, 1, none⟩) (Kd.R_types HO_644000.out BK651.out (by decide)) (fun _ hk => hk.2) (.slice Ao61 y660.length co61)) (fun _ hk => ⟨hk.1.1.1, ⟨hk.1.1.2, hk.1.2⟩⟩)⟩, ⟨by (with_reducible repeat (first | apply Kd.R_alloc | apply Kd.R_drewN | apply Kd.R_drew)); exact Kd.R_mono (Kd.R_far (p := ⟨gb651, 1, none⟩) (Kd.R_types HO_644001.out BK651.out (by decide)) (fun _ hk => hk.2) (.slice Ao61 y660.length co61)) (fun _ hk => ⟨hk.1.1.1, ⟨hk.1.1.2, hk.1.2⟩⟩)⟩, ⟨by (with_reducible repeat (first | apply Kd.R_alloc | apply Kd.R_drewN | apply Kd.R_drew)); exact Kd.R_mono (Kd.R_far (p := ⟨gb651, 1, none⟩) (Kd.R_types HO_652000.out BK651.out (by decide)) (fun _ hk => hk.2) (.slice Ao61 y660.length co61)) (fun _ hk => ⟨hk.1.1.1, ⟨hk.1.1.2, hk.1.2⟩⟩)⟩, ⟨by (with_reducible repeat (first | apply Kd.R_alloc | apply Kd.R_drewN | apply Kd.R_drew)); exact Kd.R_mono (Kd.R_far (p := ⟨gb651, 1, none⟩) (Kd.R_types HO662.out BK651.out (by decide)) (fun _ hk => hk.2) (.slice Ao61 y660.length co61)) (fun _ hk => ⟨hk.1.1, ⟨hk.1.2.1, hk.1.2.2⟩⟩)⟩, ⟨by (with_reducible repeat (first | refine blk_drewN ?_ _ | refine blk_drew ?_ | refine blk_alloc ?_ _)); refine blk_far ?_ NB635_651.out _; (with_reducible repeat (first | refine blk_drewN ?_ _ | refine blk_drew ?_ | refine blk_alloc ?_ _)); exact BK635.out⟩, ⟨by (with_reducible repeat (first | refine blk_drewN ?_ _ | refine blk_drew ?_ | refine blk_alloc ?_ _)); refine blk_far ?_ NB636_651.out _; (with_reducible repeat (first | refine blk_drewN ?_ _ | refine blk_drew ?_ | refine blk_alloc ?_ _)); exact BK636.out⟩, ⟨by (with_reducible repeat (first | refine blk_drewN ?_ _ | refine blk_drew ?_ | refine blk_alloc ?_ _)); refine blk_far ?_ NB643_651.out _; (with_reducible repeat (first | refine blk_drewN ?_ _ | refine blk_drew ?_ | refine blk_alloc ?_ _)); exact BK643.out⟩, ⟨by (with_reducible repeat (first | refine blk_drewN ?_ _ | refine blk_drew ?_ | refine blk_alloc ?_ _)); refine blk_put (cs := #[.slice Ao59 x652000_2.length co59, u652001]) ?_ 1 _ rfl; (with_reducible repeat (first | refine blk_drewN ?_ _ | refine blk_drew ?_ | refine blk_alloc ?_ _)); exact BK651.out⟩, ⟨by repeat (first | (with_reducible first | exact HB.out | apply below_alloc | apply pw_below_drewN | apply below_drew1 | refine below_set ?_ GE635.out | refine below_set ?_ GE636.out | refine below_set ?_ GE643.out | refine below_set ?_ GE651.out) | exact HB.out)⟩⟩
                    case round =>
                      clear H'
                      try clear c1
                      try clear c2
                      try clear p2
                      try clear c3
                      try clear p3
                      try clear q3
                      try clear hx3
                      try clear hf3
                      try clear c4
                      try clear p4
                      try clear q4
                      try clear hx4
                      try clear hf4
                      try clear c5
                      try clear p6
                      try clear c8
                      try clear c13
                      try clear c14
                      try clear c16
                      try clear c17
                      try clear c21
                      try clear c22
                      try clear c23
                      try clear c28
                      try clear c28b0
                      try clear c29
                      try clear c29b0
                      try clear p30
                      try clear q30
                      try clear hx30
                      try clear hf30
                      try clear c34
                      try clear c34b0
                      try clear c34b1
                      try clear c35
                      try clear c37
                      try clear c38
                      try clear c39
                      try clear c40
                      try clear c44
                      try clear c44b0
                      try clear c45
                      try clear c45b0
                      try clear p46
                      try clear q46
                      try clear hx46
                      try clear hf46
                      try clear c47
                      try clear c48
                      try clear c49
                      try clear c54
                      try clear c55
                      try clear c56
                      try clear c57
                      try clear hcz15_0
                      try clear hcz15_1
                      try clear hcz17_0
                      try clear hcz17_1
                      try clear hcz24_0
                      try clear hcz24_1
                      try clear hcz26_0
                      try clear hcz26_1
                      try clear hcz40_0
                      try clear hcz40_1
                      try clear hcz43_0
                      try clear hcz43_1
                      try clear hcz50_0
                      try clear hcz50_1
                      try clear hcz58_0
                      try clear hcz58_1
                      try clear hcz62_0
                      try clear hcz62_1
                      try clear hcz9_0
                      try clear hcz9_1
                      try clear hfz15_0
                      try clear hfz15_1
                      try clear hfz17_0
                      try clear hfz17_1
                      try clear hfz24_0
                      try clear hfz24_1
                      try clear hfz26_0
                      try clear hfz26_1
                      try clear hfz40_0
                      try clear hfz40_1
                      try clear hfz43_0
                      try clear hfz43_1
                      try clear hfz50_0
                      try clear hfz50_1
                      try clear hfz58_0
                      try clear hfz58_1
                      try clear hfz62_0
                      try clear hfz62_1
                      try clear hfz9_0
                      try clear hfz9_1
                      try clear hx30_0
                      try clear hx46_0
                      try clear p2
                      try clear p3
                      try clear p30
                      try clear p46
                      try clear p6
                      try clear q3
                      try clear q30
                      try clear q46
                      obtain ⟨x11_3, x644000_3, x644001_3, x652000_3, x652001_3, u644000, u644001, u652000, u652001, rfl, HA, HK3, HO_644000, HO_644001, HO_652000, HO_652001, BK635, BK636, BK643, BK651, HB⟩ := hrel
                      cases gk with
                      | zero => exact absurd HA.out (by simp [tollgatelaw03_MemberOwn.l2])
                      | succ k3 =>
                        have H := HA.out
                        clear HA
                        simp only [tollgatelaw03_MemberOwn.l2] at H
                        by_cases c63 : x11_3 < (x652001_3.length : Int)
                        · rw [if_pos c63] at H
                          have c63b0 : decide (x11_3 < (x652001_3.length : Int)) = true := decide_eq_true c63
                          clear c63
                          by_cases c64 : 0 ≤ x11_3
                          · rw [if_pos c64] at H
                            have c64b0 : decide (0 ≤ x11_3) = true := decide_eq_true c64
                            clear c64
                            obtain ⟨y663, hy663⟩ : ∃ y_ : List Int, y_ = (x652001_3.set (x11_3 : Int).toNat 79) := ⟨_, rfl⟩
                            replace H : (tollgatelaw03_MemberOwn.l2 k3 (wrap64 (x11_3 + 1)) l0_0 l0_1 x644000_3 x644001_3 x652000_3 y663) = some r := by first | (rw [hy663]; with_reducible exact H) | (have H2_ := (Option.bind_some _ _).symm.trans H; rw [hy663]; with_reducible exact H2_) | (have H2_ := (Option.bind_some _ _).symm.trans H; with_reducible exact H2_) | with_reducible exact H | (rw [hy663]; exact H) | exact H
                            have Ny663 := Aside0.mk hy663
                            clear hy663
                            have H' := Aside0.mk H
                            clear H
                            have hnb66 := NB651_635.out
                            have hnc66 := NB635_651.out
                            have hnb67 := NB651_636.out
                            have hnc67 := NB636_651.out
                            have hnb68 := NB651_643.out
                            have hnc68 := NB643_651.out
                            have hcz69_0 : wr.cell? ⟨gb651, 0, none⟩ = some (u652000) := (blk_cell BK651.out 0).trans rfl
                            have hcz69_1 : wr.cell? ⟨gb651, 1, none⟩ = some (u652001) := (blk_cell BK651.out 1).trans rfl
                            have hfz69_0 := blk_frozen BK651.out 0
                            have hfz69_1 := blk_frozen BK651.out 1
                            obtain ⟨Ao70, co70, eo70⟩ := Kd.R_slice HO_652001.out
                            subst eo70
                            have p65 : 0 ≤ (x11_3 : Int) := of_decide_eq_true (by first | (with_reducible assumption) | assumption)
                            have q65 : (x11_3 : Int) < ((x652001_3.length : Int) : Int) := of_decide_eq_true (by first | (with_reducible assumption) | assumption)
                            obtain ⟨go65, co65, eo65, gb65, gl65, cl65, HG65⟩ := Kd.R_form HO_652001.out (by omega)
                            (first | cases eo65 | (injection eo65 with ea_ en_ ec_; (first | subst ea_ | (injection ea_ with ea_; subst ea_)); subst ec_; clear en_))
                            have GB65 := Aside0.mk gb65
                            have GG65 := Aside0.mk HG65
                            clear gb65 gl65 HG65
                            obtain ⟨hx65_0, hf65_0⟩ := Kd.R_celln 0 HO_652001.out (x11_3 : Int) p65 q65
                            replace p65 := eq_true p65
                            replace q65 := eq_true q65
                            have HP71 := Kd.R_putg HO_652001.out (x11_3 : Int) 79
                            go_wp2_with (first | ((with_reducible refine gate_store (t := 3) (p := 65) rfl ?_); refine store_event (t := 3) (p := 65) (v := ?vo_w72) (w1 := (wr.setCell ⟨go65, (x11_3 : Int).toNat, none⟩ (.int .i64 79))) ?hg ?ho ?hn ?hr ?_; (case ho => rfl); (case hg => rfl); (case hn => rfl); (case hr => first | (go_simp; done) | (go_simp; rfl)); intro w72 hw; have hg : wr.grownBy w72 (some go65) := (by rw [hw]; exact HP71.2); have hp_ : Kd.R (Kd.int .i64) 3 w72 w.heap.size (fun k_ => some k_ ≠ (u644000 : Value).ownBlock ∧ some k_ ≠ (u644001 : Value).ownBlock ∧ some k_ ≠ (u652000 : Value).ownBlock) (.slice (some ⟨go65, 0, none⟩) x652001_3.length co70) y663 := (by rw [hw, Ny663.out]; exact HP71.1); clear HP71; have n0_ := Aside0.mk (Kd.R_after (v := (.slice (some ⟨go65, 0, none⟩) x652001_3.length co70)) (v1 := (.slice (some ⟨go65, 0, none⟩) x652001_3.length co70)) (ok := (fun k_ => some k_ ≠ (u644001 : Value).ownBlock ∧ some k_ ≠ (u652000 : Value).ownBlock)) (by (with_reducible repeat (first | apply Kd.R_alloc | apply Kd.R_drewN | apply Kd.R_drew)); exact Kd.R_mono HO_644000.out (fun _ hk => ⟨⟨hk.1, hk.2.1⟩, hk.2.2⟩)) hg (.inl rfl)); have n1_ := Aside0.mk (Kd.R_after (v := (.slice (some ⟨go65, 0, none⟩) x652001_3.length co70)) (v1 := (.slice (some ⟨go65, 0, none⟩) x652001_3.length co70)) (ok := (fun k_ => some k_ ≠ (u644000 : Value).ownBlock ∧ some k_ ≠ (u652000 : Value).ownBlock)) (by (with_reducible repeat (first | apply Kd.R_alloc | apply Kd.R_drewN | apply Kd.R_drew)); exact Kd.R_mono HO_644001.out (fun _ hk => ⟨⟨hk.1, hk.2.1⟩, hk.2.2⟩)) hg (.inl rfl)); have n2_ := Aside0.mk (Kd.R_after (v := (.slice (some ⟨go65, 0, none⟩) x652001_3.length co70)) (v1 := (.slice (some ⟨go65, 0, none⟩) x652001_3.length co70)) (ok := (fun k_ => some k_ ≠ (u644000 : Value).ownBlock ∧ some k_ ≠ (u644001 : Value).ownBlock)) (by (with_reducible repeat (first | apply Kd.R_alloc | apply Kd.R_drewN | apply Kd.R_drew)); exact Kd.R_mono HO_652000.out (fun _ hk => ⟨⟨hk.1, hk.2.1⟩, hk.2.2⟩)) hg (.inl rfl)); have n3_ := Aside0.mk (hp_); have n4_ := Aside0.mk (blk_grown (g := gb635) (o := .cells #[.slice A0_0 l0_0.length c0_0, .slice A0_1 l0_1.length c0_1] 24 (0, 0)) (by (with_reducible repeat (first | refine blk_drewN ?_ _ | refine blk_drew ?_ | refine blk_alloc ?_ _)); exact BK635.out) hg (Kd.R_ne HO_652001.out BK635.out (by decide))); have n5_ := Aside0.mk (blk_grown (g := gb636) (o := .cells #[.int .i64 a1_0, .int .i64 a1_1] 55 (0, 0)) (by (with_reducible repeat (first | refine blk_drewN ?_ _ | refine blk_drew ?_ | refine blk_alloc ?_ _)); exact BK636.out) hg (Kd.R_ne HO_652001.out BK636.out (by decide))); have n6_ := Aside0.mk (blk_grown (g := gb643) (o := .cells #[u644000, u644001] 24 (0, 0)) (by (with_reducible repeat (first | refine blk_drewN ?_ _ | refine blk_drew ?_ | refine blk_alloc ?_ _)); exact BK643.out) hg (Kd.R_ne HO_652001.out BK643.out (by decide))); have n7_ := Aside0.mk (blk_grown (g := gb651) (o := .cells #[u652000, .slice (some ⟨go65, 0, none⟩) x652001_3.length co70] 24 (0, 0)) (by (with_reducible repeat (first | refine blk_drewN ?_ _ | refine blk_drew ?_ | refine blk_alloc ?_ _)); exact BK651.out) hg (Kd.R_ne HO_652001.out BK651.out (by decide))); have n8_ := Aside0.mk ((by rw [hw]; exact below_set (HB.out) GB65.out : Below w.heap.size w w72)); clear HO_644000; clear HO_644001; clear HO_652000; clear HO_652001; clear BK635; clear BK636; clear BK643; clear BK651; clear HB; have HO_644000 := n0_; have HO_644001 := n1_; have HO_652000 := n2_; have HO_652001 := n3_; have BK635 := n4_; have BK636 := n5_; have BK643 := n6_; have BK651 := n7_; have HB := n8_; clear n0_ n1_ n2_ n3_ n4_ n5_ n6_ n7_ n8_; clear hg hw hp_))
                            go_roundg k3
                            case measure => have := HK1.out; have := HK2.out; have := HK3.out; omega
                            case rel => exact ⟨(wrap64 (x11_3 + 1)), (x644000_3), (x644001_3), (x652000_3), (y663), (u644000), (u644001), (u652000), (.slice (some ⟨go65, 0, none⟩) x652001_3.length co70), (by first | rfl | (simp; done) | (simp [*]; done)), H', ⟨by have := HK1.out; have := HK2.out; have := HK3.out; omega⟩, ⟨by (with_reducible repeat (first | apply Kd.R_alloc | apply Kd.R_drewN | apply Kd.R_drew)); exact Kd.R_mono HO_644000.out (fun _ hk => ⟨hk.1.1, ⟨hk.1.2, hk.2⟩⟩)⟩, ⟨by (with_reducible repeat (first | apply Kd.R_alloc | apply Kd.R_drewN | apply Kd.R_drew)); exact Kd.R_mono HO_644001.out (fun _ hk => ⟨hk.1.1, ⟨hk.1.2, hk.2⟩⟩)⟩, ⟨by (with_reducible repeat (first | apply Kd.R_alloc | apply Kd.R_drewN | apply Kd.R_drew)); exact Kd.R_mono HO_652000.out (fun _ hk => ⟨hk.1.1, ⟨hk.1.2, hk.2⟩⟩)⟩, ⟨by (with_reducible repeat (first | apply Kd.R_alloc | apply Kd.R_drewN | apply Kd.R_drew)); exact HO_652001.out⟩, ⟨by (with_reducible repeat (first | refine blk_drewN ?_ _ | refine blk_drew ?_ | refine blk_alloc ?_ _)); exact BK635.out⟩, ⟨by (with_reducible repeat (first | refine blk_drewN ?_ _ | refine blk_drew ?_ | refine blk_alloc ?_ _)); exact BK636.out⟩, ⟨by (with_reducible repeat (first | refine blk_drewN ?_ _ | refine blk_drew ?_ | refine blk_alloc ?_ _)); exact BK643.out⟩, ⟨by (with_reducible repeat (first | refine blk_drewN ?_ _ | refine blk_drew ?_ | refine blk_alloc ?_ _)); exact BK651.out⟩, ⟨by repeat (first | (with_reducible first | exact HB.out | apply below_alloc | apply pw_below_drewN | apply below_drew1 | refine below_set ?_ GE635.out | refine below_set ?_ GE636.out | refine below_set ?_ GE643.out | refine below_set ?_ GE651.out) | exact HB.out)⟩⟩
                          · rw [if_neg c64] at H
                            exact absurd H (by simp)
                        · rw [if_neg c63] at H
                          have c63b0 : decide (x11_3 < (x652001_3.length : Int)) = false := decide_eq_false c63
                          clear c63
                          have H' := Aside0.mk H
                          clear H
                          have hnb73 := NB651_635.out
                          have hnc73 := NB635_651.out
                          have hnb74 := NB651_636.out
                          have hnc74 := NB636_651.out
                          have hnb75 := NB651_643.out
                          have hnc75 := NB643_651.out
                          have hcz76_0 : wr.cell? ⟨gb651, 0, none⟩ = some (u652000) := (blk_cell BK651.out 0).trans rfl
                          have hcz76_1 : wr.cell? ⟨gb651, 1, none⟩ = some (u652001) := (blk_cell BK651.out 1).trans rfl
                          have hfz76_0 := blk_frozen BK651.out 0
                          have hfz76_1 := blk_frozen BK651.out 1
                          obtain ⟨Ao77, co77, eo77⟩ := Kd.R_slice HO_652001.out
                          subst eo77
                          go_wp2
                          go_loopg [12] k3 (fun kq v12 w' => ∃ (x12_4 : Int), v12 = .int .i64 x12_4 ∧ Aside0 (tollgatelaw03_MemberOwn.l3 kq x12_4 l0_0 l0_1 x644000_3 x644001_3 x652000_3 x652001_3 = some r) ∧ Aside0 (kq ≤ k3) ∧ Aside0 (Kd.R (Kd.int .i64) 3 w' w.heap.size (fun k_ => some k_ ≠ (u644001 : Value).ownBlock ∧ some k_ ≠ (u652000 : Value).ownBlock ∧ some k_ ≠ ((.slice Ao77 x652001_3.length co77) : Value).ownBlock) u644000 x644000_3) ∧ Aside0 (Kd.R (Kd.int .i64) 3 w' w.heap.size (fun k_ => some k_ ≠ (u644000 : Value).ownBlock ∧ some k_ ≠ (u652000 : Value).ownBlock ∧ some k_ ≠ ((.slice Ao77 x652001_3.length co77) : Value).ownBlock) u644001 x644001_3) ∧ Aside0 (Kd.R (Kd.int .i64) 3 w' w.heap.size (fun k_ => some k_ ≠ (u644000 : Value).ownBlock ∧ some k_ ≠ (u644001 : Value).ownBlock ∧ some k_ ≠ ((.slice Ao77 x652001_3.length co77) : Value).ownBlock) u652000 x652000_3) ∧ Aside0 (Kd.R (Kd.int .i64) 3 w' w.heap.size (fun k_ => some k_ ≠ (u644000 : Value).ownBlock ∧ some k_ ≠ (u644001 : Value).ownBlock ∧ some k_ ≠ (u652000 : Value).ownBlock) (.slice Ao77 x652001_3.length co77) x652001_3) ∧ Aside0 (w'.heap[gb635]? = some (.cells #[(.slice A0_0 l0_0.length c0_0), (.slice A0_1 l0_1.length c0_1)] 24 (0, 0))) ∧ Aside0 (w'.heap[gb636]? = some (.cells #[.int .i64 a1_0, .int .i64 a1_1] 55 (0, 0))) ∧ Aside0 (w'.heap[gb643]? = some (.cells #[u644000, u644001] 24 (0, 0))) ∧ Aside0 (w'.heap[gb651]? = some (.cells #[u652000, (.slice Ao77 x652001_3.length co77)] 24 (0, 0))) ∧ Aside0 (Below w.heap.size w w'))
                          case atStart => exact ⟨(0), (by first | rfl | (simp; done) | (simp [*]; done)), H', ⟨Nat.le_refl _⟩, ⟨by (with_reducible repeat (first | apply Kd.R_alloc | apply Kd.R_drewN | apply Kd.R_drew)); exact HO_644000.out⟩, ⟨by (with_reducible repeat (first | apply Kd.R_alloc | apply Kd.R_drewN | apply Kd.R_drew)); exact HO_644001.out⟩, ⟨by (with_reducible repeat (first | apply Kd.R_alloc | apply Kd.R_drewN | apply Kd.R_drew)); exact HO_652000.out⟩, ⟨by (with_reducible repeat (first | apply Kd.R_alloc | apply Kd.R_drewN | apply Kd.R_drew)); exact HO_652001.out⟩, ⟨by (with_reducible repeat (first | refine blk_drewN ?_ _ | refine blk_drew ?_ | refine blk_alloc ?_ _)); exact BK635.out⟩, ⟨by (with_reducible repeat (first | refine blk_drewN ?_ _ | refine blk_drew ?_ | refine blk_alloc ?_ _)); exact BK636.out⟩, ⟨by (with_reducible repeat (first | refine blk_drewN ?_ _ | refine blk_drew ?_ | refine blk_alloc ?_ _)); exact BK643.out⟩, ⟨by (with_reducible repeat (first | refine blk_drewN ?_ _ | refine blk_drew ?_ | refine blk_alloc ?_ _)); exact BK651.out⟩, ⟨by repeat (first | (with_reducible first | exact HB.out | apply below_alloc | apply pw_below_drewN | apply below_drew1 | refine below_set ?_ GE635.out | refine below_set ?_ GE636.out | refine below_set ?_ GE643.out | refine below_set ?_ GE651.out) | exact HB.out)⟩⟩
                          case round =>
                            clear H'
                            try clear c1
                            try clear c2
                            try clear p2
                            try clear c3
                            try clear p3
                            try clear q3
                            try clear hx3
                            try clear hf3
                            try clear c4
                            try clear p4
                            try clear q4
                            try clear hx4
                            try clear hf4
                            try clear c5
                            try clear c6
                            try clear p6
                            try clear q6
                            try clear hx6
                            try clear hf6
                            try clear c7
                            try clear c8
                            try clear c13
                            try clear c14
                            try clear c16
                            try clear c17
                            try clear c21
                            try clear c22
                            try clear c23
                            try clear c28
                            try clear c28b0
                            try clear c29
                            try clear c29b0
                            try clear p30
                            try clear q30
                            try clear hx30
                            try clear hf30
                            try clear c34
                            try clear c34b0
                            try clear c34b1
                            try clear c35
                            try clear c37
                            try clear c38
                            try clear c39
                            try clear c40
                            try clear c44
                            try clear c44b0
                            try clear c45
                            try clear c45b0
                            try clear p46
                            try clear q46
                            try clear hx46
                            try clear hf46
                            try clear c47
                            try clear c48
                            try clear c49
                            try clear c54
                            try clear c55
                            try clear c56
                            try clear c57
                            try clear c63
                            try clear c63b0
                            try clear c64
                            try clear c64b0
                            try clear p64
                            try clear p65
                            try clear q65
                            try clear hx65
                            try clear hf65
                            try clear c66
                            try clear c67
                            try clear c68
                            try clear c73
                            try clear c74
                            try clear c75
                            try clear hcz15_0
                            try clear hcz15_1
                            try clear hcz17_0
                            try clear hcz17_1
                            try clear hcz24_0
                            try clear hcz24_1
                            try clear hcz26_0
                            try clear hcz26_1
                            try clear hcz40_0
                            try clear hcz40_1
                            try clear hcz43_0
                            try clear hcz43_1
                            try clear hcz50_0
                            try clear hcz50_1
                            try clear hcz58_0
                            try clear hcz58_1
                            try clear hcz62_0
                            try clear hcz62_1
                            try clear hcz69_0
                            try clear hcz69_1
                            try clear hcz76_0
                            try clear hcz76_1
                            try clear hcz9_0
                            try clear hcz9_1
                            try clear hfz15_0
                            try clear hfz15_1
                            try clear hfz17_0
                            try clear hfz17_1
                            try clear hfz24_0
                            try clear hfz24_1
                            try clear hfz26_0
                            try clear hfz26_1
                            try clear hfz40_0
                            try clear hfz40_1
                            try clear hfz43_0
                            try clear hfz43_1
                            try clear hfz50_0
                            try clear hfz50_1
                            try clear hfz58_0
                            try clear hfz58_1
                            try clear hfz62_0
                            try clear hfz62_1
                            try clear hfz69_0
                            try clear hfz69_1
                            try clear hfz76_0
                            try clear hfz76_1
                            try clear hfz9_0
                            try clear hfz9_1
                            try clear hx30_0
                            try clear hx46_0
                            try clear hx65_0
                            try clear p2
                            try clear p3
                            try clear p30
                            try clear p4
                            try clear p46
                            try clear p6
                            try clear p65
                            try clear q3
                            try clear q30
                            try clear q4
                            try clear q46
                            try clear q65
                            obtain ⟨x12_4, rfl, HA, HK4, HO_644000, HO_644001, HO_652000, HO_652001, BK635, BK636, BK643, BK651, HB⟩ := hrel
                            cases gk with
                            | zero => exact absurd HA.out (by simp [tollgatelaw03_MemberOwn.l3])
                            | succ k4 =>
                              have H := HA.out
                              clear HA
                              simp only [tollgatelaw03_MemberOwn.l3] at H
                              by_cases c78 : x12_4 < (x652000_3.length : Int)
                              · rw [if_pos c78] at H
                                have c78b0 : decide (x12_4 < (x652000_3.length : Int)) = true := decide_eq_true c78
                                clear c78
                                by_cases c79 : 0 ≤ x12_4
                                · rw [if_pos c79] at H
                                  have c79b0 : decide (0 ≤ x12_4) = true := decide_eq_true c79
                                  clear c79
                                  by_cases c80 : (rd x652000_3 x12_4) = 78
                                  · rw [if_pos c80] at H
                                    have c80b0 : ((rd x652000_3 x12_4) == 78) = true := beq_iff_eq.mpr c80
                                    have c80b1 : ((rd x652000_3 x12_4) != 78) = false := bne_eq_false_iff_eq.mpr c80
                                    clear c80
                                    have H' := Aside0.mk H
                                    clear H
                                    have hnb81 := NB651_635.out
                                    have hnc81 := NB635_651.out
                                    have hnb82 := NB651_636.out
                                    have hnc82 := NB636_651.out
                                    have hnb83 := NB651_643.out
                                    have hnc83 := NB643_651.out
                                    have hcz84_0 : wr.cell? ⟨gb651, 0, none⟩ = some (u652000) := (blk_cell BK651.out 0).trans rfl
                                    have hcz84_1 : wr.cell? ⟨gb651, 1, none⟩ = some (.slice Ao77 x652001_3.length co77) := (blk_cell BK651.out 1).trans rfl
                                    have hfz84_0 := blk_frozen BK651.out 0
                                    have hfz84_1 := blk_frozen BK651.out 1
                                    obtain ⟨Ao85, co85, eo85⟩ := Kd.R_slice HO_652000.out
                                    subst eo85
                                    have p664 : 0 ≤ (x12_4 : Int) := of_decide_eq_true (by first | (with_reducible assumption) | assumption)
                                    have q664 : x12_4 < (x652000_3.length : Int) := of_decide_eq_true (by first | (with_reducible assumption) | assumption)
                                    obtain ⟨ad664, e664, hx664_0⟩ := Kd.at_int (Kd.R_reads' HO_652000.out).2.2 x12_4 p664 q664
                                    cases e664
                                    replace p664 := eq_true p664
                                    replace q664 := eq_true q664
                                    go_wp2
                                    go_roundg k4
                                    case measure => have := HK1.out; have := HK2.out; have := HK3.out; have := HK4.out; omega
                                    case rel => exact ⟨(wrap64 (x12_4 + 1)), (by first | rfl | (simp; done) | (simp [*]; done)), H', ⟨by have := HK1.out; have := HK2.out; have := HK3.out; have := HK4.out; omega⟩, ⟨by (with_reducible repeat (first | apply Kd.R_alloc | apply Kd.R_drewN | apply Kd.R_drew)); exact HO_644000.out⟩, ⟨by (with_reducible repeat (first | apply Kd.R_alloc | apply Kd.R_drewN | apply Kd.R_drew)); exact HO_644001.out⟩, ⟨by (with_reducible repeat (first | apply Kd.R_alloc | apply Kd.R_drewN | apply Kd.R_drew)); exact HO_652000.out⟩, ⟨by (with_reducible repeat (first | apply Kd.R_alloc | apply Kd.R_drewN | apply Kd.R_drew)); exact HO_652001.out⟩, ⟨by (with_reducible repeat (first | refine blk_drewN ?_ _ | refine blk_drew ?_ | refine blk_alloc ?_ _)); exact BK635.out⟩, ⟨by (with_reducible repeat (first | refine blk_drewN ?_ _ | refine blk_drew ?_ | refine blk_alloc ?_ _)); exact BK636.out⟩, ⟨by (with_reducible repeat (first | refine blk_drewN ?_ _ | refine blk_drew ?_ | refine blk_alloc ?_ _)); exact BK643.out⟩, ⟨by (with_reducible repeat (first | refine blk_drewN ?_ _ | refine blk_drew ?_ | refine blk_alloc ?_ _)); exact BK651.out⟩, ⟨by repeat (first | (with_reducible first | exact HB.out | apply below_alloc | apply pw_below_drewN | apply below_drew1 | refine below_set ?_ GE635.out | refine below_set ?_ GE636.out | refine below_set ?_ GE643.out | refine below_set ?_ GE651.out) | exact HB.out)⟩⟩
                                  · rw [if_neg c80] at H
                                    have c80b0 : ((rd x652000_3 x12_4) == 78) = false := beq_eq_false_iff_ne.mpr c80
                                    have c80b1 : ((rd x652000_3 x12_4) != 78) = true := bne_iff_ne.mpr c80
                                    obtain rfl := Option.some.inj H
                                    have hnb86 := NB651_635.out
                                    have hnc86 := NB635_651.out
                                    have hnb87 := NB651_636.out
                                    have hnc87 := NB636_651.out
                                    have hnb88 := NB651_643.out
                                    have hnc88 := NB643_651.out
                                    have hcz89_0 : wr.cell? ⟨gb651, 0, none⟩ = some (u652000) := (blk_cell BK651.out 0).trans rfl
                                    have hcz89_1 : wr.cell? ⟨gb651, 1, none⟩ = some (.slice Ao77 x652001_3.length co77) := (blk_cell BK651.out 1).trans rfl
                                    have hfz89_0 := blk_frozen BK651.out 0
                                    have hfz89_1 := blk_frozen BK651.out 1
                                    obtain ⟨Ao90, co90, eo90⟩ := Kd.R_slice HO_652000.out
                                    subst eo90
                                    have p664 : 0 ≤ (x12_4 : Int) := of_decide_eq_true (by first | (with_reducible assumption) | assumption)
                                    have q664 : x12_4 < (x652000_3.length : Int) := of_decide_eq_true (by first | (with_reducible assumption) | assumption)
                                    obtain ⟨ad664, e664, hx664_0⟩ := Kd.at_int (Kd.R_reads' HO_652000.out).2.2 x12_4 p664 q664
                                    cases e664
                                    replace p664 := eq_true p664
                                    replace q664 := eq_true q664
                                    go_wp2
                                    go_ret
                                    exact ⟨by first | rfl | (simp [errW_none, errW_some] <;> rfl) | (simp [*, errW_none, errW_some] <;> rfl), by repeat (first | (with_reducible first | exact HB.out | apply below_alloc | apply pw_below_drewN | apply below_drew1 | refine below_set ?_ GE635.out | refine below_set ?_ GE636.out | refine below_set ?_ GE643.out | refine below_set ?_ GE651.out) | exact HB.out)⟩
                                · rw [if_neg c79] at H
                                  exact absurd H (by simp)
                              · rw [if_neg c78] at H
                                have c78b0 : decide (x12_4 < (x652000_3.length : Int)) = false := decide_eq_false c78
                                clear c78
                                replace H := Option.bind_eq_some_iff.mp H
                                obtain ⟨t665, A910, H⟩ := H
                                replace H : (if t665 = true then ((tollgateref03_Same.f k4 x644000_3 x644001_3 l0_0 l0_1).bind fun t666 => (some t666)) else (some false)) = some r := H
                                have A91 := Aside0.mk A910
                                clear A910
                                by_cases c92 : t665 = true
                                · subst c92
                                  have H1 : ((tollgateref03_Same.f k4 x644000_3 x644001_3 l0_0 l0_1).bind fun t666 => (some t666)) = some r := by rw [if_pos rfl] at H; exact H
                                  clear H
                                  have H := H1
                                  clear H1
                                  replace H := Option.bind_eq_some_iff.mp H
                                  obtain ⟨t666, A930, H⟩ := H
                                  replace H : (some t666) = some r := H
                                  have A93 := Aside0.mk A930
                                  clear A930
                                  obtain rfl := Option.some.inj H
                                  have hnb94 := NB651_635.out
                                  have hnc94 := NB635_651.out
                                  have hnb95 := NB651_636.out
                                  have hnc95 := NB636_651.out
                                  have hnb96 := NB651_643.out
                                  have hnc96 := NB643_651.out
                                  have hcz97_0 : wr.cell? ⟨gb651, 0, none⟩ = some (u652000) := (blk_cell BK651.out 0).trans rfl
                                  have hcz97_1 : wr.cell? ⟨gb651, 1, none⟩ = some (.slice Ao77 x652001_3.length co77) := (blk_cell BK651.out 1).trans rfl
                                  have hfz97_0 := blk_frozen BK651.out 0
                                  have hfz97_1 := blk_frozen BK651.out 1
                                  obtain ⟨Ao98, co98, eo98⟩ := Kd.R_slice HO_652000.out
                                  subst eo98
                                  go_wp2_with (first | ((with_reducible refine gate_callee (f := 19) rfl ?_); refine goesL_ (some 79) rfl rfl Try.func19 (by kernel_rfl) rfl #[] rfl (by (try simp only [List.map_toArray, List.map_cons, List.map_nil]); first | done | rfl | (simp only [List.length_drop, List.length_take]; rfl)) ?_; (with_reducible refine (tollgatelaw03_live.calls k4  true _ A91.out).mono ?_); rintro e w99 ⟨rfl, hb⟩; refine ⟨_, rfl, ?_⟩; have n0_ := Aside0.mk (Kd.R_below (by (with_reducible repeat (first | apply Kd.R_alloc | apply Kd.R_drewN | apply Kd.R_drew)); exact HO_644000.out) hb); have n1_ := Aside0.mk (Kd.R_below (by (with_reducible repeat (first | apply Kd.R_alloc | apply Kd.R_drewN | apply Kd.R_drew)); exact HO_644001.out) hb); have n2_ := Aside0.mk (Kd.R_below (by (with_reducible repeat (first | apply Kd.R_alloc | apply Kd.R_drewN | apply Kd.R_drew)); exact HO_652000.out) hb); have n3_ := Aside0.mk (Kd.R_below (by (with_reducible repeat (first | apply Kd.R_alloc | apply Kd.R_drewN | apply Kd.R_drew)); exact HO_652001.out) hb); have n4_ := Aside0.mk (blk_below (g := gb635) (o := .cells #[.slice A0_0 l0_0.length c0_0, .slice A0_1 l0_1.length c0_1] 24 (0, 0)) (by (with_reducible repeat (first | refine blk_drewN ?_ _ | refine blk_drew ?_ | refine blk_alloc ?_ _)); exact BK635.out) hb); have n5_ := Aside0.mk (blk_below (g := gb636) (o := .cells #[.int .i64 a1_0, .int .i64 a1_1] 55 (0, 0)) (by (with_reducible repeat (first | refine blk_drewN ?_ _ | refine blk_drew ?_ | refine blk_alloc ?_ _)); exact BK636.out) hb); have n6_ := Aside0.mk (blk_below (g := gb643) (o := .cells #[u644000, u644001] 24 (0, 0)) (by (with_reducible repeat (first | refine blk_drewN ?_ _ | refine blk_drew ?_ | refine blk_alloc ?_ _)); exact BK643.out) hb); have n7_ := Aside0.mk (blk_below (g := gb651) (o := .cells #[.slice Ao98 x652000_3.length co98, .slice Ao77 x652001_3.length co77] 24 (0, 0)) (by (with_reducible repeat (first | refine blk_drewN ?_ _ | refine blk_drew ?_ | refine blk_alloc ?_ _)); exact BK651.out) hb); have n8_ := Aside0.mk (below_step (by repeat (first | (with_reducible first | exact HB.out | apply below_alloc | apply pw_below_drewN | apply below_drew1 | refine below_set ?_ GE635.out | refine below_set ?_ GE636.out | refine below_set ?_ GE643.out | refine below_set ?_ GE651.out) | exact HB.out)) hb); clear HO_644000; clear HO_644001; clear HO_652000; clear HO_652001; clear BK635; clear BK636; clear BK643; clear BK651; clear HB; have HO_644000 := n0_; have HO_644001 := n1_; have HO_652000 := n2_; have HO_652001 := n3_; have BK635 := n4_; have BK636 := n5_; have BK643 := n6_; have BK651 := n7_; have HB := n8_; clear n0_ n1_ n2_ n3_ n4_ n5_ n6_ n7_ n8_; (try clear hb); (try clear hb2); (try clear hk); (try clear hi); have hnb100 := NB643_635.out; have hnc100 := NB635_643.out; have hnb101 := NB643_636.out; have hnc101 := NB636_643.out; have hcz102_0 : w99.cell? ⟨gb643, 0, none⟩ = some (u644000) := (blk_cell BK643.out 0).trans rfl; have hcz102_1 : w99.cell? ⟨gb643, 1, none⟩ = some (u644001) := (blk_cell BK643.out 1).trans rfl; have hfz102_0 := blk_frozen BK643.out 0; have hfz102_1 := blk_frozen BK643.out 1; have hnb103 := NB635_636.out; have hnc103 := NB636_635.out; have hcz104_0 : w99.cell? ⟨gb635, 0, none⟩ = some (.slice A0_0 l0_0.length c0_0) := (blk_cell BK635.out 0).trans rfl; have hcz104_1 : w99.cell? ⟨gb635, 1, none⟩ = some (.slice A0_1 l0_1.length c0_1) := (blk_cell BK635.out 1).trans rfl; have hfz104_0 := blk_frozen BK635.out 0; have hfz104_1 := blk_frozen BK635.out 1; obtain ⟨Ao105, co105, eo105⟩ := Kd.R_slice HO_644000.out; subst eo105; obtain ⟨Ao106, co106, eo106⟩ := Kd.R_slice HO_644001.out; subst eo106) | (go_at_call 21; (with_reducible refine (tollgateref03_Same.calls k4 _ _ x644000_3 _ _ x644001_3 _ _ l0_0 _ _ l0_1 t666 _ ?side1 ?side2 ?side3 ?side4 ?side5 ?side6 ?side7 ?side8 A93.out).mono ?_); (case side1 => repeat (first | exact (Kd.R_reads' HO_644000.out).2.2 | (with_reducible refine Kd.C_alloc ?_ _) | (with_reducible refine Kd.C_drewN ?_ _) | (with_reducible refine Kd.C_drew ?_))); (case side2 => exact (Kd.R_reads' HO_644000.out).2.1); (case side3 => repeat (first | exact (Kd.R_reads' HO_644001.out).2.2 | (with_reducible refine Kd.C_alloc ?_ _) | (with_reducible refine Kd.C_drewN ?_ _) | (with_reducible refine Kd.C_drew ?_))); (case side4 => exact (Kd.R_reads' HO_644001.out).2.1); (case side5 => repeat (first | exact (Kd.C_below HR0_0.out HB.out) | (with_reducible refine Kd.C_alloc ?_ _) | (with_reducible refine Kd.C_drewN ?_ _) | (with_reducible refine Kd.C_drew ?_))); (case side6 => exact HC0_0.out); (case side7 => repeat (first | exact (Kd.C_below HR0_1.out HB.out) | (with_reducible refine Kd.C_alloc ?_ _) | (with_reducible refine Kd.C_drewN ?_ _) | (with_reducible refine Kd.C_drew ?_))); (case side8 => exact HC0_1.out); rintro e w107 ⟨rfl, hb⟩; have n0_ := Aside0.mk (Kd.R_below (by (with_reducible repeat (first | apply Kd.R_alloc | apply Kd.R_drewN | apply Kd.R_drew)); exact HO_644000.out) hb); have n1_ := Aside0.mk (Kd.R_below (by (with_reducible repeat (first | apply Kd.R_alloc | apply Kd.R_drewN | apply Kd.R_drew)); exact HO_644001.out) hb); have n2_ := Aside0.mk (Kd.R_below (by (with_reducible repeat (first | apply Kd.R_alloc | apply Kd.R_drewN | apply Kd.R_drew)); exact HO_652000.out) hb); have n3_ := Aside0.mk (Kd.R_below (by (with_reducible repeat (first | apply Kd.R_alloc | apply Kd.R_drewN | apply Kd.R_drew)); exact HO_652001.out) hb); have n4_ := Aside0.mk (blk_below (g := gb635) (o := .cells #[.slice A0_0 l0_0.length c0_0, .slice A0_1 l0_1.length c0_1] 24 (0, 0)) (by (with_reducible repeat (first | refine blk_drewN ?_ _ | refine blk_drew ?_ | refine blk_alloc ?_ _)); exact BK635.out) hb); have n5_ := Aside0.mk (blk_below (g := gb636) (o := .cells #[.int .i64 a1_0, .int .i64 a1_1] 55 (0, 0)) (by (with_reducible repeat (first | refine blk_drewN ?_ _ | refine blk_drew ?_ | refine blk_alloc ?_ _)); exact BK636.out) hb); have n6_ := Aside0.mk (blk_below (g := gb643) (o := .cells #[.slice Ao105 x644000_3.length co105, .slice Ao106 x644001_3.length co106] 24 (0, 0)) (by (with_reducible repeat (first | refine blk_drewN ?_ _ | refine blk_drew ?_ | refine blk_alloc ?_ _)); exact BK643.out) hb); have n7_ := Aside0.mk (blk_below (g := gb651) (o := .cells #[.slice Ao98 x652000_3.length co98, .slice Ao77 x652001_3.length co77] 24 (0, 0)) (by (with_reducible repeat (first | refine blk_drewN ?_ _ | refine blk_drew ?_ | refine blk_alloc ?_ _)); exact BK651.out) hb); have n8_ := Aside0.mk (below_step (by repeat (first | (with_reducible first | exact HB.out | apply below_alloc | apply pw_below_drewN | apply below_drew1 | refine below_set ?_ GE635.out | refine below_set ?_ GE636.out | refine below_set ?_ GE643.out | refine below_set ?_ GE651.out) | exact HB.out)) hb); clear HO_644000; clear HO_644001; clear HO_652000; clear HO_652001; clear BK635; clear BK636; clear BK643; clear BK651; clear HB; have HO_644000 := n0_; have HO_644001 := n1_; have HO_652000 := n2_; have HO_652001 := n3_; have BK635 := n4_; have BK636 := n5_; have BK643 := n6_; have BK651 := n7_; have HB := n8_; clear n0_ n1_ n2_ n3_ n4_ n5_ n6_ n7_ n8_; (try clear hb); (try clear hb2); (try clear hk); (try clear hi)))
                                  go_ret
                                  exact ⟨by first | rfl | (simp [errW_none, errW_some] <;> rfl) | (simp [*, errW_none, errW_some] <;> rfl), by repeat (first | (with_reducible first | exact HB.out | apply below_alloc | apply pw_below_drewN | apply below_drew1 | refine below_set ?_ GE635.out | refine below_set ?_ GE636.out | refine below_set ?_ GE643.out | refine below_set ?_ GE651.out) | exact HB.out)⟩
                                · replace c92 := Bool.eq_false_iff.mpr c92
                                  subst c92
                                  have H1 : (some false) = some r := by rw [if_neg (show ¬ (false = true) by decide)] at H; exact H
                                  clear H
                                  have H := H1
                                  clear H1
                                  obtain rfl := Option.some.inj H
                                  have hnb108 := NB651_635.out
                                  have hnc108 := NB635_651.out
                                  have hnb109 := NB651_636.out
                                  have hnc109 := NB636_651.out
                                  have hnb110 := NB651_643.out
                                  have hnc110 := NB643_651.out
                                  have hcz111_0 : wr.cell? ⟨gb651, 0, none⟩ = some (u652000) := (blk_cell BK651.out 0).trans rfl
                                  have hcz111_1 : wr.cell? ⟨gb651, 1, none⟩ = some (.slice Ao77 x652001_3.length co77) := (blk_cell BK651.out 1).trans rfl
                                  have hfz111_0 := blk_frozen BK651.out 0
                                  have hfz111_1 := blk_frozen BK651.out 1
                                  obtain ⟨Ao112, co112, eo112⟩ := Kd.R_slice HO_652000.out
                                  subst eo112
                                  go_wp2_with (first | ((with_reducible refine gate_callee (f := 19) rfl ?_); refine goesL_ (some 79) rfl rfl Try.func19 (by kernel_rfl) rfl #[] rfl (by (try simp only [List.map_toArray, List.map_cons, List.map_nil]); first | done | rfl | (simp only [List.length_drop, List.length_take]; rfl)) ?_; (with_reducible refine (tollgatelaw03_live.calls k4  false _ A91.out).mono ?_); rintro e w113 ⟨rfl, hb⟩; refine ⟨_, rfl, ?_⟩; have n0_ := Aside0.mk (Kd.R_below (by (with_reducible repeat (first | apply Kd.R_alloc | apply Kd.R_drewN | apply Kd.R_drew)); exact HO_644000.out) hb); have n1_ := Aside0.mk (Kd.R_below (by (with_reducible repeat (first | apply Kd.R_alloc | apply Kd.R_drewN | apply Kd.R_drew)); exact HO_644001.out) hb); have n2_ := Aside0.mk (Kd.R_below (by (with_reducible repeat (first | apply Kd.R_alloc | apply Kd.R_drewN | apply Kd.R_drew)); exact HO_652000.out) hb); have n3_ := Aside0.mk (Kd.R_below (by (with_reducible repeat (first | apply Kd.R_alloc | apply Kd.R_drewN | apply Kd.R_drew)); exact HO_652001.out) hb); have n4_ := Aside0.mk (blk_below (g := gb635) (o := .cells #[.slice A0_0 l0_0.length c0_0, .slice A0_1 l0_1.length c0_1] 24 (0, 0)) (by (with_reducible repeat (first | refine blk_drewN ?_ _ | refine blk_drew ?_ | refine blk_alloc ?_ _)); exact BK635.out) hb); have n5_ := Aside0.mk (blk_below (g := gb636) (o := .cells #[.int .i64 a1_0, .int .i64 a1_1] 55 (0, 0)) (by (with_reducible repeat (first | refine blk_drewN ?_ _ | refine blk_drew ?_ | refine blk_alloc ?_ _)); exact BK636.out) hb); have n6_ := Aside0.mk (blk_below (g := gb643) (o := .cells #[u644000, u644001] 24 (0, 0)) (by (with_reducible repeat (first | refine blk_drewN ?_ _ | refine blk_drew ?_ | refine blk_alloc ?_ _)); exact BK643.out) hb); have n7_ := Aside0.mk (blk_below (g := gb651) (o := .cells #[.slice Ao112 x652000_3.length co112, .slice Ao77 x652001_3.length co77] 24 (0, 0)) (by (with_reducible repeat (first | refine blk_drewN ?_ _ | refine blk_drew ?_ | refine blk_alloc ?_ _)); exact BK651.out) hb); have n8_ := Aside0.mk (below_step (by repeat (first | (with_reducible first | exact HB.out | apply below_alloc | apply pw_below_drewN | apply below_drew1 | refine below_set ?_ GE635.out | refine below_set ?_ GE636.out | refine below_set ?_ GE643.out | refine below_set ?_ GE651.out) | exact HB.out)) hb); clear HO_644000; clear HO_644001; clear HO_652000; clear HO_652001; clear BK635; clear BK636; clear BK643; clear BK651; clear HB; have HO_644000 := n0_; have HO_644001 := n1_; have HO_652000 := n2_; have HO_652001 := n3_; have BK635 := n4_; have BK636 := n5_; have BK643 := n6_; have BK651 := n7_; have HB := n8_; clear n0_ n1_ n2_ n3_ n4_ n5_ n6_ n7_ n8_; (try clear hb); (try clear hb2); (try clear hk); (try clear hi)))
                                  go_ret
                                  exact ⟨by first | rfl | (simp [errW_none, errW_some] <;> rfl) | (simp [*, errW_none, errW_some] <;> rfl), by repeat (first | (with_reducible first | exact HB.out | apply below_alloc | apply pw_below_drewN | apply below_drew1 | refine below_set ?_ GE635.out | refine below_set ?_ GE636.out | refine below_set ?_ GE643.out | refine below_set ?_ GE651.out) | exact HB.out)⟩
                  · rw [if_neg c54] at H
                    exact absurd H (by simp)
          · rw [if_neg c35] at H
            exact absurd H (by simp)
        · rw [if_neg c34] at H
          have c34b0 : (t650 == 0) = false := beq_eq_false_iff_ne.mpr c34
          have c34b1 : (t650 != 0) = true := bne_iff_ne.mpr c34
          replace H := Option.bind_eq_some_iff.mp H
          obtain ⟨t667, A1140, H⟩ := H
          replace H : (if t667 = true then ((tollgateref03_Same.f k1 t637 t640 l0_0 l0_1).bind fun t668 => (some t668)) else (some false)) = some r := H
          have A114 := Aside0.mk A1140
          clear A1140
          by_cases c115 : t667 = true
          · subst c115
            have H1 : ((tollgateref03_Same.f k1 t637 t640 l0_0 l0_1).bind fun t668 => (some t668)) = some r := by rw [if_pos rfl] at H; exact H
            clear H
            have H := H1
            clear H1
            replace H := Option.bind_eq_some_iff.mp H
            obtain ⟨t668, A1160, H⟩ := H
            replace H : (some t668) = some r := H
            have A116 := Aside0.mk A1160
            clear A1160
            obtain rfl := Option.some.inj H
            obtain ⟨Ao117, co117, eo117⟩ := Kd.R_slice HO_8.out
            subst eo117
            go_wp2_with (first | ((with_reducible refine gate_callee (f := 19) rfl ?_); refine goesL_ (some 79) rfl rfl Try.func19 (by kernel_rfl) rfl #[] rfl (by (try simp only [List.map_toArray, List.map_cons, List.map_nil]); first | done | rfl | (simp only [List.length_drop, List.length_take]; rfl)) ?_; (with_reducible refine (tollgatelaw03_live.calls k1  true _ A114.out).mono ?_); rintro e w118 ⟨rfl, hb⟩; refine ⟨_, rfl, ?_⟩; have n0_ := Aside0.mk (Kd.R_below (by (with_reducible repeat (first | apply Kd.R_alloc | apply Kd.R_drewN | apply Kd.R_drew)); exact HO_8.out) hb); have n1_ := Aside0.mk (Kd.R_below (by (with_reducible repeat (first | apply Kd.R_alloc | apply Kd.R_drewN | apply Kd.R_drew)); exact HO_644000.out) hb); have n2_ := Aside0.mk (Kd.R_below (by (with_reducible repeat (first | apply Kd.R_alloc | apply Kd.R_drewN | apply Kd.R_drew)); exact HO_644001.out) hb); have n3_ := Aside0.mk (Kd.R_below (by (with_reducible repeat (first | apply Kd.R_alloc | apply Kd.R_drewN | apply Kd.R_drew)); exact HO_652000.out) hb); have n4_ := Aside0.mk (Kd.R_below (by (with_reducible repeat (first | apply Kd.R_alloc | apply Kd.R_drewN | apply Kd.R_drew)); exact HO_652001.out) hb); have n5_ := Aside0.mk (blk_below (g := gb635) (o := .cells #[.slice A0_0 l0_0.length c0_0, .slice A0_1 l0_1.length c0_1] 24 (0, 0)) (by (with_reducible repeat (first | refine blk_drewN ?_ _ | refine blk_drew ?_ | refine blk_alloc ?_ _)); exact BK635.out) hb); have n6_ := Aside0.mk (blk_below (g := gb636) (o := .cells #[.int .i64 a1_0, .int .i64 a1_1] 55 (0, 0)) (by (with_reducible repeat (first | refine blk_drewN ?_ _ | refine blk_drew ?_ | refine blk_alloc ?_ _)); exact BK636.out) hb); have n7_ := Aside0.mk (blk_below (g := gb643) (o := .cells #[.slice Ao12 t637.length co12, .slice Ao16 t640.length co16] 24 (0, 0)) (by (with_reducible repeat (first | refine blk_drewN ?_ _ | refine blk_drew ?_ | refine blk_alloc ?_ _)); exact BK643.out) hb); have n8_ := Aside0.mk (blk_below (g := gb651) (o := .cells #[.slice Ao20 t644.length co20, .slice Ao25 t647.length co25] 24 (0, 0)) (by (with_reducible repeat (first | refine blk_drewN ?_ _ | refine blk_drew ?_ | refine blk_alloc ?_ _)); exact BK651.out) hb); have n9_ := Aside0.mk (below_step (by repeat (first | (with_reducible first | exact HB.out | apply below_alloc | apply pw_below_drewN | apply below_drew1 | refine below_set ?_ GE635.out | refine below_set ?_ GE636.out | refine below_set ?_ GE643.out | refine below_set ?_ GE651.out) | exact HB.out)) hb); clear HO_8; clear HO_644000; clear HO_644001; clear HO_652000; clear HO_652001; clear BK635; clear BK636; clear BK643; clear BK651; clear HB; have HO_8 := n0_; have HO_644000 := n1_; have HO_644001 := n2_; have HO_652000 := n3_; have HO_652001 := n4_; have BK635 := n5_; have BK636 := n6_; have BK643 := n7_; have BK651 := n8_; have HB := n9_; clear n0_ n1_ n2_ n3_ n4_ n5_ n6_ n7_ n8_ n9_; (try clear hb); (try clear hb2); (try clear hk); (try clear hi); have hnb119 := NB643_635.out; have hnc119 := NB635_643.out; have hnb120 := NB643_636.out; have hnc120 := NB636_643.out; have hnb121 := NB643_651.out; have hnc121 := NB651_643.out; have hcz122_0 : w118.cell? ⟨gb643, 0, none⟩ = some (.slice Ao12 t637.length co12) := (blk_cell BK643.out 0).trans rfl; have hcz122_1 : w118.cell? ⟨gb643, 1, none⟩ = some (.slice Ao16 t640.length co16) := (blk_cell BK643.out 1).trans rfl; have hfz122_0 := blk_frozen BK643.out 0; have hfz122_1 := blk_frozen BK643.out 1; have hnb123 := NB635_636.out; have hnc123 := NB636_635.out; have hnb124 := NB635_651.out; have hnc124 := NB651_635.out; have hcz125_0 : w118.cell? ⟨gb635, 0, none⟩ = some (.slice A0_0 l0_0.length c0_0) := (blk_cell BK635.out 0).trans rfl; have hcz125_1 : w118.cell? ⟨gb635, 1, none⟩ = some (.slice A0_1 l0_1.length c0_1) := (blk_cell BK635.out 1).trans rfl; have hfz125_0 := blk_frozen BK635.out 0; have hfz125_1 := blk_frozen BK635.out 1) | (go_at_call 21; (with_reducible refine (tollgateref03_Same.calls k1 _ _ t637 _ _ t640 _ _ l0_0 _ _ l0_1 t668 _ ?side1 ?side2 ?side3 ?side4 ?side5 ?side6 ?side7 ?side8 A116.out).mono ?_); (case side1 => repeat (first | exact (Kd.R_reads' HO_644000.out).2.2 | (with_reducible refine Kd.C_alloc ?_ _) | (with_reducible refine Kd.C_drewN ?_ _) | (with_reducible refine Kd.C_drew ?_))); (case side2 => exact (Kd.R_reads' HO_644000.out).2.1); (case side3 => repeat (first | exact (Kd.R_reads' HO_644001.out).2.2 | (with_reducible refine Kd.C_alloc ?_ _) | (with_reducible refine Kd.C_drewN ?_ _) | (with_reducible refine Kd.C_drew ?_))); (case side4 => exact (Kd.R_reads' HO_644001.out).2.1); (case side5 => repeat (first | exact (Kd.C_below HR0_0.out HB.out) | (with_reducible refine Kd.C_alloc ?_ _) | (with_reducible refine Kd.C_drewN ?_ _) | (with_reducible refine Kd.C_drew ?_))); (case side6 => exact HC0_0.out); (case side7 => repeat (first | exact (Kd.C_below HR0_1.out HB.out) | (with_reducible refine Kd.C_alloc ?_ _) | (with_reducible refine Kd.C_drewN ?_ _) | (with_reducible refine Kd.C_drew ?_))); (case side8 => exact HC0_1.out); rintro e w126 ⟨rfl, hb⟩; have n0_ := Aside0.mk (Kd.R_below (by (with_reducible repeat (first | apply Kd.R_alloc | apply Kd.R_drewN | apply Kd.R_drew)); exact HO_8.out) hb); have n1_ := Aside0.mk (Kd.R_below (by (with_reducible repeat (first | apply Kd.R_alloc | apply Kd.R_drewN | apply Kd.R_drew)); exact HO_644000.out) hb); have n2_ := Aside0.mk (Kd.R_below (by (with_reducible repeat (first | apply Kd.R_alloc | apply Kd.R_drewN | apply Kd.R_drew)); exact HO_644001.out) hb); have n3_ := Aside0.mk (Kd.R_below (by (with_reducible repeat (first | apply Kd.R_alloc | apply Kd.R_drewN | apply Kd.R_drew)); exact HO_652000.out) hb); have n4_ := Aside0.mk (Kd.R_below (by (with_reducible repeat (first | apply Kd.R_alloc | apply Kd.R_drewN | apply Kd.R_drew)); exact HO_652001.out) hb); have n5_ := Aside0.mk (blk_below (g := gb635) (o := .cells #[.slice A0_0 l0_0.length c0_0, .slice A0_1 l0_1.length c0_1] 24 (0, 0)) (by (with_reducible repeat (first | refine blk_drewN ?_ _ | refine blk_drew ?_ | refine blk_alloc ?_ _)); exact BK635.out) hb); have n6_ := Aside0.mk (blk_below (g := gb636) (o := .cells #[.int .i64 a1_0, .int .i64 a1_1] 55 (0, 0)) (by (with_reducible repeat (first | refine blk_drewN ?_ _ | refine blk_drew ?_ | refine blk_alloc ?_ _)); exact BK636.out) hb); have n7_ := Aside0.mk (blk_below (g := gb643) (o := .cells #[.slice Ao12 t637.length co12, .slice Ao16 t640.length co16] 24 (0, 0)) (by (with_reducible repeat (first | refine blk_drewN ?_ _ | refine blk_drew ?_ | refine blk_alloc ?_ _)); exact BK643.out) hb); have n8_ := Aside0.mk (blk_below (g := gb651) (o := .cells #[.slice Ao20 t644.length co20, .slice Ao25 t647.length co25] 24 (0, 0)) (by (with_reducible repeat (first | refine blk_drewN ?_ _ | refine blk_drew ?_ | refine blk_alloc ?_ _)); exact BK651.out) hb); have n9_ := Aside0.mk (below_step (by repeat (first | (with_reducible first | exact HB.out | apply below_alloc | apply pw_below_drewN | apply below_drew1 | refine below_set ?_ GE635.out | refine below_set ?_ GE636.out | refine below_set ?_ GE643.out | refine below_set ?_ GE651.out) | exact HB.out)) hb); clear HO_8; clear HO_644000; clear HO_644001; clear HO_652000; clear HO_652001; clear BK635; clear BK636; clear BK643; clear BK651; clear HB; have HO_8 := n0_; have HO_644000 := n1_; have HO_644001 := n2_; have HO_652000 := n3_; have HO_652001 := n4_; have BK635 := n5_; have BK636 := n6_; have BK643 := n7_; have BK651 := n8_; have HB := n9_; clear n0_ n1_ n2_ n3_ n4_ n5_ n6_ n7_ n8_ n9_; (try clear hb); (try clear hb2); (try clear hk); (try clear hi)))
            go_ret
            exact ⟨by first | rfl | (simp [errW_none, errW_some] <;> rfl) | (simp [*, errW_none, errW_some] <;> rfl), by repeat (first | (with_reducible first | exact HB.out | apply below_alloc | apply pw_below_drewN | apply below_drew1 | refine below_set ?_ GE635.out | refine below_set ?_ GE636.out | refine below_set ?_ GE643.out | refine below_set ?_ GE651.out) | exact HB.out)⟩
          · replace c115 := Bool.eq_false_iff.mpr c115
            subst c115
            have H1 : (some false) = some r := by rw [if_neg (show ¬ (false = true) by decide)] at H; exact H
            clear H
            have H := H1
            clear H1
            obtain rfl := Option.some.inj H
            obtain ⟨Ao127, co127, eo127⟩ := Kd.R_slice HO_8.out
            subst eo127
            go_wp2_with (first | ((with_reducible refine gate_callee (f := 19) rfl ?_); refine goesL_ (some 79) rfl rfl Try.func19 (by kernel_rfl) rfl #[] rfl (by (try simp only [List.map_toArray, List.map_cons, List.map_nil]); first | done | rfl | (simp only [List.length_drop, List.length_take]; rfl)) ?_; (with_reducible refine (tollgatelaw03_live.calls k1  false _ A114.out).mono ?_); rintro e w128 ⟨rfl, hb⟩; refine ⟨_, rfl, ?_⟩; have n0_ := Aside0.mk (Kd.R_below (by (with_reducible repeat (first | apply Kd.R_alloc | apply Kd.R_drewN | apply Kd.R_drew)); exact HO_8.out) hb); have n1_ := Aside0.mk (Kd.R_below (by (with_reducible repeat (first | apply Kd.R_alloc | apply Kd.R_drewN | apply Kd.R_drew)); exact HO_644000.out) hb); have n2_ := Aside0.mk (Kd.R_below (by (with_reducible repeat (first | apply Kd.R_alloc | apply Kd.R_drewN | apply Kd.R_drew)); exact HO_644001.out) hb); have n3_ := Aside0.mk (Kd.R_below (by (with_reducible repeat (first | apply Kd.R_alloc | apply Kd.R_drewN | apply Kd.R_drew)); exact HO_652000.out) hb); have n4_ := Aside0.mk (Kd.R_below (by (with_reducible repeat (first | apply Kd.R_alloc | apply Kd.R_drewN | apply Kd.R_drew)); exact HO_652001.out) hb); have n5_ := Aside0.mk (blk_below (g := gb635) (o := .cells #[.slice A0_0 l0_0.length c0_0, .slice A0_1 l0_1.length c0_1] 24 (0, 0)) (by (with_reducible repeat (first | refine blk_drewN ?_ _ | refine blk_drew ?_ | refine blk_alloc ?_ _)); exact BK635.out) hb); have n6_ := Aside0.mk (blk_below (g := gb636) (o := .cells #[.int .i64 a1_0, .int .i64 a1_1] 55 (0, 0)) (by (with_reducible repeat (first | refine blk_drewN ?_ _ | refine blk_drew ?_ | refine blk_alloc ?_ _)); exact BK636.out) hb); have n7_ := Aside0.mk (blk_below (g := gb643) (o := .cells #[.slice Ao12 t637.length co12, .slice Ao16 t640.length co16] 24 (0, 0)) (by (with_reducible repeat (first | refine blk_drewN ?_ _ | refine blk_drew ?_ | refine blk_alloc ?_ _)); exact BK643.out) hb); have n8_ := Aside0.mk (blk_below (g := gb651) (o := .cells #[.slice Ao20 t644.length co20, .slice Ao25 t647.length co25] 24 (0, 0)) (by (with_reducible repeat (first | refine blk_drewN ?_ _ | refine blk_drew ?_ | refine blk_alloc ?_ _)); exact BK651.out) hb); have n9_ := Aside0.mk (below_step (by repeat (first | (with_reducible first | exact HB.out | apply below_alloc | apply pw_below_drewN | apply below_drew1 | refine below_set ?_ GE635.out | refine below_set ?_ GE636.out | refine below_set ?_ GE643.out | refine below_set ?_ GE651.out) | exact HB.out)) hb); clear HO_8; clear HO_644000; clear HO_644001; clear HO_652000; clear HO_652001; clear BK635; clear BK636; clear BK643; clear BK651; clear HB; have HO_8 := n0_; have HO_644000 := n1_; have HO_644001 := n2_; have HO_652000 := n3_; have HO_652001 := n4_; have BK635 := n5_; have BK636 := n6_; have BK643 := n7_; have BK651 := n8_; have HB := n9_; clear n0_ n1_ n2_ n3_ n4_ n5_ n6_ n7_ n8_ n9_; (try clear hb); (try clear hb2); (try clear hk); (try clear hi)))
            go_ret
            exact ⟨by first | rfl | (simp [errW_none, errW_some] <;> rfl) | (simp [*, errW_none, errW_some] <;> rfl), by repeat (first | (with_reducible first | exact HB.out | apply below_alloc | apply pw_below_drewN | apply below_drew1 | refine below_set ?_ GE635.out | refine below_set ?_ GE636.out | refine below_set ?_ GE643.out | refine below_set ?_ GE651.out) | exact HB.out)⟩

end Go.Proofs.Ythmamgnobcnhgaa.PM
