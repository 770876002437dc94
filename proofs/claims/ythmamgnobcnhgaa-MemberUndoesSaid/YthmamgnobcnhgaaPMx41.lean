-- written by wip/mkprint.py of this work
import Derived.Test.YthmamgnobcnhgaaPMx0
import Derived.Test.YthmamgnobcnhgaaPMx12
import Derived.Test.YthmamgnobcnhgaaPMx13
import Derived.Test.YthmamgnobcnhgaaPMx29
namespace Go.Proofs.Ythmamgnobcnhgaa.PM
open Go.RowKit Go.Proofs.YthmamgnobcnhgaaW.PrintWords Go.Proofs.YthmamgnobcnhgaaW.PrintLast Go.Proofs.YthmamgnobcnhgaaW.PrintMore
attribute [local go_sem] max2_int min2_int max_two min_two max_three min_three max_four min_four   -- for this text's walks alone
set_option linter.unusedVariables false
set_option linter.unusedSimpArgs false

/-! ### tollgateref03_Apply: function 41 -/
mutual
def tollgateref03_Apply.j0 : Nat → Bool → List Int → List Int → Int → Int → Option (List Int × List Int × Int)
  | 0, _, _, _, _, _ => none
  | k + 1, x20, x443000, x443001, x444000, x444001 => if x20 = true then (some (([] : List Int), ([] : List Int), 2)) else ((tollgateref03_In.f k x443000 x444001).bind fun t447 => ((tollgateref03_In.f k x443001 x444001).bind fun t448 => (if t447 = true then (tollgateref03_Apply.j1 k t447 t448 ((x443000.length : Int) == 1) x443000 x443001 x444000 x444001) else (tollgateref03_Apply.j1 k t447 t448 false x443000 x443001 x444000 x444001))))
def tollgateref03_Apply.j1 : Nat → Bool → Bool → Bool → List Int → List Int → Int → Int → Option (List Int × List Int × Int)
  | 0, _, _, _, _, _, _, _ => none
  | k + 1, x6, x7, x8, x443000, x443001, x444000, x444001 => if x444000 = 1 then (if x6 = true then (some (([] : List Int), ([] : List Int), 7)) else (if x7 = true then (some (([] : List Int), ([] : List Int), 7)) else (tollgateref03_Apply.j3 k false true x443000 x443001 x444000 x444001))) else (if x444000 = 2 then (if x7 = true then (tollgateref03_Apply.j3 k true false x443000 x443001 x444000 x444001) else (some (([] : List Int), ([] : List Int), 8))) else (if x444000 = 3 then (if x6 = true then (if x8 = true then (some (([] : List Int), ([] : List Int), 6)) else (tollgateref03_Apply.j3 k false true x443000 x443001 x444000 x444001)) else (some (([] : List Int), ([] : List Int), 8))) else (if x6 = true then (tollgateref03_Apply.j2 k x8 false false false x443000 x443001 x444000 x444001) else (tollgateref03_Apply.j2 k x8 false false (!x7) x443000 x443001 x444000 x444001))))
def tollgateref03_Apply.j3 : Nat → Bool → Bool → List Int → List Int → Int → Int → Option (List Int × List Int × Int)
  | 0, _, _, _, _, _, _ => none
  | k + 1, x9, x10, x443000, x443001, x444000, x444001 => tollgateref03_Apply.l0 k x9 x10 1 x443000 x443001 x444000 x444001 ([] : List Int) ([] : List Int)
def tollgateref03_Apply.l0 : Nat → Bool → Bool → Int → List Int → List Int → Int → Int → List Int → List Int → Option (List Int × List Int × Int)
  | 0, _, _, _, _, _, _, _, _, _ => none
  | k + 1, x9, x10, x12, x443000, x443001, x444000, x444001, x450000, x450001 => if x12 ≤ 9 then (if x12 = x444001 then (if x9 = true then (tollgateref03_Apply.j5 k x9 x10 x12 true x443000 x443001 x444000 x444001 x450000 x450001) else (tollgateref03_Apply.j5 k x9 x10 x12 false x443000 x443001 x444000 x444001 x450000 x450001)) else ((tollgateref03_In.f k x443000 x12).bind fun t450 => (tollgateref03_Apply.j5 k x9 x10 x12 t450 x443000 x443001 x444000 x444001 x450000 x450001))) else (some (x450000, x450001, 0))
def tollgateref03_Apply.j5 : Nat → Bool → Bool → Int → Bool → List Int → List Int → Int → Int → List Int → List Int → Option (List Int × List Int × Int)
  | 0, _, _, _, _, _, _, _, _, _, _ => none
  | k + 1, x9, x10, x12, x92, x443000, x443001, x444000, x444001, x450000, x450001 => if x92 = true then (if x450000.length < 17592186044416 then ((some (x450000 ++ [x12] : List Int)).bind fun y451 => (if x12 = x444001 then (if x10 = true then (if x450001.length < 17592186044416 then (tollgateref03_Apply.l0 k x9 x10 (wrap64 (x12 + 1)) x443000 x443001 x444000 x444001 y451 (x450001 ++ [x12])) else (none)) else (tollgateref03_Apply.l0 k x9 x10 (wrap64 (x12 + 1)) x443000 x443001 x444000 x444001 y451 x450001)) else ((tollgateref03_In.f k x443001 x12).bind fun t457 => (if t457 = true then (if x450001.length < 17592186044416 then (tollgateref03_Apply.l0 k x9 x10 (wrap64 (x12 + 1)) x443000 x443001 x444000 x444001 y451 (x450001 ++ [x12])) else (none)) else (tollgateref03_Apply.l0 k x9 x10 (wrap64 (x12 + 1)) x443000 x443001 x444000 x444001 y451 x450001))))) else (none)) else (if x12 = x444001 then (if x10 = true then (if x450001.length < 17592186044416 then (tollgateref03_Apply.l0 k x9 x10 (wrap64 (x12 + 1)) x443000 x443001 x444000 x444001 x450000 (x450001 ++ [x12])) else (none)) else (tollgateref03_Apply.l0 k x9 x10 (wrap64 (x12 + 1)) x443000 x443001 x444000 x444001 x450000 x450001)) else ((tollgateref03_In.f k x443001 x12).bind fun t464 => (if t464 = true then (if x450001.length < 17592186044416 then (tollgateref03_Apply.l0 k x9 x10 (wrap64 (x12 + 1)) x443000 x443001 x444000 x444001 x450000 (x450001 ++ [x12])) else (none)) else (tollgateref03_Apply.l0 k x9 x10 (wrap64 (x12 + 1)) x443000 x443001 x444000 x444001 x450000 x450001))))
def tollgateref03_Apply.j2 : Nat → Bool → Bool → Bool → Bool → List Int → List Int → Int → Int → Option (List Int × List Int × Int)
  | 0, _, _, _, _, _, _, _, _ => none
  | k + 1, x8, x9, x10, x46, x443000, x443001, x444000, x444001 => if x46 = true then (some (([] : List Int), ([] : List Int), 8)) else (if x8 = true then (some (([] : List Int), ([] : List Int), 6)) else (tollgateref03_Apply.j3 k x9 x10 x443000 x443001 x444000 x444001))
end
def tollgateref03_Apply.f (k : Nat) (l0_0 : List Int) (l0_1 : List Int) (a1_0 : Int) (a1_1 : Int) : Option (List Int × List Int × Int) := (tollgateref03_Right.f k l0_0 l0_1).bind fun t445 => (if t445 = true then ((tollgateref03_RightChange.f a1_0 a1_1).bind fun t446 => (tollgateref03_Apply.j0 k (!t446) l0_0 l0_1 a1_0 a1_1)) else (tollgateref03_Apply.j0 k true l0_0 l0_1 a1_0 a1_1))
theorem tollgateref03_Apply.mono_l : ∀ k, (∀ y0 y1 y2 y3 y4, LeO (tollgateref03_Apply.j0 k y0 y1 y2 y3 y4) (tollgateref03_Apply.j0 (k + 1) y0 y1 y2 y3 y4)) ∧ (∀ y0 y1 y2 y3 y4 y5 y6, LeO (tollgateref03_Apply.j1 k y0 y1 y2 y3 y4 y5 y6) (tollgateref03_Apply.j1 (k + 1) y0 y1 y2 y3 y4 y5 y6)) ∧ (∀ y0 y1 y2 y3 y4 y5, LeO (tollgateref03_Apply.j3 k y0 y1 y2 y3 y4 y5) (tollgateref03_Apply.j3 (k + 1) y0 y1 y2 y3 y4 y5)) ∧ (∀ y0 y1 y2 y3 y4 y5 y6 y7 y8, LeO (tollgateref03_Apply.l0 k y0 y1 y2 y3 y4 y5 y6 y7 y8) (tollgateref03_Apply.l0 (k + 1) y0 y1 y2 y3 y4 y5 y6 y7 y8)) ∧ (∀ y0 y1 y2 y3 y4 y5 y6 y7 y8 y9, LeO (tollgateref03_Apply.j5 k y0 y1 y2 y3 y4 y5 y6 y7 y8 y9) (tollgateref03_Apply.j5 (k + 1) y0 y1 y2 y3 y4 y5 y6 y7 y8 y9)) ∧ (∀ y0 y1 y2 y3 y4 y5 y6 y7, LeO (tollgateref03_Apply.j2 k y0 y1 y2 y3 y4 y5 y6 y7) (tollgateref03_Apply.j2 (k + 1) y0 y1 y2 y3 y4 y5 y6 y7))
  | 0 => ⟨fun _ _ _ _ _ r h => by simp [tollgateref03_Apply.j0] at h, fun _ _ _ _ _ _ _ r h => by simp [tollgateref03_Apply.j1] at h, fun _ _ _ _ _ _ r h => by simp [tollgateref03_Apply.j3] at h, fun _ _ _ _ _ _ _ _ _ r h => by simp [tollgateref03_Apply.l0] at h, fun _ _ _ _ _ _ _ _ _ _ r h => by simp [tollgateref03_Apply.j5] at h, fun _ _ _ _ _ _ _ _ r h => by simp [tollgateref03_Apply.j2] at h⟩
  | k + 1 => by
    obtain ⟨ih0, ih1, ih2, ih3, ih4, ih5⟩ := tollgateref03_Apply.mono_l k
    refine ⟨?_, ?_, ?_, ?_, ?_, ?_⟩
    · intro y0 y1 y2 y3 y4
      unfold tollgateref03_Apply.j0
      repeat' first
      | (with_reducible exact ih0 _ _ _ _ _)
      | (with_reducible exact ih1 _ _ _ _ _ _ _)
      | (with_reducible exact ih2 _ _ _ _ _ _)
      | (with_reducible exact ih3 _ _ _ _ _ _ _ _ _)
      | (with_reducible exact ih4 _ _ _ _ _ _ _ _ _ _)
      | (with_reducible exact ih5 _ _ _ _ _ _ _ _)
      | (with_reducible exact tollgateref03_In.mono _ _ _)
      | (with_reducible exact tollgateref03_Right.mono _ _ _)
      | (with_reducible exact LeO.refl _)
      | (with_reducible exact LeO.none _)
      | (with_reducible refine LeO.ite ?_ ?_)
      | (with_reducible refine LeO.bind ?_ (fun _ => ?_))
      | exact ih0 _ _ _ _ _
      | exact ih1 _ _ _ _ _ _ _
      | exact ih2 _ _ _ _ _ _
      | exact ih3 _ _ _ _ _ _ _ _ _
      | exact ih4 _ _ _ _ _ _ _ _ _ _
      | exact ih5 _ _ _ _ _ _ _ _
      | exact tollgateref03_In.mono _ _ _
      | exact tollgateref03_Right.mono _ _ _
      | exact LeO.none _
      | refine LeO.ite ?_ ?_
      | refine LeO.bind ?_ (fun _ => ?_)
    · intro y0 y1 y2 y3 y4 y5 y6
      unfold tollgateref03_Apply.j1
      repeat' first
      | (with_reducible exact ih0 _ _ _ _ _)
      | (with_reducible exact ih1 _ _ _ _ _ _ _)
      | (with_reducible exact ih2 _ _ _ _ _ _)
      | (with_reducible exact ih3 _ _ _ _ _ _ _ _ _)
      | (with_reducible exact ih4 _ _ _ _ _ _ _ _ _ _)
      | (with_reducible exact ih5 _ _ _ _ _ _ _ _)
      | (with_reducible exact tollgateref03_In.mono _ _ _)
      | (with_reducible exact tollgateref03_Right.mono _ _ _)
      | (with_reducible exact LeO.refl _)
      | (with_reducible exact LeO.none _)
      | (with_reducible refine LeO.ite ?_ ?_)
      | (with_reducible refine LeO.bind ?_ (fun _ => ?_))
      | exact ih0 _ _ _ _ _
      | exact ih1 _ _ _ _ _ _ _
      | exact ih2 _ _ _ _ _ _
      | exact ih3 _ _ _ _ _ _ _ _ _
      | exact ih4 _ _ _ _ _ _ _ _ _ _
      | exact ih5 _ _ _ _ _ _ _ _
      | exact tollgateref03_In.mono _ _ _
      | exact tollgateref03_Right.mono _ _ _
      | exact LeO.none _
      | refine LeO.ite ?_ ?_
      | refine LeO.bind ?_ (fun _ => ?_)
    · intro y0 y1 y2 y3 y4 y5
      unfold tollgateref03_Apply.j3
      repeat' first
      | (with_reducible exact ih0 _ _ _ _ _)
      | (with_reducible exact ih1 _ _ _ _ _ _ _)
      | (with_reducible exact ih2 _ _ _ _ _ _)
      | (with_reducible exact ih3 _ _ _ _ _ _ _ _ _)
      | (with_reducible exact ih4 _ _ _ _ _ _ _ _ _ _)
      | (with_reducible exact ih5 _ _ _ _ _ _ _ _)
      | (with_reducible exact tollgateref03_In.mono _ _ _)
      | (with_reducible exact tollgateref03_Right.mono _ _ _)
      | (with_reducible exact LeO.refl _)
      | (with_reducible exact LeO.none _)
      | (with_reducible refine LeO.ite ?_ ?_)
      | (with_reducible refine LeO.bind ?_ (fun _ => ?_))
      | exact ih0 _ _ _ _ _
      | exact ih1 _ _ _ _ _ _ _
      | exact ih2 _ _ _ _ _ _
      | exact ih3 _ _ _ _ _ _ _ _ _
      | exact ih4 _ _ _ _ _ _ _ _ _ _
      | exact ih5 _ _ _ _ _ _ _ _
      | exact tollgateref03_In.mono _ _ _
      | exact tollgateref03_Right.mono _ _ _
      | exact LeO.none _
      | refine LeO.ite ?_ ?_
      | refine LeO.bind ?_ (fun _ => ?_)
    · intro y0 y1 y2 y3 y4 y5 y6 y7 y8
      unfold tollgateref03_Apply.l0
      repeat' first
      | (with_reducible exact ih0 _ _ _ _ _)
      | (with_reducible exact ih1 _ _ _ _ _ _ _)
      | (with_reducible exact ih2 _ _ _ _ _ _)
      | (with_reducible exact ih3 _ _ _ _ _ _ _ _ _)
      | (with_reducible exact ih4 _ _ _ _ _ _ _ _ _ _)
      | (with_reducible exact ih5 _ _ _ _ _ _ _ _)
      | (with_reducible exact tollgateref03_In.mono _ _ _)
      | (with_reducible exact tollgateref03_Right.mono _ _ _)
      | (with_reducible exact LeO.refl _)
      | (with_reducible exact LeO.none _)
      | (with_reducible refine LeO.ite ?_ ?_)
      | (with_reducible refine LeO.bind ?_ (fun _ => ?_))
      | exact ih0 _ _ _ _ _
      | exact ih1 _ _ _ _ _ _ _
      | exact ih2 _ _ _ _ _ _
      | exact ih3 _ _ _ _ _ _ _ _ _
      | exact ih4 _ _ _ _ _ _ _ _ _ _
      | exact ih5 _ _ _ _ _ _ _ _
      | exact tollgateref03_In.mono _ _ _
      | exact tollgateref03_Right.mono _ _ _
      | exact LeO.none _
      | refine LeO.ite ?_ ?_
      | refine LeO.bind ?_ (fun _ => ?_)
    · intro y0 y1 y2 y3 y4 y5 y6 y7 y8 y9
      unfold tollgateref03_Apply.j5
      repeat' first
      | (with_reducible exact ih0 _ _ _ _ _)
      | (with_reducible exact ih1 _ _ _ _ _ _ _)
      | (with_reducible exact ih2 _ _ _ _ _ _)
      | (with_reducible exact ih3 _ _ _ _ _ _ _ _ _)
      | (with_reducible exact ih4 _ _ _ _ _ _ _ _ _ _)
      | (with_reducible exact ih5 _ _ _ _ _ _ _ _)
      | (with_reducible exact tollgateref03_In.mono _ _ _)
      | (with_reducible exact tollgateref03_Right.mono _ _ _)
      | (with_reducible exact LeO.refl _)
      | (with_reducible exact LeO.none _)
      | (with_reducible refine LeO.ite ?_ ?_)
      | (with_reducible refine LeO.bind ?_ (fun _ => ?_))
      | exact ih0 _ _ _ _ _
      | exact ih1 _ _ _ _ _ _ _
      | exact ih2 _ _ _ _ _ _
      | exact ih3 _ _ _ _ _ _ _ _ _
      | exact ih4 _ _ _ _ _ _ _ _ _ _
      | exact ih5 _ _ _ _ _ _ _ _
      | exact tollgateref03_In.mono _ _ _
      | exact tollgateref03_Right.mono _ _ _
      | exact LeO.none _
      | refine LeO.ite ?_ ?_
      | refine LeO.bind ?_ (fun _ => ?_)
    · intro y0 y1 y2 y3 y4 y5 y6 y7
      unfold tollgateref03_Apply.j2
      repeat' first
      | (with_reducible exact ih0 _ _ _ _ _)
      | (with_reducible exact ih1 _ _ _ _ _ _ _)
      | (with_reducible exact ih2 _ _ _ _ _ _)
      | (with_reducible exact ih3 _ _ _ _ _ _ _ _ _)
      | (with_reducible exact ih4 _ _ _ _ _ _ _ _ _ _)
      | (with_reducible exact ih5 _ _ _ _ _ _ _ _)
      | (with_reducible exact tollgateref03_In.mono _ _ _)
      | (with_reducible exact tollgateref03_Right.mono _ _ _)
      | (with_reducible exact LeO.refl _)
      | (with_reducible exact LeO.none _)
      | (with_reducible refine LeO.ite ?_ ?_)
      | (with_reducible refine LeO.bind ?_ (fun _ => ?_))
      | exact ih0 _ _ _ _ _
      | exact ih1 _ _ _ _ _ _ _
      | exact ih2 _ _ _ _ _ _
      | exact ih3 _ _ _ _ _ _ _ _ _
      | exact ih4 _ _ _ _ _ _ _ _ _ _
      | exact ih5 _ _ _ _ _ _ _ _
      | exact tollgateref03_In.mono _ _ _
      | exact tollgateref03_Right.mono _ _ _
      | exact LeO.none _
      | refine LeO.ite ?_ ?_
      | refine LeO.bind ?_ (fun _ => ?_)
theorem tollgateref03_Apply.mono : ∀ a0 a1 a2 a3 k, LeO (tollgateref03_Apply.f k a0 a1 a2 a3) (tollgateref03_Apply.f (k + 1) a0 a1 a2 a3) := by
  intro a0 a1 a2 a3 k
  obtain ⟨ih0, ih1, ih2, ih3, ih4, ih5⟩ := tollgateref03_Apply.mono_l k
  unfold tollgateref03_Apply.f
  repeat' first
      | (with_reducible exact ih0 _ _ _ _ _)
      | (with_reducible exact ih1 _ _ _ _ _ _ _)
      | (with_reducible exact ih2 _ _ _ _ _ _)
      | (with_reducible exact ih3 _ _ _ _ _ _ _ _ _)
      | (with_reducible exact ih4 _ _ _ _ _ _ _ _ _ _)
      | (with_reducible exact ih5 _ _ _ _ _ _ _ _)
      | (with_reducible exact tollgateref03_In.mono _ _ _)
      | (with_reducible exact tollgateref03_Right.mono _ _ _)
      | (with_reducible exact LeO.refl _)
      | (with_reducible exact LeO.none _)
      | (with_reducible refine LeO.ite ?_ ?_)
      | (with_reducible refine LeO.bind ?_ (fun _ => ?_))
      | exact ih0 _ _ _ _ _
      | exact ih1 _ _ _ _ _ _ _
      | exact ih2 _ _ _ _ _ _
      | exact ih3 _ _ _ _ _ _ _ _ _
      | exact ih4 _ _ _ _ _ _ _ _ _ _
      | exact ih5 _ _ _ _ _ _ _ _
      | exact tollgateref03_In.mono _ _ _
      | exact tollgateref03_Right.mono _ _ _
      | exact LeO.none _
      | refine LeO.ite ?_ ?_
      | refine LeO.bind ?_ (fun _ => ?_)
set_option maxHeartbeats 8000000 in
set_option maxRecDepth 100000 in
theorem tollgateref03_Apply.calls (k : Nat) (A0_0 : Option Addr) (c0_0 : Nat) (l0_0 : List Int) (A0_1 : Option Addr) (c0_1 : Nat) (l0_1 : List Int) (a1_0 : Int) (a1_1 : Int) (r1 : List Int) (r2 : List Int) (r3 : Int) (w : World) (hr0_0 : Kd.C (Kd.int .i64) w A0_0 l0_0.length l0_0) (hc0_0 : l0_0.length ≤ c0_0) (hr0_1 : Kd.C (Kd.int .i64) w A0_1 l0_1.length l0_1) (hc0_1 : l0_1.length ≤ c0_1) (h : tollgateref03_Apply.f k l0_0 l0_1 a1_0 a1_1 = some (r1, r2, r3)) :
    Calls Try.prog 41 #[.agg #[.slice A0_0 l0_0.length c0_0, .slice A0_1 l0_1.length c0_1], .agg #[.int .i64 a1_0, .int .i64 a1_1]] w fun e w' => ∃ v0_ v1_ : Value, e = .returned (.tuple #[.agg #[v0_, v1_], .int .i64 r3]) ∧ Kd.R (Kd.int .i64) 3 w' w.heap.size (fun k_ => some k_ ≠ (v1_ : Value).ownBlock) v0_ r1 ∧ Kd.R (Kd.int .i64) 3 w' w.heap.size (fun k_ => some k_ ≠ (v0_ : Value).ownBlock) v1_ r2 ∧ Below w.heap.size w w' := by
  have hu24 := Try.underlying24
  have hu55 := Try.underlying55
  have HR0_0 := Aside0.mk hr0_0
  have HC0_0 := Aside0.mk hc0_0
  clear hr0_0 hc0_0
  have HR0_1 := Aside0.mk hr0_1
  have HC0_1 := Aside0.mk hc0_1
  clear hr0_1 hc0_1
  have HB := Aside0.mk (Below.refl w.heap.size w)
  have H : ((tollgateref03_Right.f k l0_0 l0_1).bind fun t445 => (if t445 = true then ((tollgateref03_RightChange.f a1_0 a1_1).bind fun t446 => (tollgateref03_Apply.j0 k (!t446) l0_0 l0_1 a1_0 a1_1)) else (tollgateref03_Apply.j0 k true l0_0 l0_1 a1_0 a1_1))) = some (r1, r2, r3) := h
  clear h
  have HC3 := Aside0.mk H
  clear H
  go_enter Try.func41, Try.ntmps41
  go_upto_region 1 with (first | ((with_reducible refine gate_dst (N := 2) rfl ?_); (try (refine gate_guard (by rfl) ?_; dsimp only)); refine box_event ?hg (N := 2) ?hd (cs := #[.slice A0_0 l0_0.length c0_0, .slice A0_1 l0_1.length c0_1]) (t := 24) ?hr ?_; (case hd => rfl); (case hg => rfl); (case hr => first | (go_simp; done) | (go_simp; rfl)); intro gb442 hg w4 hbox hb; have n0_ := Aside0.mk (below_step (by repeat (first | (with_reducible first | exact HB.out | apply below_alloc | apply pw_below_drewN | apply below_drew1) | exact HB.out)) hb); have n1_ := Aside0.mk (hbox); have n2_ := Aside0.mk ((by rw [hg]; exact (below_size (by repeat (first | (with_reducible first | exact HB.out | apply below_alloc | apply pw_below_drewN | apply below_drew1) | exact HB.out))) : w.heap.size ≤ gb442)); have n3_ := Aside0.mk ((by rw [hg]; exact (below_size (by repeat (first | (with_reducible first | exact HB.out | apply below_alloc | apply pw_below_drewN | apply below_drew1) | exact HB.out))) : w.heap.size ≤ gb442)); clear HB; have HB := n0_; have BK442 := n1_; have GW442 := n2_; have GE442 := n3_; clear n0_ n1_ n2_ n3_; clear hb hbox hg) | ((with_reducible refine gate_dst (N := 3) rfl ?_); (try (refine gate_guard (by rfl) ?_; dsimp only)); refine box_event ?hg (N := 3) ?hd (cs := #[.int .i64 a1_0, .int .i64 a1_1]) (t := 55) ?hr ?_; (case hd => rfl); (case hg => rfl); (case hr => first | (go_simp; done) | (go_simp; rfl)); intro gb443 hg w5 hbox hb; have n0_ := Aside0.mk (blk_below (g := gb442) (o := .cells #[.slice A0_0 l0_0.length c0_0, .slice A0_1 l0_1.length c0_1] 24 (0, 0)) (by (with_reducible repeat (first | refine blk_drewN ?_ _ | refine blk_drew ?_ | refine blk_alloc ?_ _)); exact BK442.out) hb); have n1_ := Aside0.mk (below_step (by repeat (first | (with_reducible first | exact HB.out | apply below_alloc | apply pw_below_drewN | apply below_drew1 | refine below_set ?_ GE442.out) | exact HB.out)) hb); have n2_ := Aside0.mk (hbox); have n3_ := Aside0.mk ((by rw [hg]; exact (below_size (by repeat (first | (with_reducible first | exact HB.out | apply below_alloc | apply pw_below_drewN | apply below_drew1 | refine below_set ?_ GE442.out) | exact HB.out))) : w.heap.size ≤ gb443)); have n4_ := Aside0.mk ((by rw [hg]; exact (below_size (by repeat (first | (with_reducible first | exact HB.out | apply below_alloc | apply pw_below_drewN | apply below_drew1 | refine below_set ?_ GE442.out) | exact HB.out))) : w.heap.size ≤ gb443)); have n5_ := Aside0.mk ((by rw [hg]; exact Nat.ne_of_lt (blk_lt (g := gb442) (o := .cells #[.slice A0_0 l0_0.length c0_0, .slice A0_1 l0_1.length c0_1] 24 (0, 0)) (by (with_reducible repeat (first | refine blk_drewN ?_ _ | refine blk_drew ?_ | refine blk_alloc ?_ _)); exact BK442.out)) : gb442 ≠ gb443)); have n6_ := Aside0.mk ((by rw [hg]; exact Nat.ne_of_gt (blk_lt (g := gb442) (o := .cells #[.slice A0_0 l0_0.length c0_0, .slice A0_1 l0_1.length c0_1] 24 (0, 0)) (by (with_reducible repeat (first | refine blk_drewN ?_ _ | refine blk_drew ?_ | refine blk_alloc ?_ _)); exact BK442.out)) : gb443 ≠ gb442)); clear BK442; clear HB; have BK442 := n0_; have HB := n1_; have BK443 := n2_; have GW443 := n3_; have GE443 := n4_; have NB442_443 := n5_; have NB443_442 := n6_; clear n0_ n1_ n2_ n3_ n4_ n5_ n6_; clear hb hbox hg) | ((with_reducible refine gate_dst (N := 4) rfl ?_); (try (refine gate_guard (by rfl) ?_; dsimp only)); refine box_event ?hg (N := 4) ?hd (cs := #[.slice none 0 0, .slice none 0 0]) (t := 24) ?hr ?_; (case hd => rfl); (case hg => rfl); (case hr => first | (go_simp; done) | (go_simp; rfl)); intro gb444 hg w6 hbox hb; have n0_ := Aside0.mk (blk_below (g := gb442) (o := .cells #[.slice A0_0 l0_0.length c0_0, .slice A0_1 l0_1.length c0_1] 24 (0, 0)) (by (with_reducible repeat (first | refine blk_drewN ?_ _ | refine blk_drew ?_ | refine blk_alloc ?_ _)); exact BK442.out) hb); have n1_ := Aside0.mk (blk_below (g := gb443) (o := .cells #[.int .i64 a1_0, .int .i64 a1_1] 55 (0, 0)) (by (with_reducible repeat (first | refine blk_drewN ?_ _ | refine blk_drew ?_ | refine blk_alloc ?_ _)); exact BK443.out) hb); have n2_ := Aside0.mk (below_step (by repeat (first | (with_reducible first | exact HB.out | apply below_alloc | apply pw_below_drewN | apply below_drew1 | refine below_set ?_ GE442.out | refine below_set ?_ GE443.out) | exact HB.out)) hb); have n3_ := Aside0.mk (hbox); have n4_ := Aside0.mk ((by rw [hg]; exact (below_size (by repeat (first | (with_reducible first | exact HB.out | apply below_alloc | apply pw_below_drewN | apply below_drew1 | refine below_set ?_ GE442.out | refine below_set ?_ GE443.out) | exact HB.out))) : w.heap.size ≤ gb444)); have n5_ := Aside0.mk ((by rw [hg]; exact (below_size (by repeat (first | (with_reducible first | exact HB.out | apply below_alloc | apply pw_below_drewN | apply below_drew1 | refine below_set ?_ GE442.out | refine below_set ?_ GE443.out) | exact HB.out))) : w.heap.size ≤ gb444)); have n6_ := Aside0.mk ((by rw [hg]; exact Nat.ne_of_lt (blk_lt (g := gb442) (o := .cells #[.slice A0_0 l0_0.length c0_0, .slice A0_1 l0_1.length c0_1] 24 (0, 0)) (by (with_reducible repeat (first | refine blk_drewN ?_ _ | refine blk_drew ?_ | refine blk_alloc ?_ _)); exact BK442.out)) : gb442 ≠ gb444)); have n7_ := Aside0.mk ((by rw [hg]; exact Nat.ne_of_gt (blk_lt (g := gb442) (o := .cells #[.slice A0_0 l0_0.length c0_0, .slice A0_1 l0_1.length c0_1] 24 (0, 0)) (by (with_reducible repeat (first | refine blk_drewN ?_ _ | refine blk_drew ?_ | refine blk_alloc ?_ _)); exact BK442.out)) : gb444 ≠ gb442)); have n8_ := Aside0.mk ((by rw [hg]; exact Nat.ne_of_lt (blk_lt (g := gb443) (o := .cells #[.int .i64 a1_0, .int .i64 a1_1] 55 (0, 0)) (by (with_reducible repeat (first | refine blk_drewN ?_ _ | refine blk_drew ?_ | refine blk_alloc ?_ _)); exact BK443.out)) : gb443 ≠ gb444)); have n9_ := Aside0.mk ((by rw [hg]; exact Nat.ne_of_gt (blk_lt (g := gb443) (o := .cells #[.int .i64 a1_0, .int .i64 a1_1] 55 (0, 0)) (by (with_reducible repeat (first | refine blk_drewN ?_ _ | refine blk_drew ?_ | refine blk_alloc ?_ _)); exact BK443.out)) : gb444 ≠ gb443)); clear BK442; clear BK443; clear HB; have BK442 := n0_; have BK443 := n1_; have HB := n2_; have BK444 := n3_; have GW444 := n4_; have GE444 := n5_; have NB442_444 := n6_; have NB444_442 := n7_; have NB443_444 := n8_; have NB444_443 := n9_; clear n0_ n1_ n2_ n3_ n4_ n5_ n6_ n7_ n8_ n9_; clear hb hbox hg))
  (try simp only [Act.put, List.setIfInBounds_toArray, List.set_cons_zero, List.set_cons_succ])
  go_cut [20] (fun v20 wc => ∃ (kq : Nat) (x20_2 : Bool), v20 = .bool x20_2 ∧ Aside0 (tollgateref03_Apply.j0 kq x20_2 l0_0 l0_1 a1_0 a1_1 = some (r1, r2, r3)) ∧ Aside0 (kq ≤ k) ∧ Aside0 (wc.heap[gb442]? = some (.cells #[(.slice A0_0 l0_0.length c0_0), (.slice A0_1 l0_1.length c0_1)] 24 (0, 0))) ∧ Aside0 (wc.heap[gb443]? = some (.cells #[.int .i64 a1_0, .int .i64 a1_1] 55 (0, 0))) ∧ Aside0 (wc.heap[gb444]? = some (.cells #[(.slice none 0 0), (.slice none 0 0)] 24 (0, 0))) ∧ Aside0 (Below w.heap.size w wc))
  case first =>
    have H := HC3.out
    clear HC3
    replace H := Option.bind_eq_some_iff.mp H
    obtain ⟨t445, A70, H⟩ := H
    replace H : (if t445 = true then ((tollgateref03_RightChange.f a1_0 a1_1).bind fun t446 => (tollgateref03_Apply.j0 k (!t446) l0_0 l0_1 a1_0 a1_1)) else (tollgateref03_Apply.j0 k true l0_0 l0_1 a1_0 a1_1)) = some (r1, r2, r3) := H
    have A7 := Aside0.mk A70
    clear A70
    by_cases c8 : t445 = true
    · subst c8
      have H1 : ((tollgateref03_RightChange.f a1_0 a1_1).bind fun t446 => (tollgateref03_Apply.j0 k (!t446) l0_0 l0_1 a1_0 a1_1)) = some (r1, r2, r3) := by rw [if_pos rfl] at H; exact H
      clear H
      have H := H1
      clear H1
      replace H := Option.bind_eq_some_iff.mp H
      obtain ⟨t446, A90, H⟩ := H
      replace H : (tollgateref03_Apply.j0 k (!t446) l0_0 l0_1 a1_0 a1_1) = some (r1, r2, r3) := H
      have A9 := Aside0.mk A90
      clear A90
      have H' := Aside0.mk H
      clear H
      have hnb10 := NB442_443.out
      have hnc10 := NB443_442.out
      have hnb11 := NB442_444.out
      have hnc11 := NB444_442.out
      have hcz12_0 : w6.cell? ⟨gb442, 0, none⟩ = some (.slice A0_0 l0_0.length c0_0) := (blk_cell BK442.out 0).trans rfl
      have hcz12_1 : w6.cell? ⟨gb442, 1, none⟩ = some (.slice A0_1 l0_1.length c0_1) := (blk_cell BK442.out 1).trans rfl
      have hfz12_0 := blk_frozen BK442.out 0
      have hfz12_1 := blk_frozen BK442.out 1
      go_wp2_with (first | ((with_reducible refine gate_callee (f := 36) rfl ?_); refine goesL_ (some 14) rfl rfl Try.func36 (by kernel_rfl) rfl #[.agg #[.slice A0_0 l0_0.length c0_0, .slice A0_1 l0_1.length c0_1]] rfl (by (try simp only [List.map_toArray, List.map_cons, List.map_nil]); first | done | rfl | (simp only [List.length_drop, List.length_take]; rfl)) ?_; (with_reducible refine (tollgateref03_Right.calls k _ _ l0_0 _ _ l0_1 true _ ?side1 ?side2 ?side3 ?side4 A7.out).mono ?_); (case side1 => repeat (first | exact (Kd.C_below HR0_0.out HB.out) | (with_reducible refine Kd.C_alloc ?_ _) | (with_reducible refine Kd.C_drewN ?_ _) | (with_reducible refine Kd.C_drew ?_))); (case side2 => exact HC0_0.out); (case side3 => repeat (first | exact (Kd.C_below HR0_1.out HB.out) | (with_reducible refine Kd.C_alloc ?_ _) | (with_reducible refine Kd.C_drewN ?_ _) | (with_reducible refine Kd.C_drew ?_))); (case side4 => exact HC0_1.out); rintro e w13 ⟨rfl, hb⟩; refine ⟨_, rfl, ?_⟩; have n0_ := Aside0.mk (blk_below (g := gb442) (o := .cells #[.slice A0_0 l0_0.length c0_0, .slice A0_1 l0_1.length c0_1] 24 (0, 0)) (by (with_reducible repeat (first | refine blk_drewN ?_ _ | refine blk_drew ?_ | refine blk_alloc ?_ _)); exact BK442.out) hb); have n1_ := Aside0.mk (blk_below (g := gb443) (o := .cells #[.int .i64 a1_0, .int .i64 a1_1] 55 (0, 0)) (by (with_reducible repeat (first | refine blk_drewN ?_ _ | refine blk_drew ?_ | refine blk_alloc ?_ _)); exact BK443.out) hb); have n2_ := Aside0.mk (blk_below (g := gb444) (o := .cells #[.slice none 0 0, .slice none 0 0] 24 (0, 0)) (by (with_reducible repeat (first | refine blk_drewN ?_ _ | refine blk_drew ?_ | refine blk_alloc ?_ _)); exact BK444.out) hb); have n3_ := Aside0.mk (below_step (by repeat (first | (with_reducible first | exact HB.out | apply below_alloc | apply pw_below_drewN | apply below_drew1 | refine below_set ?_ GE442.out | refine below_set ?_ GE443.out | refine below_set ?_ GE444.out) | exact HB.out)) hb); clear BK442; clear BK443; clear BK444; clear HB; have BK442 := n0_; have BK443 := n1_; have BK444 := n2_; have HB := n3_; clear n0_ n1_ n2_ n3_; (try clear hb); (try clear hb2); (try clear hk); (try clear hi); have hnb14 := NB443_444.out; have hnc14 := NB444_443.out; have hcz15_0 : w13.cell? ⟨gb443, 0, none⟩ = some (.int .i64 a1_0) := (blk_cell BK443.out 0).trans rfl; have hcz15_1 : w13.cell? ⟨gb443, 1, none⟩ = some (.int .i64 a1_1) := (blk_cell BK443.out 1).trans rfl; have hfz15_0 := blk_frozen BK443.out 0; have hfz15_1 := blk_frozen BK443.out 1) | (go_at_call 61; (with_reducible refine (tollgateref03_RightChange.calls a1_0 a1_1 t446 _ A9.out).mono ?_); rintro e w16 ⟨rfl, hb⟩; have n0_ := Aside0.mk (blk_below (g := gb442) (o := .cells #[.slice A0_0 l0_0.length c0_0, .slice A0_1 l0_1.length c0_1] 24 (0, 0)) (by (with_reducible repeat (first | refine blk_drewN ?_ _ | refine blk_drew ?_ | refine blk_alloc ?_ _)); exact BK442.out) hb); have n1_ := Aside0.mk (blk_below (g := gb443) (o := .cells #[.int .i64 a1_0, .int .i64 a1_1] 55 (0, 0)) (by (with_reducible repeat (first | refine blk_drewN ?_ _ | refine blk_drew ?_ | refine blk_alloc ?_ _)); exact BK443.out) hb); have n2_ := Aside0.mk (blk_below (g := gb444) (o := .cells #[.slice none 0 0, .slice none 0 0] 24 (0, 0)) (by (with_reducible repeat (first | refine blk_drewN ?_ _ | refine blk_drew ?_ | refine blk_alloc ?_ _)); exact BK444.out) hb); have n3_ := Aside0.mk (below_step (by repeat (first | (with_reducible first | exact HB.out | apply below_alloc | apply pw_below_drewN | apply below_drew1 | refine below_set ?_ GE442.out | refine below_set ?_ GE443.out | refine below_set ?_ GE444.out) | exact HB.out)) hb); clear BK442; clear BK443; clear BK444; clear HB; have BK442 := n0_; have BK443 := n1_; have BK444 := n2_; have HB := n3_; clear n0_ n1_ n2_ n3_; (try clear hb); (try clear hb2); (try clear hk); (try clear hi)))
      go_meet
      case rel => exact ⟨_, (!t446), (by first | rfl | (simp; done) | (simp [*]; done)), H', ⟨by first | omega | exact Nat.le_refl _⟩, ⟨by (with_reducible repeat (first | refine blk_drewN ?_ _ | refine blk_drew ?_ | refine blk_alloc ?_ _)); exact BK442.out⟩, ⟨by (with_reducible repeat (first | refine blk_drewN ?_ _ | refine blk_drew ?_ | refine blk_alloc ?_ _)); exact BK443.out⟩, ⟨by (with_reducible repeat (first | refine blk_drewN ?_ _ | refine blk_drew ?_ | refine blk_alloc ?_ _)); exact BK444.out⟩, ⟨by repeat (first | (with_reducible first | exact HB.out | apply below_alloc | apply pw_below_drewN | apply below_drew1 | refine below_set ?_ GE442.out | refine below_set ?_ GE443.out | refine below_set ?_ GE444.out) | exact HB.out)⟩⟩
    · replace c8 := Bool.eq_false_iff.mpr c8
      subst c8
      have H1 : (tollgateref03_Apply.j0 k true l0_0 l0_1 a1_0 a1_1) = some (r1, r2, r3) := by rw [if_neg (show ¬ (false = true) by decide)] at H; exact H
      clear H
      have H := H1
      clear H1
      have H' := Aside0.mk H
      clear H
      have hnb17 := NB442_443.out
      have hnc17 := NB443_442.out
      have hnb18 := NB442_444.out
      have hnc18 := NB444_442.out
      have hcz19_0 : w6.cell? ⟨gb442, 0, none⟩ = some (.slice A0_0 l0_0.length c0_0) := (blk_cell BK442.out 0).trans rfl
      have hcz19_1 : w6.cell? ⟨gb442, 1, none⟩ = some (.slice A0_1 l0_1.length c0_1) := (blk_cell BK442.out 1).trans rfl
      have hfz19_0 := blk_frozen BK442.out 0
      have hfz19_1 := blk_frozen BK442.out 1
      go_wp2_with (first | ((with_reducible refine gate_callee (f := 36) rfl ?_); refine goesL_ (some 14) rfl rfl Try.func36 (by kernel_rfl) rfl #[.agg #[.slice A0_0 l0_0.length c0_0, .slice A0_1 l0_1.length c0_1]] rfl (by (try simp only [List.map_toArray, List.map_cons, List.map_nil]); first | done | rfl | (simp only [List.length_drop, List.length_take]; rfl)) ?_; (with_reducible refine (tollgateref03_Right.calls k _ _ l0_0 _ _ l0_1 false _ ?side1 ?side2 ?side3 ?side4 A7.out).mono ?_); (case side1 => repeat (first | exact (Kd.C_below HR0_0.out HB.out) | (with_reducible refine Kd.C_alloc ?_ _) | (with_reducible refine Kd.C_drewN ?_ _) | (with_reducible refine Kd.C_drew ?_))); (case side2 => exact HC0_0.out); (case side3 => repeat (first | exact (Kd.C_below HR0_1.out HB.out) | (with_reducible refine Kd.C_alloc ?_ _) | (with_reducible refine Kd.C_drewN ?_ _) | (with_reducible refine Kd.C_drew ?_))); (case side4 => exact HC0_1.out); rintro e w20 ⟨rfl, hb⟩; refine ⟨_, rfl, ?_⟩; have n0_ := Aside0.mk (blk_below (g := gb442) (o := .cells #[.slice A0_0 l0_0.length c0_0, .slice A0_1 l0_1.length c0_1] 24 (0, 0)) (by (with_reducible repeat (first | refine blk_drewN ?_ _ | refine blk_drew ?_ | refine blk_alloc ?_ _)); exact BK442.out) hb); have n1_ := Aside0.mk (blk_below (g := gb443) (o := .cells #[.int .i64 a1_0, .int .i64 a1_1] 55 (0, 0)) (by (with_reducible repeat (first | refine blk_drewN ?_ _ | refine blk_drew ?_ | refine blk_alloc ?_ _)); exact BK443.out) hb); have n2_ := Aside0.mk (blk_below (g := gb444) (o := .cells #[.slice none 0 0, .slice none 0 0] 24 (0, 0)) (by (with_reducible repeat (first | refine blk_drewN ?_ _ | refine blk_drew ?_ | refine blk_alloc ?_ _)); exact BK444.out) hb); have n3_ := Aside0.mk (below_step (by repeat (first | (with_reducible first | exact HB.out | apply below_alloc | apply pw_below_drewN | apply below_drew1 | refine below_set ?_ GE442.out | refine below_set ?_ GE443.out | refine below_set ?_ GE444.out) | exact HB.out)) hb); clear BK442; clear BK443; clear BK444; clear HB; have BK442 := n0_; have BK443 := n1_; have BK444 := n2_; have HB := n3_; clear n0_ n1_ n2_ n3_; (try clear hb); (try clear hb2); (try clear hk); (try clear hi)))
      go_meet
      case rel => exact ⟨_, (true), (by first | rfl | (simp; done) | (simp [*]; done)), H', ⟨by first | omega | exact Nat.le_refl _⟩, ⟨by (with_reducible repeat (first | refine blk_drewN ?_ _ | refine blk_drew ?_ | refine blk_alloc ?_ _)); exact BK442.out⟩, ⟨by (with_reducible repeat (first | refine blk_drewN ?_ _ | refine blk_drew ?_ | refine blk_alloc ?_ _)); exact BK443.out⟩, ⟨by (with_reducible repeat (first | refine blk_drewN ?_ _ | refine blk_drew ?_ | refine blk_alloc ?_ _)); exact BK444.out⟩, ⟨by repeat (first | (with_reducible first | exact HB.out | apply below_alloc | apply pw_below_drewN | apply below_drew1 | refine below_set ?_ GE442.out | refine below_set ?_ GE443.out | refine below_set ?_ GE444.out) | exact HB.out)⟩⟩
  case rest =>
    clear HC3
    try clear c1
    try clear p2
    try clear c3
    try clear c4
    try clear c8
    try clear c10
    try clear c11
    try clear c14
    try clear c17
    try clear c18
    try clear hcz12_0
    try clear hcz12_1
    try clear hcz15_0
    try clear hcz15_1
    try clear hcz19_0
    try clear hcz19_1
    try clear hfz12_0
    try clear hfz12_1
    try clear hfz15_0
    try clear hfz15_1
    try clear hfz19_0
    try clear hfz19_1
    obtain ⟨kq, x20_2, rfl, HA, HJ2, BK442, BK443, BK444, HB⟩ := hcut
    cases kq with
    | zero => exact absurd HA.out (by simp [tollgateref03_Apply.j0])
    | succ kj2 =>
      have H := HA.out
      clear HA
      simp only [tollgateref03_Apply.j0] at H
      by_cases c21 : x20_2 = true
      · subst c21
        have H1 : (some (([] : List Int), ([] : List Int), 2)) = some (r1, r2, r3) := by rw [if_pos rfl] at H; exact H
        clear H
        have H := H1
        clear H1
        simp only [Option.some.injEq, Prod.mk.injEq] at H
        obtain ⟨rfl, rfl, rfl⟩ := H
        have hnb22 := NB444_442.out
        have hnc22 := NB442_444.out
        have hnb23 := NB444_443.out
        have hnc23 := NB443_444.out
        have hcz24_0 : wc.cell? ⟨gb444, 0, none⟩ = some (.slice none 0 0) := (blk_cell BK444.out 0).trans rfl
        have hcz24_1 : wc.cell? ⟨gb444, 1, none⟩ = some (.slice none 0 0) := (blk_cell BK444.out 1).trans rfl
        have hfz24_0 := blk_frozen BK444.out 0
        have hfz24_1 := blk_frozen BK444.out 1
        go_wp2
        refine bodyPost_ret (results_ct rfl _ _ gb444 24 #[.slice none 0 0, .slice none 0 0] (0, 0) _ rfl (by (with_reducible repeat (first | refine blk_drewN ?_ _ | refine blk_drew ?_ | refine blk_alloc ?_ _)); refine blk_put (cs := #[.slice none 0 0, .slice none 0 0]) ?_ 1 _ rfl; (with_reducible repeat (first | refine blk_drewN ?_ _ | refine blk_drew ?_ | refine blk_alloc ?_ _)); refine blk_put (cs := #[.slice none 0 0, .slice none 0 0]) ?_ 0 _ rfl; (with_reducible repeat (first | refine blk_drewN ?_ _ | refine blk_drew ?_ | refine blk_alloc ?_ _)); exact BK444.out) Try.underlying24 rfl (by kernel_rfl)) rfl ?_
        exact ⟨_, _, by first | rfl | (simp [errW_none, errW_some] <;> rfl) | (simp [*, errW_none, errW_some] <;> rfl), by first | exact Kd.R_nil _ _ _ _ _ | exact Kd.N_nil _ _ _ _ _ | exact Kd.V_nil _ _ _ _ _ | exact Kd.Q_nil _ _ _ _ _ | exact Kd.S_nil _ _ _ _ _, by first | exact Kd.R_nil _ _ _ _ _ | exact Kd.N_nil _ _ _ _ _ | exact Kd.V_nil _ _ _ _ _ | exact Kd.Q_nil _ _ _ _ _ | exact Kd.S_nil _ _ _ _ _, by repeat (first | (with_reducible first | exact HB.out | apply below_alloc | apply pw_below_drewN | apply below_drew1 | refine below_set ?_ GE442.out | refine below_set ?_ GE443.out | refine below_set ?_ GE444.out) | exact HB.out)⟩
      · replace c21 := Bool.eq_false_iff.mpr c21
        subst c21
        have H1 : ((tollgateref03_In.f kj2 l0_0 a1_1).bind fun t447 => ((tollgateref03_In.f kj2 l0_1 a1_1).bind fun t448 => (if t447 = true then (tollgateref03_Apply.j1 kj2 t447 t448 ((l0_0.length : Int) == 1) l0_0 l0_1 a1_0 a1_1) else (tollgateref03_Apply.j1 kj2 t447 t448 false l0_0 l0_1 a1_0 a1_1)))) = some (r1, r2, r3) := by rw [if_neg (show ¬ (false = true) by decide)] at H; exact H
        clear H
        have H := H1
        clear H1
        replace H := Option.bind_eq_some_iff.mp H
        obtain ⟨t447, A250, H⟩ := H
        replace H : ((tollgateref03_In.f kj2 l0_1 a1_1).bind fun t448 => (if t447 = true then (tollgateref03_Apply.j1 kj2 t447 t448 ((l0_0.length : Int) == 1) l0_0 l0_1 a1_0 a1_1) else (tollgateref03_Apply.j1 kj2 t447 t448 false l0_0 l0_1 a1_0 a1_1))) = some (r1, r2, r3) := H
        have A25 := Aside0.mk A250
        clear A250
        replace H := Option.bind_eq_some_iff.mp H
        obtain ⟨t448, A260, H⟩ := H
        replace H : (if t447 = true then (tollgateref03_Apply.j1 kj2 t447 t448 ((l0_0.length : Int) == 1) l0_0 l0_1 a1_0 a1_1) else (tollgateref03_Apply.j1 kj2 t447 t448 false l0_0 l0_1 a1_0 a1_1)) = some (r1, r2, r3) := H
        have A26 := Aside0.mk A260
        clear A260
        have HC27 := Aside0.mk H
        clear H
        have hnb28 := NB442_443.out
        have hnc28 := NB443_442.out
        have hnb29 := NB442_444.out
        have hnc29 := NB444_442.out
        have hcz30_0 : wc.cell? ⟨gb442, 0, none⟩ = some (.slice A0_0 l0_0.length c0_0) := (blk_cell BK442.out 0).trans rfl
        have hcz30_1 : wc.cell? ⟨gb442, 1, none⟩ = some (.slice A0_1 l0_1.length c0_1) := (blk_cell BK442.out 1).trans rfl
        have hfz30_0 := blk_frozen BK442.out 0
        have hfz30_1 := blk_frozen BK442.out 1
        have hnb31 := NB443_444.out
        have hnc31 := NB444_443.out
        have hcz32_0 : wc.cell? ⟨gb443, 0, none⟩ = some (.int .i64 a1_0) := (blk_cell BK443.out 0).trans rfl
        have hcz32_1 : wc.cell? ⟨gb443, 1, none⟩ = some (.int .i64 a1_1) := (blk_cell BK443.out 1).trans rfl
        have hfz32_0 := blk_frozen BK443.out 0
        have hfz32_1 := blk_frozen BK443.out 1
        go_upto_region 5 with (first | ((with_reducible refine gate_callee (f := 25) rfl ?_); refine goesL_ (some 26) rfl rfl Try.func25 (by kernel_rfl) rfl #[.slice A0_0 l0_0.length c0_0, .int .i64 a1_1] rfl (by (try simp only [List.map_toArray, List.map_cons, List.map_nil]); first | done | rfl | (simp only [List.length_drop, List.length_take]; rfl)) ?_; (with_reducible refine (tollgateref03_In.calls kj2 _ _ l0_0 a1_1 t447 _ ?side1 ?side2 A25.out).mono ?_); (case side1 => repeat (first | exact (Kd.C_below HR0_0.out HB.out) | (with_reducible refine Kd.C_alloc ?_ _) | (with_reducible refine Kd.C_drewN ?_ _) | (with_reducible refine Kd.C_drew ?_))); (case side2 => exact HC0_0.out); rintro e w' ⟨rfl, ⟨nd, rfl⟩⟩; refine ⟨_, rfl, ?_⟩) | ((with_reducible refine gate_callee (f := 25) rfl ?_); refine goesL_ (some 31) rfl rfl Try.func25 (by kernel_rfl) rfl #[.slice A0_1 l0_1.length c0_1, .int .i64 a1_1] rfl (by (try simp only [List.map_toArray, List.map_cons, List.map_nil]); first | done | rfl | (simp only [List.length_drop, List.length_take]; rfl)) ?_; (with_reducible refine (tollgateref03_In.calls kj2 _ _ l0_1 a1_1 t448 _ ?side1 ?side2 A26.out).mono ?_); (case side1 => repeat (first | exact (Kd.C_below HR0_1.out (by repeat (first | (with_reducible first | exact HB.out | apply below_alloc | apply pw_below_drewN | apply below_drew1 | refine below_set ?_ GE442.out | refine below_set ?_ GE443.out | refine below_set ?_ GE444.out) | exact HB.out))) | (with_reducible refine Kd.C_alloc ?_ _) | (with_reducible refine Kd.C_drewN ?_ _) | (with_reducible refine Kd.C_drew ?_))); (case side2 => exact HC0_1.out); rintro e w' ⟨rfl, ⟨nd, rfl⟩⟩; refine ⟨_, rfl, ?_⟩))
        (try simp only [Act.put, List.setIfInBounds_toArray, List.set_cons_zero, List.set_cons_succ])
        go_cut [8] (fun v8 wc => ∃ (kq : Nat) (x8_26 : Bool), v8 = .bool x8_26 ∧ Aside0 (tollgateref03_Apply.j1 kq t447 t448 x8_26 l0_0 l0_1 a1_0 a1_1 = some (r1, r2, r3)) ∧ Aside0 (kq ≤ kj2) ∧ Aside0 (wc.heap[gb442]? = some (.cells #[(.slice A0_0 l0_0.length c0_0), (.slice A0_1 l0_1.length c0_1)] 24 (0, 0))) ∧ Aside0 (wc.heap[gb443]? = some (.cells #[.int .i64 a1_0, .int .i64 a1_1] 55 (0, 0))) ∧ Aside0 (wc.heap[gb444]? = some (.cells #[(.slice none 0 0), (.slice none 0 0)] 24 (0, 0))) ∧ Aside0 (Below w.heap.size w wc))
        case first =>
          have H := HC27.out
          clear HC27
          by_cases c33 : t447 = true
          · subst c33
            have H1 : (tollgateref03_Apply.j1 kj2 true t448 ((l0_0.length : Int) == 1) l0_0 l0_1 a1_0 a1_1) = some (r1, r2, r3) := by rw [if_pos rfl] at H; exact H
            clear H
            have H := H1
            clear H1
            have H' := Aside0.mk H
            clear H
            have hnb34 := NB442_443.out
            have hnc34 := NB443_442.out
            have hnb35 := NB442_444.out
            have hnc35 := NB444_442.out
            have hcz36_0 : wc.cell? ⟨gb442, 0, none⟩ = some (.slice A0_0 l0_0.length c0_0) := (blk_cell BK442.out 0).trans rfl
            have hcz36_1 : wc.cell? ⟨gb442, 1, none⟩ = some (.slice A0_1 l0_1.length c0_1) := (blk_cell BK442.out 1).trans rfl
            have hfz36_0 := blk_frozen BK442.out 0
            have hfz36_1 := blk_frozen BK442.out 1
            go_wp2
            go_meet
            case rel => exact ⟨_, (((l0_0.length : Int) == 1)), (by first | rfl | (simp; done) | (simp [*]; done)), H', ⟨by have := HJ2.out; first | omega | exact Nat.le_refl _⟩, ⟨by (with_reducible repeat (first | refine blk_drewN ?_ _ | refine blk_drew ?_ | refine blk_alloc ?_ _)); exact BK442.out⟩, ⟨by (with_reducible repeat (first | refine blk_drewN ?_ _ | refine blk_drew ?_ | refine blk_alloc ?_ _)); exact BK443.out⟩, ⟨by (with_reducible repeat (first | refine blk_drewN ?_ _ | refine blk_drew ?_ | refine blk_alloc ?_ _)); exact BK444.out⟩, ⟨by repeat (first | (with_reducible first | exact HB.out | apply below_alloc | apply pw_below_drewN | apply below_drew1 | refine below_set ?_ GE442.out | refine below_set ?_ GE443.out | refine below_set ?_ GE444.out) | exact HB.out)⟩⟩
          · replace c33 := Bool.eq_false_iff.mpr c33
            subst c33
            have H1 : (tollgateref03_Apply.j1 kj2 false t448 false l0_0 l0_1 a1_0 a1_1) = some (r1, r2, r3) := by rw [if_neg (show ¬ (false = true) by decide)] at H; exact H
            clear H
            have H := H1
            clear H1
            have H' := Aside0.mk H
            clear H
            go_wp2
            go_meet
            case rel => exact ⟨_, (false), (by first | rfl | (simp; done) | (simp [*]; done)), H', ⟨by have := HJ2.out; first | omega | exact Nat.le_refl _⟩, ⟨by (with_reducible repeat (first | refine blk_drewN ?_ _ | refine blk_drew ?_ | refine blk_alloc ?_ _)); exact BK442.out⟩, ⟨by (with_reducible repeat (first | refine blk_drewN ?_ _ | refine blk_drew ?_ | refine blk_alloc ?_ _)); exact BK443.out⟩, ⟨by (with_reducible repeat (first | refine blk_drewN ?_ _ | refine blk_drew ?_ | refine blk_alloc ?_ _)); exact BK444.out⟩, ⟨by repeat (first | (with_reducible first | exact HB.out | apply below_alloc | apply pw_below_drewN | apply below_drew1 | refine below_set ?_ GE442.out | refine below_set ?_ GE443.out | refine below_set ?_ GE444.out) | exact HB.out)⟩⟩
        case rest =>
          clear HC27
          try clear c1
          try clear c2
          try clear p2
          try clear c3
          try clear c4
          try clear c8
          try clear c10
          try clear c11
          try clear c14
          try clear c17
          try clear c18
          try clear c21
          try clear c22
          try clear c23
          try clear c25
          try clear c28
          try clear c29
          try clear c31
          try clear c33
          try clear c34
          try clear c35
          try clear c36
          try clear hcz12_0
          try clear hcz12_1
          try clear hcz15_0
          try clear hcz15_1
          try clear hcz19_0
          try clear hcz19_1
          try clear hcz24_0
          try clear hcz24_1
          try clear hcz30_0
          try clear hcz30_1
          try clear hcz32_0
          try clear hcz32_1
          try clear hcz36_0
          try clear hcz36_1
          try clear hfz12_0
          try clear hfz12_1
          try clear hfz15_0
          try clear hfz15_1
          try clear hfz19_0
          try clear hfz19_1
          try clear hfz24_0
          try clear hfz24_1
          try clear hfz30_0
          try clear hfz30_1
          try clear hfz32_0
          try clear hfz32_1
          try clear hfz36_0
          try clear hfz36_1
          try clear p2
          obtain ⟨kq, x8_26, rfl, HA, HJ26, BK442, BK443, BK444, HB⟩ := hcut
          cases kq with
          | zero => exact absurd HA.out (by simp [tollgateref03_Apply.j1])
          | succ kj26 =>
            have H := HA.out
            clear HA
            simp only [tollgateref03_Apply.j1] at H
            have HC37 := Aside0.mk H
            clear H
            have hnb38 := NB443_442.out
            have hnc38 := NB442_443.out
            have hnb39 := NB443_444.out
            have hnc39 := NB444_443.out
            have hcz40_0 : wc.cell? ⟨gb443, 0, none⟩ = some (.int .i64 a1_0) := (blk_cell BK443.out 0).trans rfl
            have hcz40_1 : wc.cell? ⟨gb443, 1, none⟩ = some (.int .i64 a1_1) := (blk_cell BK443.out 1).trans rfl
            have hfz40_0 := blk_frozen BK443.out 0
            have hfz40_1 := blk_frozen BK443.out 1
            go_upto_block 0 with (fail)
            go_cut [9, 10] (fun v9 v10 wc => ∃ (kq : Nat) (x9_36 : Bool) (x10_36 : Bool), v9 = .bool x9_36 ∧ v10 = .bool x10_36 ∧ Aside0 (tollgateref03_Apply.j3 kq x9_36 x10_36 l0_0 l0_1 a1_0 a1_1 = some (r1, r2, r3)) ∧ Aside0 (kq ≤ kj26) ∧ Aside0 (wc.heap[gb442]? = some (.cells #[(.slice A0_0 l0_0.length c0_0), (.slice A0_1 l0_1.length c0_1)] 24 (0, 0))) ∧ Aside0 (wc.heap[gb443]? = some (.cells #[.int .i64 a1_0, .int .i64 a1_1] 55 (0, 0))) ∧ Aside0 (wc.heap[gb444]? = some (.cells #[(.slice none 0 0), (.slice none 0 0)] 24 (0, 0))) ∧ Aside0 (Below w.heap.size w wc))
            case first =>
              have H := HC37.out
              clear HC37
              by_cases c41 : a1_0 = 1
              · rw [if_pos c41] at H
                have c41b0 : (a1_0 == 1) = true := beq_iff_eq.mpr c41
                have c41b1 : (a1_0 != 1) = false := bne_eq_false_iff_eq.mpr c41
                clear c41
                (first | rw [c41b0] | (simp only [i64_w, i32_w]; rw [c41b0]) | skip)
                by_cases c42 : t447 = true
                · subst c42
                  have H1 : (some (([] : List Int), ([] : List Int), 7)) = some (r1, r2, r3) := by rw [if_pos rfl] at H; exact H
                  clear H
                  have H := H1
                  clear H1
                  simp only [Option.some.injEq, Prod.mk.injEq] at H
                  obtain ⟨rfl, rfl, rfl⟩ := H
                  have hnb43 := NB444_442.out
                  have hnc43 := NB442_444.out
                  have hnb44 := NB444_443.out
                  have hnc44 := NB443_444.out
                  have hcz45_0 : wc.cell? ⟨gb444, 0, none⟩ = some (.slice none 0 0) := (blk_cell BK444.out 0).trans rfl
                  have hcz45_1 : wc.cell? ⟨gb444, 1, none⟩ = some (.slice none 0 0) := (blk_cell BK444.out 1).trans rfl
                  have hfz45_0 := blk_frozen BK444.out 0
                  have hfz45_1 := blk_frozen BK444.out 1
                  go_wp2
                  refine bodyPost_ret (results_ct rfl _ _ gb444 24 #[.slice none 0 0, .slice none 0 0] (0, 0) _ rfl (by (with_reducible repeat (first | refine blk_drewN ?_ _ | refine blk_drew ?_ | refine blk_alloc ?_ _)); refine blk_put (cs := #[.slice none 0 0, .slice none 0 0]) ?_ 1 _ rfl; (with_reducible repeat (first | refine blk_drewN ?_ _ | refine blk_drew ?_ | refine blk_alloc ?_ _)); refine blk_put (cs := #[.slice none 0 0, .slice none 0 0]) ?_ 0 _ rfl; (with_reducible repeat (first | refine blk_drewN ?_ _ | refine blk_drew ?_ | refine blk_alloc ?_ _)); exact BK444.out) Try.underlying24 rfl (by kernel_rfl)) rfl ?_
                  exact ⟨_, _, by first | rfl | (simp [errW_none, errW_some] <;> rfl) | (simp [*, errW_none, errW_some] <;> rfl), by first | exact Kd.R_nil _ _ _ _ _ | exact Kd.N_nil _ _ _ _ _ | exact Kd.V_nil _ _ _ _ _ | exact Kd.Q_nil _ _ _ _ _ | exact Kd.S_nil _ _ _ _ _, by first | exact Kd.R_nil _ _ _ _ _ | exact Kd.N_nil _ _ _ _ _ | exact Kd.V_nil _ _ _ _ _ | exact Kd.Q_nil _ _ _ _ _ | exact Kd.S_nil _ _ _ _ _, by repeat (first | (with_reducible first | exact HB.out | apply below_alloc | apply pw_below_drewN | apply below_drew1 | refine below_set ?_ GE442.out | refine below_set ?_ GE443.out | refine below_set ?_ GE444.out) | exact HB.out)⟩
                · replace c42 := Bool.eq_false_iff.mpr c42
                  subst c42
                  have H1 : (if t448 = true then (some (([] : List Int), ([] : List Int), 7)) else (tollgateref03_Apply.j3 kj26 false true l0_0 l0_1 a1_0 a1_1)) = some (r1, r2, r3) := by rw [if_neg (show ¬ (false = true) by decide)] at H; exact H
                  clear H
                  have H := H1
                  clear H1
                  by_cases c46 : t448 = true
                  · subst c46
                    have H1 : (some (([] : List Int), ([] : List Int), 7)) = some (r1, r2, r3) := by rw [if_pos rfl] at H; exact H
                    clear H
                    have H := H1
                    clear H1
                    simp only [Option.some.injEq, Prod.mk.injEq] at H
                    obtain ⟨rfl, rfl, rfl⟩ := H
                    have hnb47 := NB444_442.out
                    have hnc47 := NB442_444.out
                    have hnb48 := NB444_443.out
                    have hnc48 := NB443_444.out
                    have hcz49_0 : wc.cell? ⟨gb444, 0, none⟩ = some (.slice none 0 0) := (blk_cell BK444.out 0).trans rfl
                    have hcz49_1 : wc.cell? ⟨gb444, 1, none⟩ = some (.slice none 0 0) := (blk_cell BK444.out 1).trans rfl
                    have hfz49_0 := blk_frozen BK444.out 0
                    have hfz49_1 := blk_frozen BK444.out 1
                    go_wp2
                    refine bodyPost_ret (results_ct rfl _ _ gb444 24 #[.slice none 0 0, .slice none 0 0] (0, 0) _ rfl (by (with_reducible repeat (first | refine blk_drewN ?_ _ | refine blk_drew ?_ | refine blk_alloc ?_ _)); refine blk_put (cs := #[.slice none 0 0, .slice none 0 0]) ?_ 1 _ rfl; (with_reducible repeat (first | refine blk_drewN ?_ _ | refine blk_drew ?_ | refine blk_alloc ?_ _)); refine blk_put (cs := #[.slice none 0 0, .slice none 0 0]) ?_ 0 _ rfl; (with_reducible repeat (first | refine blk_drewN ?_ _ | refine blk_drew ?_ | refine blk_alloc ?_ _)); exact BK444.out) Try.underlying24 rfl (by kernel_rfl)) rfl ?_
                    exact ⟨_, _, by first | rfl | (simp [errW_none, errW_some] <;> rfl) | (simp [*, errW_none, errW_some] <;> rfl), by first | exact Kd.R_nil _ _ _ _ _ | exact Kd.N_nil _ _ _ _ _ | exact Kd.V_nil _ _ _ _ _ | exact Kd.Q_nil _ _ _ _ _ | exact Kd.S_nil _ _ _ _ _, by first | exact Kd.R_nil _ _ _ _ _ | exact Kd.N_nil _ _ _ _ _ | exact Kd.V_nil _ _ _ _ _ | exact Kd.Q_nil _ _ _ _ _ | exact Kd.S_nil _ _ _ _ _, by repeat (first | (with_reducible first | exact HB.out | apply below_alloc | apply pw_below_drewN | apply below_drew1 | refine below_set ?_ GE442.out | refine below_set ?_ GE443.out | refine below_set ?_ GE444.out) | exact HB.out)⟩
                  · replace c46 := Bool.eq_false_iff.mpr c46
                    subst c46
                    have H1 : (tollgateref03_Apply.j3 kj26 false true l0_0 l0_1 a1_0 a1_1) = some (r1, r2, r3) := by rw [if_neg (show ¬ (false = true) by decide)] at H; exact H
                    clear H
                    have H := H1
                    clear H1
                    have H' := Aside0.mk H
                    clear H
                    go_wp2
                    go_meet
                    case rel => exact ⟨_, (false), (true), (by first | rfl | (simp; done) | (simp [*]; done)), (by first | rfl | (simp; done) | (simp [*]; done)), H', ⟨by have := HJ2.out; have := HJ26.out; first | omega | exact Nat.le_refl _⟩, ⟨by (with_reducible repeat (first | refine blk_drewN ?_ _ | refine blk_drew ?_ | refine blk_alloc ?_ _)); exact BK442.out⟩, ⟨by (with_reducible repeat (first | refine blk_drewN ?_ _ | refine blk_drew ?_ | refine blk_alloc ?_ _)); exact BK443.out⟩, ⟨by (with_reducible repeat (first | refine blk_drewN ?_ _ | refine blk_drew ?_ | refine blk_alloc ?_ _)); exact BK444.out⟩, ⟨by repeat (first | (with_reducible first | exact HB.out | apply below_alloc | apply pw_below_drewN | apply below_drew1 | refine below_set ?_ GE442.out | refine below_set ?_ GE443.out | refine below_set ?_ GE444.out) | exact HB.out)⟩⟩
              · rw [if_neg c41] at H
                have c41b0 : (a1_0 == 1) = false := beq_eq_false_iff_ne.mpr c41
                have c41b1 : (a1_0 != 1) = true := bne_iff_ne.mpr c41
                (first | rw [c41b0] | (simp only [i64_w, i32_w]; rw [c41b0]) | skip)
                by_cases c50 : a1_0 = 2
                · rw [if_pos c50] at H
                  have c50b0 : (a1_0 == 2) = true := beq_iff_eq.mpr c50
                  have c50b1 : (a1_0 != 2) = false := bne_eq_false_iff_eq.mpr c50
                  clear c50
                  by_cases c51 : t448 = true
                  · subst c51
                    have H1 : (tollgateref03_Apply.j3 kj26 true false l0_0 l0_1 a1_0 a1_1) = some (r1, r2, r3) := by rw [if_pos rfl] at H; exact H
                    clear H
                    have H := H1
                    clear H1
                    have H' := Aside0.mk H
                    clear H
                    go_wp2
                    go_meet
                    case rel => exact ⟨_, (true), (false), (by first | rfl | (simp; done) | (simp [*]; done)), (by first | rfl | (simp; done) | (simp [*]; done)), H', ⟨by have := HJ2.out; have := HJ26.out; first | omega | exact Nat.le_refl _⟩, ⟨by (with_reducible repeat (first | refine blk_drewN ?_ _ | refine blk_drew ?_ | refine blk_alloc ?_ _)); exact BK442.out⟩, ⟨by (with_reducible repeat (first | refine blk_drewN ?_ _ | refine blk_drew ?_ | refine blk_alloc ?_ _)); exact BK443.out⟩, ⟨by (with_reducible repeat (first | refine blk_drewN ?_ _ | refine blk_drew ?_ | refine blk_alloc ?_ _)); exact BK444.out⟩, ⟨by repeat (first | (with_reducible first | exact HB.out | apply below_alloc | apply pw_below_drewN | apply below_drew1 | refine below_set ?_ GE442.out | refine below_set ?_ GE443.out | refine below_set ?_ GE444.out) | exact HB.out)⟩⟩
                  · replace c51 := Bool.eq_false_iff.mpr c51
                    subst c51
                    have H1 : (some (([] : List Int), ([] : List Int), 8)) = some (r1, r2, r3) := by rw [if_neg (show ¬ (false = true) by decide)] at H; exact H
                    clear H
                    have H := H1
                    clear H1
                    simp only [Option.some.injEq, Prod.mk.injEq] at H
                    obtain ⟨rfl, rfl, rfl⟩ := H
                    have hnb52 := NB444_442.out
                    have hnc52 := NB442_444.out
                    have hnb53 := NB444_443.out
                    have hnc53 := NB443_444.out
                    have hcz54_0 : wc.cell? ⟨gb444, 0, none⟩ = some (.slice none 0 0) := (blk_cell BK444.out 0).trans rfl
                    have hcz54_1 : wc.cell? ⟨gb444, 1, none⟩ = some (.slice none 0 0) := (blk_cell BK444.out 1).trans rfl
                    have hfz54_0 := blk_frozen BK444.out 0
                    have hfz54_1 := blk_frozen BK444.out 1
                    go_wp2
                    refine bodyPost_ret (results_ct rfl _ _ gb444 24 #[.slice none 0 0, .slice none 0 0] (0, 0) _ rfl (by (with_reducible repeat (first | refine blk_drewN ?_ _ | refine blk_drew ?_ | refine blk_alloc ?_ _)); refine blk_put (cs := #[.slice none 0 0, .slice none 0 0]) ?_ 1 _ rfl; (with_reducible repeat (first | refine blk_drewN ?_ _ | refine blk_drew ?_ | refine blk_alloc ?_ _)); refine blk_put (cs := #[.slice none 0 0, .slice none 0 0]) ?_ 0 _ rfl; (with_reducible repeat (first | refine blk_drewN ?_ _ | refine blk_drew ?_ | refine blk_alloc ?_ _)); exact BK444.out) Try.underlying24 rfl (by kernel_rfl)) rfl ?_
                    exact ⟨_, _, by first | rfl | (simp [errW_none, errW_some] <;> rfl) | (simp [*, errW_none, errW_some] <;> rfl), by first | exact Kd.R_nil _ _ _ _ _ | exact Kd.N_nil _ _ _ _ _ | exact Kd.V_nil _ _ _ _ _ | exact Kd.Q_nil _ _ _ _ _ | exact Kd.S_nil _ _ _ _ _, by first | exact Kd.R_nil _ _ _ _ _ | exact Kd.N_nil _ _ _ _ _ | exact Kd.V_nil _ _ _ _ _ | exact Kd.Q_nil _ _ _ _ _ | exact Kd.S_nil _ _ _ _ _, by repeat (first | (with_reducible first | exact HB.out | apply below_alloc | apply pw_below_drewN | apply below_drew1 | refine below_set ?_ GE442.out | refine below_set ?_ GE443.out | refine below_set ?_ GE444.out) | exact HB.out)⟩
                · rw [if_neg c50] at H
                  have c50b0 : (a1_0 == 2) = false := beq_eq_false_iff_ne.mpr c50
                  have c50b1 : (a1_0 != 2) = true := bne_iff_ne.mpr c50
                  by_cases c55 : a1_0 = 3
                  · rw [if_pos c55] at H
                    have c55b0 : (a1_0 == 3) = true := beq_iff_eq.mpr c55
                    have c55b1 : (a1_0 != 3) = false := bne_eq_false_iff_eq.mpr c55
                    clear c55
                    by_cases c56 : t447 = true
                    · subst c56
                      have H1 : (if x8_26 = true then (some (([] : List Int), ([] : List Int), 6)) else (tollgateref03_Apply.j3 kj26 false true l0_0 l0_1 a1_0 a1_1)) = some (r1, r2, r3) := by rw [if_pos rfl] at H; exact H
                      clear H
                      have H := H1
                      clear H1
                      by_cases c57 : x8_26 = true
                      · subst c57
                        have H1 : (some (([] : List Int), ([] : List Int), 6)) = some (r1, r2, r3) := by rw [if_pos rfl] at H; exact H
                        clear H
                        have H := H1
                        clear H1
                        simp only [Option.some.injEq, Prod.mk.injEq] at H
                        obtain ⟨rfl, rfl, rfl⟩ := H
                        have hnb58 := NB444_442.out
                        have hnc58 := NB442_444.out
                        have hnb59 := NB444_443.out
                        have hnc59 := NB443_444.out
                        have hcz60_0 : wc.cell? ⟨gb444, 0, none⟩ = some (.slice none 0 0) := (blk_cell BK444.out 0).trans rfl
                        have hcz60_1 : wc.cell? ⟨gb444, 1, none⟩ = some (.slice none 0 0) := (blk_cell BK444.out 1).trans rfl
                        have hfz60_0 := blk_frozen BK444.out 0
                        have hfz60_1 := blk_frozen BK444.out 1
                        go_wp2
                        refine bodyPost_ret (results_ct rfl _ _ gb444 24 #[.slice none 0 0, .slice none 0 0] (0, 0) _ rfl (by (with_reducible repeat (first | refine blk_drewN ?_ _ | refine blk_drew ?_ | refine blk_alloc ?_ _)); refine blk_put (cs := #[.slice none 0 0, .slice none 0 0]) ?_ 1 _ rfl; (with_reducible repeat (first | refine blk_drewN ?_ _ | refine blk_drew ?_ | refine blk_alloc ?_ _)); refine blk_put (cs := #[.slice none 0 0, .slice none 0 0]) ?_ 0 _ rfl; (with_reducible repeat (first | refine blk_drewN ?_ _ | refine blk_drew ?_ | refine blk_alloc ?_ _)); exact BK444.out) Try.underlying24 rfl (by kernel_rfl)) rfl ?_
                        exact ⟨_, _, by first | rfl | (simp [errW_none, errW_some] <;> rfl) | (simp [*, errW_none, errW_some] <;> rfl), by first | exact Kd.R_nil _ _ _ _ _ | exact Kd.N_nil _ _ _ _ _ | exact Kd.V_nil _ _ _ _ _ | exact Kd.Q_nil _ _ _ _ _ | exact Kd.S_nil _ _ _ _ _, by first | exact Kd.R_nil _ _ _ _ _ | exact Kd.N_nil _ _ _ _ _ | exact Kd.V_nil _ _ _ _ _ | exact Kd.Q_nil _ _ _ _ _ | exact Kd.S_nil _ _ _ _ _, by repeat (first | (with_reducible first | exact HB.out | apply below_alloc | apply pw_below_drewN | apply below_drew1 | refine below_set ?_ GE442.out | refine below_set ?_ GE443.out | refine below_set ?_ GE444.out) | exact HB.out)⟩
                      · replace c57 := Bool.eq_false_iff.mpr c57
                        subst c57
                        have H1 : (tollgateref03_Apply.j3 kj26 false true l0_0 l0_1 a1_0 a1_1) = some (r1, r2, r3) := by rw [if_neg (show ¬ (false = true) by decide)] at H; exact H
                        clear H
                        have H := H1
                        clear H1
                        have H' := Aside0.mk H
                        clear H
                        go_wp2
                        go_meet
                        case rel => exact ⟨_, (false), (true), (by first | rfl | (simp; done) | (simp [*]; done)), (by first | rfl | (simp; done) | (simp [*]; done)), H', ⟨by have := HJ2.out; have := HJ26.out; first | omega | exact Nat.le_refl _⟩, ⟨by (with_reducible repeat (first | refine blk_drewN ?_ _ | refine blk_drew ?_ | refine blk_alloc ?_ _)); exact BK442.out⟩, ⟨by (with_reducible repeat (first | refine blk_drewN ?_ _ | refine blk_drew ?_ | refine blk_alloc ?_ _)); exact BK443.out⟩, ⟨by (with_reducible repeat (first | refine blk_drewN ?_ _ | refine blk_drew ?_ | refine blk_alloc ?_ _)); exact BK444.out⟩, ⟨by repeat (first | (with_reducible first | exact HB.out | apply below_alloc | apply pw_below_drewN | apply below_drew1 | refine below_set ?_ GE442.out | refine below_set ?_ GE443.out | refine below_set ?_ GE444.out) | exact HB.out)⟩⟩
                    · replace c56 := Bool.eq_false_iff.mpr c56
                      subst c56
                      have H1 : (some (([] : List Int), ([] : List Int), 8)) = some (r1, r2, r3) := by rw [if_neg (show ¬ (false = true) by decide)] at H; exact H
                      clear H
                      have H := H1
                      clear H1
                      simp only [Option.some.injEq, Prod.mk.injEq] at H
                      obtain ⟨rfl, rfl, rfl⟩ := H
                      have hnb61 := NB444_442.out
                      have hnc61 := NB442_444.out
                      have hnb62 := NB444_443.out
                      have hnc62 := NB443_444.out
                      have hcz63_0 : wc.cell? ⟨gb444, 0, none⟩ = some (.slice none 0 0) := (blk_cell BK444.out 0).trans rfl
                      have hcz63_1 : wc.cell? ⟨gb444, 1, none⟩ = some (.slice none 0 0) := (blk_cell BK444.out 1).trans rfl
                      have hfz63_0 := blk_frozen BK444.out 0
                      have hfz63_1 := blk_frozen BK444.out 1
                      go_wp2
                      refine bodyPost_ret (results_ct rfl _ _ gb444 24 #[.slice none 0 0, .slice none 0 0] (0, 0) _ rfl (by (with_reducible repeat (first | refine blk_drewN ?_ _ | refine blk_drew ?_ | refine blk_alloc ?_ _)); refine blk_put (cs := #[.slice none 0 0, .slice none 0 0]) ?_ 1 _ rfl; (with_reducible repeat (first | refine blk_drewN ?_ _ | refine blk_drew ?_ | refine blk_alloc ?_ _)); refine blk_put (cs := #[.slice none 0 0, .slice none 0 0]) ?_ 0 _ rfl; (with_reducible repeat (first | refine blk_drewN ?_ _ | refine blk_drew ?_ | refine blk_alloc ?_ _)); exact BK444.out) Try.underlying24 rfl (by kernel_rfl)) rfl ?_
                      exact ⟨_, _, by first | rfl | (simp [errW_none, errW_some] <;> rfl) | (simp [*, errW_none, errW_some] <;> rfl), by first | exact Kd.R_nil _ _ _ _ _ | exact Kd.N_nil _ _ _ _ _ | exact Kd.V_nil _ _ _ _ _ | exact Kd.Q_nil _ _ _ _ _ | exact Kd.S_nil _ _ _ _ _, by first | exact Kd.R_nil _ _ _ _ _ | exact Kd.N_nil _ _ _ _ _ | exact Kd.V_nil _ _ _ _ _ | exact Kd.Q_nil _ _ _ _ _ | exact Kd.S_nil _ _ _ _ _, by repeat (first | (with_reducible first | exact HB.out | apply below_alloc | apply pw_below_drewN | apply below_drew1 | refine below_set ?_ GE442.out | refine below_set ?_ GE443.out | refine below_set ?_ GE444.out) | exact HB.out)⟩
                  · rw [if_neg c55] at H
                    have c55b0 : (a1_0 == 3) = false := beq_eq_false_iff_ne.mpr c55
                    have c55b1 : (a1_0 != 3) = true := bne_iff_ne.mpr c55
                    have HC64 := Aside0.mk H
                    clear H
                    go_upto_region 9 with (fail)
                    go_cut [46] (fun v46 wc => ∃ (kq : Nat) (x46_63 : Bool), v46 = .bool x46_63 ∧ Aside0 (tollgateref03_Apply.j2 kq x8_26 false false x46_63 l0_0 l0_1 a1_0 a1_1 = some (r1, r2, r3)) ∧ Aside0 (kq ≤ kj26) ∧ Aside0 (wc.heap[gb442]? = some (.cells #[(.slice A0_0 l0_0.length c0_0), (.slice A0_1 l0_1.length c0_1)] 24 (0, 0))) ∧ Aside0 (wc.heap[gb443]? = some (.cells #[.int .i64 a1_0, .int .i64 a1_1] 55 (0, 0))) ∧ Aside0 (wc.heap[gb444]? = some (.cells #[(.slice none 0 0), (.slice none 0 0)] 24 (0, 0))) ∧ Aside0 (Below w.heap.size w wc))
                    case first =>
                      have H := HC64.out
                      clear HC64
                      by_cases c65 : t447 = true
                      · subst c65
                        have H1 : (tollgateref03_Apply.j2 kj26 x8_26 false false false l0_0 l0_1 a1_0 a1_1) = some (r1, r2, r3) := by rw [if_pos rfl] at H; exact H
                        clear H
                        have H := H1
                        clear H1
                        have H' := Aside0.mk H
                        clear H
                        go_wp2
                        go_meet
                        case rel => exact ⟨_, (false), (by first | rfl | (simp; done) | (simp [*]; done)), H', ⟨by have := HJ2.out; have := HJ26.out; first | omega | exact Nat.le_refl _⟩, ⟨by (with_reducible repeat (first | refine blk_drewN ?_ _ | refine blk_drew ?_ | refine blk_alloc ?_ _)); exact BK442.out⟩, ⟨by (with_reducible repeat (first | refine blk_drewN ?_ _ | refine blk_drew ?_ | refine blk_alloc ?_ _)); exact BK443.out⟩, ⟨by (with_reducible repeat (first | refine blk_drewN ?_ _ | refine blk_drew ?_ | refine blk_alloc ?_ _)); exact BK444.out⟩, ⟨by repeat (first | (with_reducible first | exact HB.out | apply below_alloc | apply pw_below_drewN | apply below_drew1 | refine below_set ?_ GE442.out | refine below_set ?_ GE443.out | refine below_set ?_ GE444.out) | exact HB.out)⟩⟩
                      · replace c65 := Bool.eq_false_iff.mpr c65
                        subst c65
                        have H1 : (tollgateref03_Apply.j2 kj26 x8_26 false false (!t448) l0_0 l0_1 a1_0 a1_1) = some (r1, r2, r3) := by rw [if_neg (show ¬ (false = true) by decide)] at H; exact H
                        clear H
                        have H := H1
                        clear H1
                        have H' := Aside0.mk H
                        clear H
                        go_wp2
                        go_meet
                        case rel => exact ⟨_, (!t448), (by first | rfl | (simp; done) | (simp [*]; done)), H', ⟨by have := HJ2.out; have := HJ26.out; first | omega | exact Nat.le_refl _⟩, ⟨by (with_reducible repeat (first | refine blk_drewN ?_ _ | refine blk_drew ?_ | refine blk_alloc ?_ _)); exact BK442.out⟩, ⟨by (with_reducible repeat (first | refine blk_drewN ?_ _ | refine blk_drew ?_ | refine blk_alloc ?_ _)); exact BK443.out⟩, ⟨by (with_reducible repeat (first | refine blk_drewN ?_ _ | refine blk_drew ?_ | refine blk_alloc ?_ _)); exact BK444.out⟩, ⟨by repeat (first | (with_reducible first | exact HB.out | apply below_alloc | apply pw_below_drewN | apply below_drew1 | refine below_set ?_ GE442.out | refine below_set ?_ GE443.out | refine below_set ?_ GE444.out) | exact HB.out)⟩⟩
                    case rest =>
                      clear HC64
                      try clear c1
                      try clear c2
                      try clear p2
                      try clear c3
                      try clear c4
                      try clear c5
                      try clear c6
                      try clear c8
                      try clear c10
                      try clear c11
                      try clear c14
                      try clear c17
                      try clear c18
                      try clear c21
                      try clear c22
                      try clear c23
                      try clear c25
                      try clear c28
                      try clear c29
                      try clear c31
                      try clear c33
                      try clear c34
                      try clear c35
                      try clear c36
                      try clear c38
                      try clear c39
                      try clear c41
                      try clear c41b0
                      try clear c41b1
                      try clear c42
                      try clear c43
                      try clear c44
                      try clear c46
                      try clear c47
                      try clear c48
                      try clear c50
                      try clear c50b0
                      try clear c50b1
                      try clear c51
                      try clear c52
                      try clear c53
                      try clear c55
                      try clear c55b0
                      try clear c55b1
                      try clear c56
                      try clear c57
                      try clear c58
                      try clear c59
                      try clear c61
                      try clear c62
                      try clear c65
                      try clear hcz12_0
                      try clear hcz12_1
                      try clear hcz15_0
                      try clear hcz15_1
                      try clear hcz19_0
                      try clear hcz19_1
                      try clear hcz24_0
                      try clear hcz24_1
                      try clear hcz30_0
                      try clear hcz30_1
                      try clear hcz32_0
                      try clear hcz32_1
                      try clear hcz36_0
                      try clear hcz36_1
                      try clear hcz40_0
                      try clear hcz40_1
                      try clear hcz45_0
                      try clear hcz45_1
                      try clear hcz49_0
                      try clear hcz49_1
                      try clear hcz54_0
                      try clear hcz54_1
                      try clear hcz60_0
                      try clear hcz60_1
                      try clear hcz63_0
                      try clear hcz63_1
                      try clear hfz12_0
                      try clear hfz12_1
                      try clear hfz15_0
                      try clear hfz15_1
                      try clear hfz19_0
                      try clear hfz19_1
                      try clear hfz24_0
                      try clear hfz24_1
                      try clear hfz30_0
                      try clear hfz30_1
                      try clear hfz32_0
                      try clear hfz32_1
                      try clear hfz36_0
                      try clear hfz36_1
                      try clear hfz40_0
                      try clear hfz40_1
                      try clear hfz45_0
                      try clear hfz45_1
                      try clear hfz49_0
                      try clear hfz49_1
                      try clear hfz54_0
                      try clear hfz54_1
                      try clear hfz60_0
                      try clear hfz60_1
                      try clear hfz63_0
                      try clear hfz63_1
                      try clear p2
                      obtain ⟨kq, x46_63, rfl, HA, HJ63, BK442, BK443, BK444, HB⟩ := hcut
                      cases kq with
                      | zero => exact absurd HA.out (by simp [tollgateref03_Apply.j2])
                      | succ kj63 =>
                        have H := HA.out
                        clear HA
                        simp only [tollgateref03_Apply.j2] at H
                        by_cases c66 : x46_63 = true
                        · subst c66
                          have H1 : (some (([] : List Int), ([] : List Int), 8)) = some (r1, r2, r3) := by rw [if_pos rfl] at H; exact H
                          clear H
                          have H := H1
                          clear H1
                          simp only [Option.some.injEq, Prod.mk.injEq] at H
                          obtain ⟨rfl, rfl, rfl⟩ := H
                          have hnb67 := NB444_442.out
                          have hnc67 := NB442_444.out
                          have hnb68 := NB444_443.out
                          have hnc68 := NB443_444.out
                          have hcz69_0 : wc.cell? ⟨gb444, 0, none⟩ = some (.slice none 0 0) := (blk_cell BK444.out 0).trans rfl
                          have hcz69_1 : wc.cell? ⟨gb444, 1, none⟩ = some (.slice none 0 0) := (blk_cell BK444.out 1).trans rfl
                          have hfz69_0 := blk_frozen BK444.out 0
                          have hfz69_1 := blk_frozen BK444.out 1
                          go_wp2
                          refine bodyPost_ret (results_ct rfl _ _ gb444 24 #[.slice none 0 0, .slice none 0 0] (0, 0) _ rfl (by (with_reducible repeat (first | refine blk_drewN ?_ _ | refine blk_drew ?_ | refine blk_alloc ?_ _)); refine blk_put (cs := #[.slice none 0 0, .slice none 0 0]) ?_ 1 _ rfl; (with_reducible repeat (first | refine blk_drewN ?_ _ | refine blk_drew ?_ | refine blk_alloc ?_ _)); refine blk_put (cs := #[.slice none 0 0, .slice none 0 0]) ?_ 0 _ rfl; (with_reducible repeat (first | refine blk_drewN ?_ _ | refine blk_drew ?_ | refine blk_alloc ?_ _)); exact BK444.out) Try.underlying24 rfl (by kernel_rfl)) rfl ?_
                          exact ⟨_, _, by first | rfl | (simp [errW_none, errW_some] <;> rfl) | (simp [*, errW_none, errW_some] <;> rfl), by first | exact Kd.R_nil _ _ _ _ _ | exact Kd.N_nil _ _ _ _ _ | exact Kd.V_nil _ _ _ _ _ | exact Kd.Q_nil _ _ _ _ _ | exact Kd.S_nil _ _ _ _ _, by first | exact Kd.R_nil _ _ _ _ _ | exact Kd.N_nil _ _ _ _ _ | exact Kd.V_nil _ _ _ _ _ | exact Kd.Q_nil _ _ _ _ _ | exact Kd.S_nil _ _ _ _ _, by repeat (first | (with_reducible first | exact HB.out | apply below_alloc | apply pw_below_drewN | apply below_drew1 | refine below_set ?_ GE442.out | refine below_set ?_ GE443.out | refine below_set ?_ GE444.out) | exact HB.out)⟩
                        · replace c66 := Bool.eq_false_iff.mpr c66
                          subst c66
                          have H1 : (if x8_26 = true then (some (([] : List Int), ([] : List Int), 6)) else (tollgateref03_Apply.j3 kj63 false false l0_0 l0_1 a1_0 a1_1)) = some (r1, r2, r3) := by rw [if_neg (show ¬ (false = true) by decide)] at H; exact H
                          clear H
                          have H := H1
                          clear H1
                          by_cases c70 : x8_26 = true
                          · subst c70
                            have H1 : (some (([] : List Int), ([] : List Int), 6)) = some (r1, r2, r3) := by rw [if_pos rfl] at H; exact H
                            clear H
                            have H := H1
                            clear H1
                            simp only [Option.some.injEq, Prod.mk.injEq] at H
                            obtain ⟨rfl, rfl, rfl⟩ := H
                            have hnb71 := NB444_442.out
                            have hnc71 := NB442_444.out
                            have hnb72 := NB444_443.out
                            have hnc72 := NB443_444.out
                            have hcz73_0 : wc.cell? ⟨gb444, 0, none⟩ = some (.slice none 0 0) := (blk_cell BK444.out 0).trans rfl
                            have hcz73_1 : wc.cell? ⟨gb444, 1, none⟩ = some (.slice none 0 0) := (blk_cell BK444.out 1).trans rfl
                            have hfz73_0 := blk_frozen BK444.out 0
                            have hfz73_1 := blk_frozen BK444.out 1
                            go_wp2
                            refine bodyPost_ret (results_ct rfl _ _ gb444 24 #[.slice none 0 0, .slice none 0 0] (0, 0) _ rfl (by (with_reducible repeat (first | refine blk_drewN ?_ _ | refine blk_drew ?_ | refine blk_alloc ?_ _)); refine blk_put (cs := #[.slice none 0 0, .slice none 0 0]) ?_ 1 _ rfl; (with_reducible repeat (first | refine blk_drewN ?_ _ | refine blk_drew ?_ | refine blk_alloc ?_ _)); refine blk_put (cs := #[.slice none 0 0, .slice none 0 0]) ?_ 0 _ rfl; (with_reducible repeat (first | refine blk_drewN ?_ _ | refine blk_drew ?_ | refine blk_alloc ?_ _)); exact BK444.out) Try.underlying24 rfl (by kernel_rfl)) rfl ?_
                            exact ⟨_, _, by first | rfl | (simp [errW_none, errW_some] <;> rfl) | (simp [*, errW_none, errW_some] <;> rfl), by first | exact Kd.R_nil _ _ _ _ _ | exact Kd.N_nil _ _ _ _ _ | exact Kd.V_nil _ _ _ _ _ | exact Kd.Q_nil _ _ _ _ _ | exact Kd.S_nil _ _ _ _ _, by first | exact Kd.R_nil _ _ _ _ _ | exact Kd.N_nil _ _ _ _ _ | exact Kd.V_nil _ _ _ _ _ | exact Kd.Q_nil _ _ _ _ _ | exact Kd.S_nil _ _ _ _ _, by repeat (first | (with_reducible first | exact HB.out | apply below_alloc | apply pw_below_drewN | apply below_drew1 | refine below_set ?_ GE442.out | refine below_set ?_ GE443.out | refine below_set ?_ GE444.out) | exact HB.out)⟩
                          · replace c70 := Bool.eq_false_iff.mpr c70
                            subst c70
                            have H1 : (tollgateref03_Apply.j3 kj63 false false l0_0 l0_1 a1_0 a1_1) = some (r1, r2, r3) := by rw [if_neg (show ¬ (false = true) by decide)] at H; exact H
                            clear H
                            have H := H1
                            clear H1
                            have H' := Aside0.mk H
                            clear H
                            go_wp2
                            go_meet
                            case rel => exact ⟨_, (false), (false), (by first | rfl | (simp; done) | (simp [*]; done)), (by first | rfl | (simp; done) | (simp [*]; done)), H', ⟨by have := HJ2.out; have := HJ26.out; have := HJ63.out; first | omega | exact Nat.le_refl _⟩, ⟨by (with_reducible repeat (first | refine blk_drewN ?_ _ | refine blk_drew ?_ | refine blk_alloc ?_ _)); exact BK442.out⟩, ⟨by (with_reducible repeat (first | refine blk_drewN ?_ _ | refine blk_drew ?_ | refine blk_alloc ?_ _)); exact BK443.out⟩, ⟨by (with_reducible repeat (first | refine blk_drewN ?_ _ | refine blk_drew ?_ | refine blk_alloc ?_ _)); exact BK444.out⟩, ⟨by repeat (first | (with_reducible first | exact HB.out | apply below_alloc | apply pw_below_drewN | apply below_drew1 | refine below_set ?_ GE442.out | refine below_set ?_ GE443.out | refine below_set ?_ GE444.out) | exact HB.out)⟩⟩
            case rest =>
              clear HC37
              try clear c1
              try clear c2
              try clear p2
              try clear c3
              try clear c4
              try clear c5
              try clear c6
              try clear c7
              try clear c8
              try clear c10
              try clear c11
              try clear c14
              try clear c17
              try clear c18
              try clear c21
              try clear c22
              try clear c23
              try clear c25
              try clear c28
              try clear c29
              try clear c31
              try clear c33
              try clear c34
              try clear c35
              try clear c36
              try clear c38
              try clear c39
              try clear c41
              try clear c41b0
              try clear c41b1
              try clear c42
              try clear c43
              try clear c44
              try clear c46
              try clear c47
              try clear c48
              try clear c50
              try clear c50b0
              try clear c50b1
              try clear c51
              try clear c52
              try clear c53
              try clear c55
              try clear c55b0
              try clear c55b1
              try clear c56
              try clear c57
              try clear c58
              try clear c59
              try clear c61
              try clear c62
              try clear c65
              try clear c66
              try clear c67
              try clear c68
              try clear c70
              try clear c71
              try clear c72
              try clear hcz12_0
              try clear hcz12_1
              try clear hcz15_0
              try clear hcz15_1
              try clear hcz19_0
              try clear hcz19_1
              try clear hcz24_0
              try clear hcz24_1
              try clear hcz30_0
              try clear hcz30_1
              try clear hcz32_0
              try clear hcz32_1
              try clear hcz36_0
              try clear hcz36_1
              try clear hcz40_0
              try clear hcz40_1
              try clear hcz45_0
              try clear hcz45_1
              try clear hcz49_0
              try clear hcz49_1
              try clear hcz54_0
              try clear hcz54_1
              try clear hcz60_0
              try clear hcz60_1
              try clear hcz63_0
              try clear hcz63_1
              try clear hcz69_0
              try clear hcz69_1
              try clear hcz73_0
              try clear hcz73_1
              try clear hfz12_0
              try clear hfz12_1
              try clear hfz15_0
              try clear hfz15_1
              try clear hfz19_0
              try clear hfz19_1
              try clear hfz24_0
              try clear hfz24_1
              try clear hfz30_0
              try clear hfz30_1
              try clear hfz32_0
              try clear hfz32_1
              try clear hfz36_0
              try clear hfz36_1
              try clear hfz40_0
              try clear hfz40_1
              try clear hfz45_0
              try clear hfz45_1
              try clear hfz49_0
              try clear hfz49_1
              try clear hfz54_0
              try clear hfz54_1
              try clear hfz60_0
              try clear hfz60_1
              try clear hfz63_0
              try clear hfz63_1
              try clear hfz69_0
              try clear hfz69_1
              try clear hfz73_0
              try clear hfz73_1
              try clear p2
              obtain ⟨kq, x9_36, x10_36, rfl, rfl, HA, HJ36, BK442, BK443, BK444, HB⟩ := hcut
              cases kq with
              | zero => exact absurd HA.out (by simp [tollgateref03_Apply.j3])
              | succ kj36 =>
                have H := HA.out
                clear HA
                simp only [tollgateref03_Apply.j3] at H
                have H' := Aside0.mk H
                clear H
                go_wp2_with (first | ((with_reducible refine gate_dst (N := 11) rfl ?_); (try (refine gate_guard (by rfl) ?_; dsimp only)); refine box_event ?hg (N := 11) ?hd (cs := #[.slice none 0 0, .slice none 0 0]) (t := 24) ?hr ?_; (case hd => rfl); (case hg => rfl); (case hr => first | (go_simp; done) | (go_simp; rfl)); intro gb449 hg w74 hbox hb; have n0_ := Aside0.mk (blk_below (g := gb442) (o := .cells #[.slice A0_0 l0_0.length c0_0, .slice A0_1 l0_1.length c0_1] 24 (0, 0)) (by (with_reducible repeat (first | refine blk_drewN ?_ _ | refine blk_drew ?_ | refine blk_alloc ?_ _)); exact BK442.out) hb); have n1_ := Aside0.mk (blk_below (g := gb443) (o := .cells #[.int .i64 a1_0, .int .i64 a1_1] 55 (0, 0)) (by (with_reducible repeat (first | refine blk_drewN ?_ _ | refine blk_drew ?_ | refine blk_alloc ?_ _)); exact BK443.out) hb); have n2_ := Aside0.mk (blk_below (g := gb444) (o := .cells #[.slice none 0 0, .slice none 0 0] 24 (0, 0)) (by (with_reducible repeat (first | refine blk_drewN ?_ _ | refine blk_drew ?_ | refine blk_alloc ?_ _)); exact BK444.out) hb); have n3_ := Aside0.mk (below_step (by repeat (first | (with_reducible first | exact HB.out | apply below_alloc | apply pw_below_drewN | apply below_drew1 | refine below_set ?_ GE442.out | refine below_set ?_ GE443.out | refine below_set ?_ GE444.out) | exact HB.out)) hb); have n4_ := Aside0.mk (hbox); have n5_ := Aside0.mk ((by rw [hg]; exact (below_size (by repeat (first | (with_reducible first | exact HB.out | apply below_alloc | apply pw_below_drewN | apply below_drew1 | refine below_set ?_ GE442.out | refine below_set ?_ GE443.out | refine below_set ?_ GE444.out) | exact HB.out))) : w.heap.size ≤ gb449)); have n6_ := Aside0.mk ((by rw [hg]; exact (below_size (by repeat (first | (with_reducible first | exact HB.out | apply below_alloc | apply pw_below_drewN | apply below_drew1 | refine below_set ?_ GE442.out | refine below_set ?_ GE443.out | refine below_set ?_ GE444.out) | exact HB.out))) : w.heap.size ≤ gb449)); have n7_ := Aside0.mk ((by rw [hg]; exact Nat.ne_of_lt (blk_lt (g := gb442) (o := .cells #[.slice A0_0 l0_0.length c0_0, .slice A0_1 l0_1.length c0_1] 24 (0, 0)) (by (with_reducible repeat (first | refine blk_drewN ?_ _ | refine blk_drew ?_ | refine blk_alloc ?_ _)); exact BK442.out)) : gb442 ≠ gb449)); have n8_ := Aside0.mk ((by rw [hg]; exact Nat.ne_of_gt (blk_lt (g := gb442) (o := .cells #[.slice A0_0 l0_0.length c0_0, .slice A0_1 l0_1.length c0_1] 24 (0, 0)) (by (with_reducible repeat (first | refine blk_drewN ?_ _ | refine blk_drew ?_ | refine blk_alloc ?_ _)); exact BK442.out)) : gb449 ≠ gb442)); have n9_ := Aside0.mk ((by rw [hg]; exact Nat.ne_of_lt (blk_lt (g := gb443) (o := .cells #[.int .i64 a1_0, .int .i64 a1_1] 55 (0, 0)) (by (with_reducible repeat (first | refine blk_drewN ?_ _ | refine blk_drew ?_ | refine blk_alloc ?_ _)); exact BK443.out)) : gb443 ≠ gb449)); have n10_ := Aside0.mk ((by rw [hg]; exact Nat.ne_of_gt (blk_lt (g := gb443) (o := .cells #[.int .i64 a1_0, .int .i64 a1_1] 55 (0, 0)) (by (with_reducible repeat (first | refine blk_drewN ?_ _ | refine blk_drew ?_ | refine blk_alloc ?_ _)); exact BK443.out)) : gb449 ≠ gb443)); have n11_ := Aside0.mk ((by rw [hg]; exact Nat.ne_of_lt (blk_lt (g := gb444) (o := .cells #[.slice none 0 0, .slice none 0 0] 24 (0, 0)) (by (with_reducible repeat (first | refine blk_drewN ?_ _ | refine blk_drew ?_ | refine blk_alloc ?_ _)); exact BK444.out)) : gb444 ≠ gb449)); have n12_ := Aside0.mk ((by rw [hg]; exact Nat.ne_of_gt (blk_lt (g := gb444) (o := .cells #[.slice none 0 0, .slice none 0 0] 24 (0, 0)) (by (with_reducible repeat (first | refine blk_drewN ?_ _ | refine blk_drew ?_ | refine blk_alloc ?_ _)); exact BK444.out)) : gb449 ≠ gb444)); clear BK442; clear BK443; clear BK444; clear HB; have BK442 := n0_; have BK443 := n1_; have BK444 := n2_; have HB := n3_; have BK449 := n4_; have GW449 := n5_; have GE449 := n6_; have NB442_449 := n7_; have NB449_442 := n8_; have NB443_449 := n9_; have NB449_443 := n10_; have NB444_449 := n11_; have NB449_444 := n12_; clear n0_ n1_ n2_ n3_ n4_ n5_ n6_ n7_ n8_ n9_ n10_ n11_ n12_; clear hb hbox hg; have hnb75 := NB449_442.out; have hnc75 := NB442_449.out; have hnb76 := NB449_443.out; have hnc76 := NB443_449.out; have hnb77 := NB449_444.out; have hnc77 := NB444_449.out; have hcz78_0 : w74.cell? ⟨gb449, 0, none⟩ = some (.slice none 0 0) := (blk_cell BK449.out 0).trans rfl; have hcz78_1 : w74.cell? ⟨gb449, 1, none⟩ = some (.slice none 0 0) := (blk_cell BK449.out 1).trans rfl; have hfz78_0 := blk_frozen BK449.out 0; have hfz78_1 := blk_frozen BK449.out 1))
                go_loopg [12] kj36 (fun kq v12 w' => ∃ (x12_4 : Int) (x450000_4 : List Int) (x450001_4 : List Int) (u450000 : Value) (u450001 : Value), v12 = .int .i64 x12_4 ∧ Aside0 (tollgateref03_Apply.l0 kq x9_36 x10_36 x12_4 l0_0 l0_1 a1_0 a1_1 x450000_4 x450001_4 = some (r1, r2, r3)) ∧ Aside0 (kq ≤ kj36) ∧ Aside0 (Kd.R (Kd.int .i64) 3 w' w.heap.size (fun k_ => some k_ ≠ (u450001 : Value).ownBlock) u450000 x450000_4) ∧ Aside0 (Kd.R (Kd.int .i64) 3 w' w.heap.size (fun k_ => some k_ ≠ (u450000 : Value).ownBlock) u450001 x450001_4) ∧ Aside0 (w'.heap[gb442]? = some (.cells #[(.slice A0_0 l0_0.length c0_0), (.slice A0_1 l0_1.length c0_1)] 24 (0, 0))) ∧ Aside0 (w'.heap[gb443]? = some (.cells #[.int .i64 a1_0, .int .i64 a1_1] 55 (0, 0))) ∧ Aside0 (w'.heap[gb444]? = some (.cells #[(.slice none 0 0), (.slice none 0 0)] 24 (0, 0))) ∧ Aside0 (w'.heap[gb449]? = some (.cells #[u450000, u450001] 24 (0, 0))) ∧ Aside0 (Below w.heap.size w w'))
                case atStart => exact ⟨(1), (([] : List Int)), (([] : List Int)), (.slice none 0 0), (.slice none 0 0), (by first | rfl | (simp; done) | (simp [*]; done)), H', ⟨Nat.le_refl _⟩, ⟨by first | exact Kd.R_nil _ _ _ _ _ | exact Kd.N_nil _ _ _ _ _ | exact Kd.V_nil _ _ _ _ _ | exact Kd.Q_nil _ _ _ _ _ | exact Kd.S_nil _ _ _ _ _⟩, ⟨by first | exact Kd.R_nil _ _ _ _ _ | exact Kd.N_nil _ _ _ _ _ | exact Kd.V_nil _ _ _ _ _ | exact Kd.Q_nil _ _ _ _ _ | exact Kd.S_nil _ _ _ _ _⟩, ⟨by (with_reducible repeat (first | refine blk_drewN ?_ _ | refine blk_drew ?_ | refine blk_alloc ?_ _)); refine blk_far ?_ NB442_449.out _; (with_reducible repeat (first | refine blk_drewN ?_ _ | refine blk_drew ?_ | refine blk_alloc ?_ _)); refine blk_far ?_ NB442_449.out _; (with_reducible repeat (first | refine blk_drewN ?_ _ | refine blk_drew ?_ | refine blk_alloc ?_ _)); exact BK442.out⟩, ⟨by (with_reducible repeat (first | refine blk_drewN ?_ _ | refine blk_drew ?_ | refine blk_alloc ?_ _)); refine blk_far ?_ NB443_449.out _; (with_reducible repeat (first | refine blk_drewN ?_ _ | refine blk_drew ?_ | refine blk_alloc ?_ _)); refine blk_far ?_ NB443_449.out _; (with_reducible repeat (first | refine blk_drewN ?_ _ | refine blk_drew ?_ | refine blk_alloc ?_ _)); exact BK443.out⟩, ⟨by (with_reducible repeat (first | refine blk_drewN ?_ _ | refine blk_drew ?_ | refine blk_alloc ?_ _)); refine blk_far ?_ NB444_449.out _; (with_reducible repeat (first | refine blk_drewN ?_ _ | refine blk_drew ?_ | refine blk_alloc ?_ _)); refine blk_far ?_ NB444_449.out _; (with_reducible repeat (first | refine blk_drewN ?_ _ | refine blk_drew ?_ | refine blk_alloc ?_ _)); exact BK444.out⟩, ⟨by (with_reducible repeat (first | refine blk_drewN ?_ _ | refine blk_drew ?_ | refine blk_alloc ?_ _)); refine blk_put (cs := #[.slice none 0 0, .slice none 0 0]) ?_ 1 _ rfl; (with_reducible repeat (first | refine blk_drewN ?_ _ | refine blk_drew ?_ | refine blk_alloc ?_ _)); refine blk_put (cs := #[.slice none 0 0, .slice none 0 0]) ?_ 0 _ rfl; (with_reducible repeat (first | refine blk_drewN ?_ _ | refine blk_drew ?_ | refine blk_alloc ?_ _)); exact BK449.out⟩, ⟨by repeat (first | (with_reducible first | exact HB.out | apply below_alloc | apply pw_below_drewN | apply below_drew1 | refine below_set ?_ GE442.out | refine below_set ?_ GE443.out | refine below_set ?_ GE444.out | refine below_set ?_ GE449.out) | exact HB.out)⟩⟩
                case round =>
                  clear H'
                  try clear c1
                  try clear c2
                  try clear p2
                  try clear c3
                  try clear c4
                  try clear c5
                  try clear c6
                  try clear c7
                  try clear c8
                  try clear c10
                  try clear c11
                  try clear c14
                  try clear c17
                  try clear c18
                  try clear c21
                  try clear c22
                  try clear c23
                  try clear c25
                  try clear c28
                  try clear c29
                  try clear c31
                  try clear c33
                  try clear c34
                  try clear c35
                  try clear c36
                  try clear c38
                  try clear c39
                  try clear c41
                  try clear c41b0
                  try clear c41b1
                  try clear c42
                  try clear c43
                  try clear c44
                  try clear c46
                  try clear c47
                  try clear c48
                  try clear c50
                  try clear c50b0
                  try clear c50b1
                  try clear c51
                  try clear c52
                  try clear c53
                  try clear c55
                  try clear c55b0
                  try clear c55b1
                  try clear c56
                  try clear c57
                  try clear c58
                  try clear c59
                  try clear c61
                  try clear c62
                  try clear c65
                  try clear c66
                  try clear c67
                  try clear c68
                  try clear c70
                  try clear c71
                  try clear c72
                  try clear c75
                  try clear c76
                  try clear c77
                  try clear hcz12_0
                  try clear hcz12_1
                  try clear hcz15_0
                  try clear hcz15_1
                  try clear hcz19_0
                  try clear hcz19_1
                  try clear hcz24_0
                  try clear hcz24_1
                  try clear hcz30_0
                  try clear hcz30_1
                  try clear hcz32_0
                  try clear hcz32_1
                  try clear hcz36_0
                  try clear hcz36_1
                  try clear hcz40_0
                  try clear hcz40_1
                  try clear hcz45_0
                  try clear hcz45_1
                  try clear hcz49_0
                  try clear hcz49_1
                  try clear hcz54_0
                  try clear hcz54_1
                  try clear hcz60_0
                  try clear hcz60_1
                  try clear hcz63_0
                  try clear hcz63_1
                  try clear hcz69_0
                  try clear hcz69_1
                  try clear hcz73_0
                  try clear hcz73_1
                  try clear hcz78_0
                  try clear hcz78_1
                  try clear hfz12_0
                  try clear hfz12_1
                  try clear hfz15_0
                  try clear hfz15_1
                  try clear hfz19_0
                  try clear hfz19_1
                  try clear hfz24_0
                  try clear hfz24_1
                  try clear hfz30_0
                  try clear hfz30_1
                  try clear hfz32_0
                  try clear hfz32_1
                  try clear hfz36_0
                  try clear hfz36_1
                  try clear hfz40_0
                  try clear hfz40_1
                  try clear hfz45_0
                  try clear hfz45_1
                  try clear hfz49_0
                  try clear hfz49_1
                  try clear hfz54_0
                  try clear hfz54_1
                  try clear hfz60_0
                  try clear hfz60_1
                  try clear hfz63_0
                  try clear hfz63_1
                  try clear hfz69_0
                  try clear hfz69_1
                  try clear hfz73_0
                  try clear hfz73_1
                  try clear hfz78_0
                  try clear hfz78_1
                  try clear p2
                  obtain ⟨x12_4, x450000_4, x450001_4, u450000, u450001, rfl, HA, HK4, HO_450000, HO_450001, BK442, BK443, BK444, BK449, HB⟩ := hrel
                  cases gk with
                  | zero => exact absurd HA.out (by simp [tollgateref03_Apply.l0])
                  | succ k4 =>
                    have H := HA.out
                    clear HA
                    simp only [tollgateref03_Apply.l0] at H
                    by_cases c79 : x12_4 ≤ 9
                    · rw [if_pos c79] at H
                      have c79b0 : decide (x12_4 ≤ 9) = true := decide_eq_true c79
                      clear c79
                      have HC80 := Aside0.mk H
                      clear H
                      go_upto_region 31 with (fail)
                      go_cut [92] (fun v92 wc => ∃ (kq : Nat) (x92_79 : Bool), v92 = .bool x92_79 ∧ Aside0 (tollgateref03_Apply.j5 kq x9_36 x10_36 x12_4 x92_79 l0_0 l0_1 a1_0 a1_1 x450000_4 x450001_4 = some (r1, r2, r3)) ∧ Aside0 (kq ≤ k4) ∧ Aside0 (Kd.R (Kd.int .i64) 3 wc w.heap.size (fun k_ => some k_ ≠ (u450001 : Value).ownBlock) u450000 x450000_4) ∧ Aside0 (Kd.R (Kd.int .i64) 3 wc w.heap.size (fun k_ => some k_ ≠ (u450000 : Value).ownBlock) u450001 x450001_4) ∧ Aside0 (wc.heap[gb442]? = some (.cells #[(.slice A0_0 l0_0.length c0_0), (.slice A0_1 l0_1.length c0_1)] 24 (0, 0))) ∧ Aside0 (wc.heap[gb443]? = some (.cells #[.int .i64 a1_0, .int .i64 a1_1] 55 (0, 0))) ∧ Aside0 (wc.heap[gb444]? = some (.cells #[(.slice none 0 0), (.slice none 0 0)] 24 (0, 0))) ∧ Aside0 (wc.heap[gb449]? = some (.cells #[u450000, u450001] 24 (0, 0))) ∧ Aside0 (Below w.heap.size w wc))
                      case first =>
                        have H := HC80.out
                        clear HC80
                        by_cases c81 : x12_4 = a1_1
                        · rw [if_pos c81] at H
                          have c81b0 : (x12_4 == a1_1) = true := beq_iff_eq.mpr c81
                          have c81b1 : (x12_4 != a1_1) = false := bne_eq_false_iff_eq.mpr c81
                          clear c81
                          (first | rw [c81b0] | (simp only [i64_w, i32_w]; rw [c81b0]) | skip)
                          by_cases c82 : x9_36 = true
                          · subst c82
                            have H1 : (tollgateref03_Apply.j5 k4 true x10_36 x12_4 true l0_0 l0_1 a1_0 a1_1 x450000_4 x450001_4) = some (r1, r2, r3) := by rw [if_pos rfl] at H; exact H
                            clear H
                            have H := H1
                            clear H1
                            have H' := Aside0.mk H
                            clear H
                            have hnb83 := NB443_442.out
                            have hnc83 := NB442_443.out
                            have hnb84 := NB443_444.out
                            have hnc84 := NB444_443.out
                            have hnb85 := NB443_449.out
                            have hnc85 := NB449_443.out
                            have hcz86_0 : wr.cell? ⟨gb443, 0, none⟩ = some (.int .i64 a1_0) := (blk_cell BK443.out 0).trans rfl
                            have hcz86_1 : wr.cell? ⟨gb443, 1, none⟩ = some (.int .i64 a1_1) := (blk_cell BK443.out 1).trans rfl
                            have hfz86_0 := blk_frozen BK443.out 0
                            have hfz86_1 := blk_frozen BK443.out 1
                            go_wp2
                            go_meet
                            case rel => exact ⟨_, (true), (by first | rfl | (simp; done) | (simp [*]; done)), H', ⟨by have := HJ2.out; have := HJ26.out; have := HJ36.out; have := HK4.out; first | omega | exact Nat.le_refl _⟩, ⟨by (with_reducible repeat (first | apply Kd.R_alloc | apply Kd.R_drewN | apply Kd.R_drew)); exact HO_450000.out⟩, ⟨by (with_reducible repeat (first | apply Kd.R_alloc | apply Kd.R_drewN | apply Kd.R_drew)); exact HO_450001.out⟩, ⟨by (with_reducible repeat (first | refine blk_drewN ?_ _ | refine blk_drew ?_ | refine blk_alloc ?_ _)); exact BK442.out⟩, ⟨by (with_reducible repeat (first | refine blk_drewN ?_ _ | refine blk_drew ?_ | refine blk_alloc ?_ _)); exact BK443.out⟩, ⟨by (with_reducible repeat (first | refine blk_drewN ?_ _ | refine blk_drew ?_ | refine blk_alloc ?_ _)); exact BK444.out⟩, ⟨by (with_reducible repeat (first | refine blk_drewN ?_ _ | refine blk_drew ?_ | refine blk_alloc ?_ _)); exact BK449.out⟩, ⟨by repeat (first | (with_reducible first | exact HB.out | apply below_alloc | apply pw_below_drewN | apply below_drew1 | refine below_set ?_ GE442.out | refine below_set ?_ GE443.out | refine below_set ?_ GE444.out | refine below_set ?_ GE449.out) | exact HB.out)⟩⟩
                          · replace c82 := Bool.eq_false_iff.mpr c82
                            subst c82
                            have H1 : (tollgateref03_Apply.j5 k4 false x10_36 x12_4 false l0_0 l0_1 a1_0 a1_1 x450000_4 x450001_4) = some (r1, r2, r3) := by rw [if_neg (show ¬ (false = true) by decide)] at H; exact H
                            clear H
                            have H := H1
                            clear H1
                            have H' := Aside0.mk H
                            clear H
                            have hnb87 := NB443_442.out
                            have hnc87 := NB442_443.out
                            have hnb88 := NB443_444.out
                            have hnc88 := NB444_443.out
                            have hnb89 := NB443_449.out
                            have hnc89 := NB449_443.out
                            have hcz90_0 : wr.cell? ⟨gb443, 0, none⟩ = some (.int .i64 a1_0) := (blk_cell BK443.out 0).trans rfl
                            have hcz90_1 : wr.cell? ⟨gb443, 1, none⟩ = some (.int .i64 a1_1) := (blk_cell BK443.out 1).trans rfl
                            have hfz90_0 := blk_frozen BK443.out 0
                            have hfz90_1 := blk_frozen BK443.out 1
                            go_wp2
                            go_meet
                            case rel => exact ⟨_, (false), (by first | rfl | (simp; done) | (simp [*]; done)), H', ⟨by have := HJ2.out; have := HJ26.out; have := HJ36.out; have := HK4.out; first | omega | exact Nat.le_refl _⟩, ⟨by (with_reducible repeat (first | apply Kd.R_alloc | apply Kd.R_drewN | apply Kd.R_drew)); exact HO_450000.out⟩, ⟨by (with_reducible repeat (first | apply Kd.R_alloc | apply Kd.R_drewN | apply Kd.R_drew)); exact HO_450001.out⟩, ⟨by (with_reducible repeat (first | refine blk_drewN ?_ _ | refine blk_drew ?_ | refine blk_alloc ?_ _)); exact BK442.out⟩, ⟨by (with_reducible repeat (first | refine blk_drewN ?_ _ | refine blk_drew ?_ | refine blk_alloc ?_ _)); exact BK443.out⟩, ⟨by (with_reducible repeat (first | refine blk_drewN ?_ _ | refine blk_drew ?_ | refine blk_alloc ?_ _)); exact BK444.out⟩, ⟨by (with_reducible repeat (first | refine blk_drewN ?_ _ | refine blk_drew ?_ | refine blk_alloc ?_ _)); exact BK449.out⟩, ⟨by repeat (first | (with_reducible first | exact HB.out | apply below_alloc | apply pw_below_drewN | apply below_drew1 | refine below_set ?_ GE442.out | refine below_set ?_ GE443.out | refine below_set ?_ GE444.out | refine below_set ?_ GE449.out) | exact HB.out)⟩⟩
                        · rw [if_neg c81] at H
                          have c81b0 : (x12_4 == a1_1) = false := beq_eq_false_iff_ne.mpr c81
                          have c81b1 : (x12_4 != a1_1) = true := bne_iff_ne.mpr c81
                          (first | rw [c81b0] | (simp only [i64_w, i32_w]; rw [c81b0]) | skip)
                          replace H := Option.bind_eq_some_iff.mp H
                          obtain ⟨t450, A910, H⟩ := H
                          replace H : (tollgateref03_Apply.j5 k4 x9_36 x10_36 x12_4 t450 l0_0 l0_1 a1_0 a1_1 x450000_4 x450001_4) = some (r1, r2, r3) := H
                          have A91 := Aside0.mk A910
                          clear A910
                          have H' := Aside0.mk H
                          clear H
                          have hnb92 := NB443_442.out
                          have hnc92 := NB442_443.out
                          have hnb93 := NB443_444.out
                          have hnc93 := NB444_443.out
                          have hnb94 := NB443_449.out
                          have hnc94 := NB449_443.out
                          have hcz95_0 : wr.cell? ⟨gb443, 0, none⟩ = some (.int .i64 a1_0) := (blk_cell BK443.out 0).trans rfl
                          have hcz95_1 : wr.cell? ⟨gb443, 1, none⟩ = some (.int .i64 a1_1) := (blk_cell BK443.out 1).trans rfl
                          have hfz95_0 := blk_frozen BK443.out 0
                          have hfz95_1 := blk_frozen BK443.out 1
                          have hnb96 := NB442_444.out
                          have hnc96 := NB444_442.out
                          have hnb97 := NB442_449.out
                          have hnc97 := NB449_442.out
                          have hcz98_0 : wr.cell? ⟨gb442, 0, none⟩ = some (.slice A0_0 l0_0.length c0_0) := (blk_cell BK442.out 0).trans rfl
                          have hcz98_1 : wr.cell? ⟨gb442, 1, none⟩ = some (.slice A0_1 l0_1.length c0_1) := (blk_cell BK442.out 1).trans rfl
                          have hfz98_0 := blk_frozen BK442.out 0
                          have hfz98_1 := blk_frozen BK442.out 1
                          go_wp2_with (first | (go_at_call 25; (with_reducible refine (tollgateref03_In.calls k4 _ _ l0_0 x12_4 t450 _ ?side1 ?side2 A91.out).mono ?_); (case side1 => repeat (first | exact (Kd.C_below HR0_0.out HB.out) | (with_reducible refine Kd.C_alloc ?_ _) | (with_reducible refine Kd.C_drewN ?_ _) | (with_reducible refine Kd.C_drew ?_))); (case side2 => exact HC0_0.out); rintro e w' ⟨rfl, ⟨nd, rfl⟩⟩))
                          go_meet
                          case rel => exact ⟨_, (t450), (by first | rfl | (simp; done) | (simp [*]; done)), H', ⟨by have := HJ2.out; have := HJ26.out; have := HJ36.out; have := HK4.out; first | omega | exact Nat.le_refl _⟩, ⟨by (with_reducible repeat (first | apply Kd.R_alloc | apply Kd.R_drewN | apply Kd.R_drew)); exact HO_450000.out⟩, ⟨by (with_reducible repeat (first | apply Kd.R_alloc | apply Kd.R_drewN | apply Kd.R_drew)); exact HO_450001.out⟩, ⟨by (with_reducible repeat (first | refine blk_drewN ?_ _ | refine blk_drew ?_ | refine blk_alloc ?_ _)); exact BK442.out⟩, ⟨by (with_reducible repeat (first | refine blk_drewN ?_ _ | refine blk_drew ?_ | refine blk_alloc ?_ _)); exact BK443.out⟩, ⟨by (with_reducible repeat (first | refine blk_drewN ?_ _ | refine blk_drew ?_ | refine blk_alloc ?_ _)); exact BK444.out⟩, ⟨by (with_reducible repeat (first | refine blk_drewN ?_ _ | refine blk_drew ?_ | refine blk_alloc ?_ _)); exact BK449.out⟩, ⟨by repeat (first | (with_reducible first | exact HB.out | apply below_alloc | apply pw_below_drewN | apply below_drew1 | refine below_set ?_ GE442.out | refine below_set ?_ GE443.out | refine below_set ?_ GE444.out | refine below_set ?_ GE449.out) | exact HB.out)⟩⟩
                      case rest =>
                        clear HC80
                        try clear c1
                        try clear c2
                        try clear p2
                        try clear c3
                        try clear c4
                        try clear c5
                        try clear c6
                        try clear c7
                        try clear c8
                        try clear c9
                        try clear c10
                        try clear c11
                        try clear c14
                        try clear c17
                        try clear c18
                        try clear c21
                        try clear c22
                        try clear c23
                        try clear c25
                        try clear c28
                        try clear c29
                        try clear c31
                        try clear c33
                        try clear c34
                        try clear c35
                        try clear c36
                        try clear c38
                        try clear c39
                        try clear c41
                        try clear c41b0
                        try clear c41b1
                        try clear c42
                        try clear c43
                        try clear c44
                        try clear c46
                        try clear c47
                        try clear c48
                        try clear c50
                        try clear c50b0
                        try clear c50b1
                        try clear c51
                        try clear c52
                        try clear c53
                        try clear c55
                        try clear c55b0
                        try clear c55b1
                        try clear c56
                        try clear c57
                        try clear c58
                        try clear c59
                        try clear c61
                        try clear c62
                        try clear c65
                        try clear c66
                        try clear c67
                        try clear c68
                        try clear c70
                        try clear c71
                        try clear c72
                        try clear c75
                        try clear c76
                        try clear c77
                        try clear c79
                        try clear c79b0
                        try clear c81
                        try clear c81b0
                        try clear c81b1
                        try clear c82
                        try clear c83
                        try clear c84
                        try clear c85
                        try clear c87
                        try clear c88
                        try clear c89
                        try clear c92
                        try clear c93
                        try clear c94
                        try clear c96
                        try clear c97
                        try clear hcz12_0
                        try clear hcz12_1
                        try clear hcz15_0
                        try clear hcz15_1
                        try clear hcz19_0
                        try clear hcz19_1
                        try clear hcz24_0
                        try clear hcz24_1
                        try clear hcz30_0
                        try clear hcz30_1
                        try clear hcz32_0
                        try clear hcz32_1
                        try clear hcz36_0
                        try clear hcz36_1
                        try clear hcz40_0
                        try clear hcz40_1
                        try clear hcz45_0
                        try clear hcz45_1
                        try clear hcz49_0
                        try clear hcz49_1
                        try clear hcz54_0
                        try clear hcz54_1
                        try clear hcz60_0
                        try clear hcz60_1
                        try clear hcz63_0
                        try clear hcz63_1
                        try clear hcz69_0
                        try clear hcz69_1
                        try clear hcz73_0
                        try clear hcz73_1
                        try clear hcz78_0
                        try clear hcz78_1
                        try clear hcz86_0
                        try clear hcz86_1
                        try clear hcz90_0
                        try clear hcz90_1
                        try clear hcz95_0
                        try clear hcz95_1
                        try clear hcz98_0
                        try clear hcz98_1
                        try clear hfz12_0
                        try clear hfz12_1
                        try clear hfz15_0
                        try clear hfz15_1
                        try clear hfz19_0
                        try clear hfz19_1
                        try clear hfz24_0
                        try clear hfz24_1
                        try clear hfz30_0
                        try clear hfz30_1
                        try clear hfz32_0
                        try clear hfz32_1
                        try clear hfz36_0
                        try clear hfz36_1
                        try clear hfz40_0
                        try clear hfz40_1
                        try clear hfz45_0
                        try clear hfz45_1
                        try clear hfz49_0
                        try clear hfz49_1
                        try clear hfz54_0
                        try clear hfz54_1
                        try clear hfz60_0
                        try clear hfz60_1
                        try clear hfz63_0
                        try clear hfz63_1
                        try clear hfz69_0
                        try clear hfz69_1
                        try clear hfz73_0
                        try clear hfz73_1
                        try clear hfz78_0
                        try clear hfz78_1
                        try clear hfz86_0
                        try clear hfz86_1
                        try clear hfz90_0
                        try clear hfz90_1
                        try clear hfz95_0
                        try clear hfz95_1
                        try clear hfz98_0
                        try clear hfz98_1
                        try clear p2
                        obtain ⟨kq, x92_79, rfl, HA, HJ79, HO_450000, HO_450001, BK442, BK443, BK444, BK449, HB⟩ := hcut
                        cases kq with
                        | zero => exact absurd HA.out (by simp [tollgateref03_Apply.j5])
                        | succ kj79 =>
                          have H := HA.out
                          clear HA
                          simp only [tollgateref03_Apply.j5] at H
                          by_cases c99 : x92_79 = true
                          · subst c99
                            have H1 : (if x450000_4.length < 17592186044416 then ((some (x450000_4 ++ [x12_4] : List Int)).bind fun y451 => (if x12_4 = a1_1 then (if x10_36 = true then (if x450001_4.length < 17592186044416 then (tollgateref03_Apply.l0 kj79 x9_36 x10_36 (wrap64 (x12_4 + 1)) l0_0 l0_1 a1_0 a1_1 y451 (x450001_4 ++ [x12_4])) else (none)) else (tollgateref03_Apply.l0 kj79 x9_36 x10_36 (wrap64 (x12_4 + 1)) l0_0 l0_1 a1_0 a1_1 y451 x450001_4)) else ((tollgateref03_In.f kj79 l0_1 x12_4).bind fun t457 => (if t457 = true then (if x450001_4.length < 17592186044416 then (tollgateref03_Apply.l0 kj79 x9_36 x10_36 (wrap64 (x12_4 + 1)) l0_0 l0_1 a1_0 a1_1 y451 (x450001_4 ++ [x12_4])) else (none)) else (tollgateref03_Apply.l0 kj79 x9_36 x10_36 (wrap64 (x12_4 + 1)) l0_0 l0_1 a1_0 a1_1 y451 x450001_4))))) else (none)) = some (r1, r2, r3) := by rw [if_pos rfl] at H; exact H
                            clear H
                            have H := H1
                            clear H1
                            by_cases c100 : x450000_4.length < 17592186044416
                            · rw [if_pos c100] at H
                              have LMc100 := Aside0.mk c100
                              clear c100
                              obtain ⟨y451, hy451⟩ : ∃ y_ : List Int, y_ = (x450000_4 ++ [x12_4]) := ⟨_, rfl⟩
                              replace H : (if x12_4 = a1_1 then (if x10_36 = true then (if x450001_4.length < 17592186044416 then (tollgateref03_Apply.l0 kj79 x9_36 x10_36 (wrap64 (x12_4 + 1)) l0_0 l0_1 a1_0 a1_1 y451 (x450001_4 ++ [x12_4])) else (none)) else (tollgateref03_Apply.l0 kj79 x9_36 x10_36 (wrap64 (x12_4 + 1)) l0_0 l0_1 a1_0 a1_1 y451 x450001_4)) else ((tollgateref03_In.f kj79 l0_1 x12_4).bind fun t457 => (if t457 = true then (if x450001_4.length < 17592186044416 then (tollgateref03_Apply.l0 kj79 x9_36 x10_36 (wrap64 (x12_4 + 1)) l0_0 l0_1 a1_0 a1_1 y451 (x450001_4 ++ [x12_4])) else (none)) else (tollgateref03_Apply.l0 kj79 x9_36 x10_36 (wrap64 (x12_4 + 1)) l0_0 l0_1 a1_0 a1_1 y451 x450001_4)))) = some (r1, r2, r3) := by first | (rw [hy451]; with_reducible exact H) | (have H2_ := (Option.bind_some _ _).symm.trans H; rw [hy451]; with_reducible exact H2_) | (have H2_ := (Option.bind_some _ _).symm.trans H; with_reducible exact H2_) | with_reducible exact H | (rw [hy451]; exact H) | exact H
                              have Ny451 := Aside0.mk hy451
                              clear hy451
                              by_cases c101 : x12_4 = a1_1
                              · rw [if_pos c101] at H
                                have c101b0 : (x12_4 == a1_1) = true := beq_iff_eq.mpr c101
                                have c101b1 : (x12_4 != a1_1) = false := bne_eq_false_iff_eq.mpr c101
                                clear c101
                                by_cases c102 : x10_36 = true
                                · subst c102
                                  have H1 : (if x450001_4.length < 17592186044416 then (tollgateref03_Apply.l0 kj79 x9_36 true (wrap64 (x12_4 + 1)) l0_0 l0_1 a1_0 a1_1 y451 (x450001_4 ++ [x12_4])) else (none)) = some (r1, r2, r3) := by rw [if_pos rfl] at H; exact H
                                  clear H
                                  have H := H1
                                  clear H1
                                  by_cases c103 : x450001_4.length < 17592186044416
                                  · rw [if_pos c103] at H
                                    have LMc103 := Aside0.mk c103
                                    clear c103
                                    obtain ⟨y454, hy454⟩ : ∃ y_ : List Int, y_ = (x450001_4 ++ [x12_4]) := ⟨_, rfl⟩
                                    replace H : (tollgateref03_Apply.l0 kj79 x9_36 true (wrap64 (x12_4 + 1)) l0_0 l0_1 a1_0 a1_1 y451 y454) = some (r1, r2, r3) := by first | (rw [hy454]; with_reducible exact H) | (have H2_ := (Option.bind_some _ _).symm.trans H; rw [hy454]; with_reducible exact H2_) | (have H2_ := (Option.bind_some _ _).symm.trans H; with_reducible exact H2_) | with_reducible exact H | (rw [hy454]; exact H) | exact H
                                    have Ny454 := Aside0.mk hy454
                                    clear hy454
                                    have H' := Aside0.mk H
                                    clear H
                                    have hnb104 := NB449_442.out
                                    have hnc104 := NB442_449.out
                                    have hnb105 := NB449_443.out
                                    have hnc105 := NB443_449.out
                                    have hnb106 := NB449_444.out
                                    have hnc106 := NB444_449.out
                                    have hcz107_0 : wc.cell? ⟨gb449, 0, none⟩ = some (u450000) := (blk_cell BK449.out 0).trans rfl
                                    have hcz107_1 : wc.cell? ⟨gb449, 1, none⟩ = some (u450001) := (blk_cell BK449.out 1).trans rfl
                                    have hfz107_0 := blk_frozen BK449.out 0
                                    have hfz107_1 := blk_frozen BK449.out 1
                                    go_wp2_with (first | ((with_reducible refine gate_builtin (b := .append) (xs := #[.tmp 94, .tmp 96]) rfl ?_); (try (refine gate_guard (by rfl) ?_; dsimp only)); at_builtin; refine Kd.R_append (Kd.int .i64) (w0 := w) w.heap.size rfl (.tmp 94) (.tmp 96) 22 3 (.int .i64 0) 8 rfl Try.underlying22 info3 rfl (by decide) (by omega) u450000 x450000_4 x12_4 [.int .i64 x12_4] (fun k_ => some k_ ≠ (u450001 : Value).ownBlock) (fun _ => False) rfl rfl ?aP (fun _ hk => hk.elim) ?aF ?aO ?aB ?aS ?aL ?_; (case aP => exact rfl); (case aB => exact (by repeat (first | (with_reducible first | exact HB.out | apply below_alloc | apply pw_below_drewN | apply below_drew1 | refine below_set ?_ GE442.out | refine below_set ?_ GE443.out | refine below_set ?_ GE444.out | refine below_set ?_ GE449.out) | exact HB.out))); (case aF => exact (fun k_ hk => Kd.fresh' (Kd.R_lt (by (with_reducible repeat (first | apply Kd.R_alloc | apply Kd.R_drewN | apply Kd.R_drew)); exact HO_450001.out)) k_ hk)); (case aO => exact (by (with_reducible repeat (first | apply Kd.R_alloc | apply Kd.R_drewN | apply Kd.R_drew)); exact HO_450000.out)); (case aS => exact (below_size (by repeat (first | (with_reducible first | exact HB.out | apply below_alloc | apply pw_below_drewN | apply below_drew1 | refine below_set ?_ GE442.out | refine below_set ?_ GE443.out | refine below_set ?_ GE444.out | refine below_set ?_ GE449.out) | exact HB.out)))); (case aL => have := LMc100.out; omega); intro v452 w108 ho hb hg hat; rw [← Ny451.out] at ho; have n0_ := Aside0.mk (Kd.R_after (ok := (fun _ => True)) (by (with_reducible repeat (first | apply Kd.R_alloc | apply Kd.R_drewN | apply Kd.R_drew)); exact Kd.R_mono HO_450001.out (fun _ hk => ⟨trivial, hk⟩)) hg hat); have n1_ := Aside0.mk (blk_grown (g := gb442) (o := .cells #[.slice A0_0 l0_0.length c0_0, .slice A0_1 l0_1.length c0_1] 24 (0, 0)) (by (with_reducible repeat (first | refine blk_drewN ?_ _ | refine blk_drew ?_ | refine blk_alloc ?_ _)); exact BK442.out) hg (Kd.R_ne HO_450000.out BK442.out (by decide))); have n2_ := Aside0.mk (blk_grown (g := gb443) (o := .cells #[.int .i64 a1_0, .int .i64 a1_1] 55 (0, 0)) (by (with_reducible repeat (first | refine blk_drewN ?_ _ | refine blk_drew ?_ | refine blk_alloc ?_ _)); exact BK443.out) hg (Kd.R_ne HO_450000.out BK443.out (by decide))); have n3_ := Aside0.mk (blk_grown (g := gb444) (o := .cells #[.slice none 0 0, .slice none 0 0] 24 (0, 0)) (by (with_reducible repeat (first | refine blk_drewN ?_ _ | refine blk_drew ?_ | refine blk_alloc ?_ _)); exact BK444.out) hg (Kd.R_ne HO_450000.out BK444.out (by decide))); have n4_ := Aside0.mk (blk_grown (g := gb449) (o := .cells #[u450000, u450001] 24 (0, 0)) (by (with_reducible repeat (first | refine blk_drewN ?_ _ | refine blk_drew ?_ | refine blk_alloc ?_ _)); exact BK449.out) hg (Kd.R_ne HO_450000.out BK449.out (by decide))); have n5_ := Aside0.mk (hb); have n6_ := Aside0.mk (ho); clear HO_450001; clear BK442; clear BK443; clear BK444; clear BK449; clear HB; clear HO_450000; have HO_450001 := n0_; have BK442 := n1_; have BK443 := n2_; have BK444 := n3_; have BK449 := n4_; have HB := n5_; have HO453 := n6_; clear n0_ n1_ n2_ n3_ n4_ n5_ n6_; clear ho hb hg hat; obtain ⟨Ao109, co109, eo109⟩ := Kd.R_slice HO453.out; subst eo109; have hcz110_0 : w108.cell? ⟨gb449, 0, none⟩ = some (u450000) := (blk_cell BK449.out 0).trans rfl; have hcz110_1 : w108.cell? ⟨gb449, 1, none⟩ = some (u450001) := (blk_cell BK449.out 1).trans rfl; have hfz110_0 := blk_frozen BK449.out 0; have hfz110_1 := blk_frozen BK449.out 1; have hnb111 := NB443_442.out; have hnc111 := NB442_443.out; have hnb112 := NB443_444.out; have hnc112 := NB444_443.out; have hcz113_0 : w108.cell? ⟨gb443, 0, none⟩ = some (.int .i64 a1_0) := (blk_cell BK443.out 0).trans rfl; have hcz113_1 : w108.cell? ⟨gb443, 1, none⟩ = some (.int .i64 a1_1) := (blk_cell BK443.out 1).trans rfl; have hfz113_0 := blk_frozen BK443.out 0; have hfz113_1 := blk_frozen BK443.out 1) | ((with_reducible refine gate_builtin (b := .append) (xs := #[.tmp 119, .tmp 121]) rfl ?_); (try (refine gate_guard (by rfl) ?_; dsimp only)); at_builtin; refine Kd.R_append (Kd.int .i64) (w0 := w) w.heap.size rfl (.tmp 119) (.tmp 121) 22 3 (.int .i64 0) 8 rfl Try.underlying22 info3 rfl (by decide) (by omega) u450001 x450001_4 x12_4 [.int .i64 x12_4] (fun k_ => some k_ ≠ (.slice Ao109 y451.length co109 : Value).ownBlock) (fun _ => False) rfl (by first | (go_simp; done) | (go_simp; rfl)) ?aP (fun _ hk => hk.elim) ?aF ?aO ?aB ?aS ?aL ?_; (case aP => exact rfl); (case aB => exact (by repeat (first | (with_reducible first | exact HB.out | apply below_alloc | apply pw_below_drewN | apply below_drew1 | refine below_set ?_ GE442.out | refine below_set ?_ GE443.out | refine below_set ?_ GE444.out | refine below_set ?_ GE449.out) | exact HB.out))); (case aF => exact (fun k_ hk => Kd.fresh' (Kd.R_lt (by (with_reducible repeat (first | apply Kd.R_alloc | apply Kd.R_drewN | apply Kd.R_drew)); exact (Kd.R_mono (Kd.R_far (p := ⟨gb449, 0, none⟩) (Kd.R_types HO453.out BK449.out (by decide)) (fun _ hk => hk.2) (.slice Ao109 y451.length co109)) (fun _ h_ => h_.1)))) k_ hk)); (case aO => exact (by (with_reducible repeat (first | apply Kd.R_alloc | apply Kd.R_drewN | apply Kd.R_drew)); exact Kd.R_mono (Kd.R_far (p := ⟨gb449, 0, none⟩) (Kd.R_types HO_450001.out BK449.out (by decide)) (fun _ hk => hk.2) (.slice Ao109 y451.length co109)) (fun _ hk => hk.1.2))); (case aS => exact (below_size (by repeat (first | (with_reducible first | exact HB.out | apply below_alloc | apply pw_below_drewN | apply below_drew1 | refine below_set ?_ GE442.out | refine below_set ?_ GE443.out | refine below_set ?_ GE444.out | refine below_set ?_ GE449.out) | exact HB.out)))); (case aL => have := LMc103.out; omega); intro v455 w114 ho hb hg hat; rw [← Ny454.out] at ho; have n0_ := Aside0.mk (blk_grown (g := gb442) (o := .cells #[.slice A0_0 l0_0.length c0_0, .slice A0_1 l0_1.length c0_1] 24 (0, 0)) (by (with_reducible repeat (first | refine blk_drewN ?_ _ | refine blk_drew ?_ | refine blk_alloc ?_ _)); refine blk_far ?_ NB442_449.out _; (with_reducible repeat (first | refine blk_drewN ?_ _ | refine blk_drew ?_ | refine blk_alloc ?_ _)); exact BK442.out) hg (Kd.R_ne HO_450001.out BK442.out (by decide))); have n1_ := Aside0.mk (blk_grown (g := gb443) (o := .cells #[.int .i64 a1_0, .int .i64 a1_1] 55 (0, 0)) (by (with_reducible repeat (first | refine blk_drewN ?_ _ | refine blk_drew ?_ | refine blk_alloc ?_ _)); refine blk_far ?_ NB443_449.out _; (with_reducible repeat (first | refine blk_drewN ?_ _ | refine blk_drew ?_ | refine blk_alloc ?_ _)); exact BK443.out) hg (Kd.R_ne HO_450001.out BK443.out (by decide))); have n2_ := Aside0.mk (blk_grown (g := gb444) (o := .cells #[.slice none 0 0, .slice none 0 0] 24 (0, 0)) (by (with_reducible repeat (first | refine blk_drewN ?_ _ | refine blk_drew ?_ | refine blk_alloc ?_ _)); refine blk_far ?_ NB444_449.out _; (with_reducible repeat (first | refine blk_drewN ?_ _ | refine blk_drew ?_ | refine blk_alloc ?_ _)); exact BK444.out) hg (Kd.R_ne HO_450001.out BK444.out (by decide))); have n3_ := Aside0.mk (blk_grown (g := gb449) (o := .cells #[.slice Ao109 y451.length co109, u450001] 24 (0, 0)) (by (with_reducible repeat (first | refine blk_drewN ?_ _ | refine blk_drew ?_ | refine blk_alloc ?_ _)); refine blk_put (cs := #[u450000, u450001]) ?_ 0 _ rfl; (with_reducible repeat (first | refine blk_drewN ?_ _ | refine blk_drew ?_ | refine blk_alloc ?_ _)); exact BK449.out) hg (Kd.R_ne HO_450001.out BK449.out (by decide))); have n4_ := Aside0.mk (Kd.R_after (ok := (fun _ => True)) (by (with_reducible repeat (first | apply Kd.R_alloc | apply Kd.R_drewN | apply Kd.R_drew)); exact Kd.R_mono (Kd.R_far (p := ⟨gb449, 0, none⟩) (Kd.R_types HO453.out BK449.out (by decide)) (fun _ hk => hk.2) (.slice Ao109 y451.length co109)) (fun _ hk => ⟨trivial, hk.1⟩)) hg hat); have n5_ := Aside0.mk (hb); have n6_ := Aside0.mk (ho); clear BK442; clear BK443; clear BK444; clear BK449; clear HO453; clear HB; clear HO_450001; have BK442 := n0_; have BK443 := n1_; have BK444 := n2_; have BK449 := n3_; have HO453 := n4_; have HB := n5_; have HO456 := n6_; clear n0_ n1_ n2_ n3_ n4_ n5_ n6_; clear ho hb hg hat; obtain ⟨Ao115, co115, eo115⟩ := Kd.R_slice HO456.out; subst eo115; have hcz116_0 : w114.cell? ⟨gb449, 0, none⟩ = some (.slice Ao109 y451.length co109) := (blk_cell BK449.out 0).trans rfl; have hcz116_1 : w114.cell? ⟨gb449, 1, none⟩ = some (u450001) := (blk_cell BK449.out 1).trans rfl; have hfz116_0 := blk_frozen BK449.out 0; have hfz116_1 := blk_frozen BK449.out 1))
                                    go_roundg kj79
                                    case measure => have := HJ2.out; have := HJ26.out; have := HJ36.out; have := HK4.out; have := HJ79.out; omega
                                    case rel => exact ⟨(wrap64 (x12_4 + 1)), (y451), (y454), (.slice Ao109 y451.length co109), (.slice Ao115 y454.length co115), (by first | rfl | (simp; done) | (simp [*]; done)), H', ⟨by have := HJ2.out; have := HJ26.out; have := HJ36.out; have := HK4.out; have := HJ79.out; omega⟩, ⟨by (with_reducible repeat (first | apply Kd.R_alloc | apply Kd.R_drewN | apply Kd.R_drew)); exact Kd.R_mono (Kd.R_far (p := ⟨gb449, 1, none⟩) (Kd.R_types HO453.out BK449.out (by decide)) (fun _ hk => hk.2) (.slice Ao115 y454.length co115)) (fun _ hk => hk.1.2)⟩, ⟨by (with_reducible repeat (first | apply Kd.R_alloc | apply Kd.R_drewN | apply Kd.R_drew)); exact Kd.R_mono (Kd.R_far (p := ⟨gb449, 1, none⟩) (Kd.R_types HO456.out BK449.out (by decide)) (fun _ hk => hk.2) (.slice Ao115 y454.length co115)) (fun _ hk => hk.1)⟩, ⟨by (with_reducible repeat (first | refine blk_drewN ?_ _ | refine blk_drew ?_ | refine blk_alloc ?_ _)); refine blk_far ?_ NB442_449.out _; (with_reducible repeat (first | refine blk_drewN ?_ _ | refine blk_drew ?_ | refine blk_alloc ?_ _)); exact BK442.out⟩, ⟨by (with_reducible repeat (first | refine blk_drewN ?_ _ | refine blk_drew ?_ | refine blk_alloc ?_ _)); refine blk_far ?_ NB443_449.out _; (with_reducible repeat (first | refine blk_drewN ?_ _ | refine blk_drew ?_ | refine blk_alloc ?_ _)); exact BK443.out⟩, ⟨by (with_reducible repeat (first | refine blk_drewN ?_ _ | refine blk_drew ?_ | refine blk_alloc ?_ _)); refine blk_far ?_ NB444_449.out _; (with_reducible repeat (first | refine blk_drewN ?_ _ | refine blk_drew ?_ | refine blk_alloc ?_ _)); exact BK444.out⟩, ⟨by (with_reducible repeat (first | refine blk_drewN ?_ _ | refine blk_drew ?_ | refine blk_alloc ?_ _)); refine blk_put (cs := #[.slice Ao109 y451.length co109, u450001]) ?_ 1 _ rfl; (with_reducible repeat (first | refine blk_drewN ?_ _ | refine blk_drew ?_ | refine blk_alloc ?_ _)); exact BK449.out⟩, ⟨by repeat (first | (with_reducible first | exact HB.out | apply below_alloc | apply pw_below_drewN | apply below_drew1 | refine below_set ?_ GE442.out | refine below_set ?_ GE443.out | refine below_set ?_ GE444.out | refine below_set ?_ GE449.out) | exact HB.out)⟩⟩
                                  · rw [if_neg c103] at H
                                    exact absurd H (by simp)
                                · replace c102 := Bool.eq_false_iff.mpr c102
                                  subst c102
                                  have H1 : (tollgateref03_Apply.l0 kj79 x9_36 false (wrap64 (x12_4 + 1)) l0_0 l0_1 a1_0 a1_1 y451 x450001_4) = some (r1, r2, r3) := by rw [if_neg (show ¬ (false = true) by decide)] at H; exact H
                                  clear H
                                  have H := H1
                                  clear H1
                                  have H' := Aside0.mk H
                                  clear H
                                  have hnb117 := NB449_442.out
                                  have hnc117 := NB442_449.out
                                  have hnb118 := NB449_443.out
                                  have hnc118 := NB443_449.out
                                  have hnb119 := NB449_444.out
                                  have hnc119 := NB444_449.out
                                  have hcz120_0 : wc.cell? ⟨gb449, 0, none⟩ = some (u450000) := (blk_cell BK449.out 0).trans rfl
                                  have hcz120_1 : wc.cell? ⟨gb449, 1, none⟩ = some (u450001) := (blk_cell BK449.out 1).trans rfl
                                  have hfz120_0 := blk_frozen BK449.out 0
                                  have hfz120_1 := blk_frozen BK449.out 1
                                  go_wp2_with (first | ((with_reducible refine gate_builtin (b := .append) (xs := #[.tmp 94, .tmp 96]) rfl ?_); (try (refine gate_guard (by rfl) ?_; dsimp only)); at_builtin; refine Kd.R_append (Kd.int .i64) (w0 := w) w.heap.size rfl (.tmp 94) (.tmp 96) 22 3 (.int .i64 0) 8 rfl Try.underlying22 info3 rfl (by decide) (by omega) u450000 x450000_4 x12_4 [.int .i64 x12_4] (fun k_ => some k_ ≠ (u450001 : Value).ownBlock) (fun _ => False) rfl rfl ?aP (fun _ hk => hk.elim) ?aF ?aO ?aB ?aS ?aL ?_; (case aP => exact rfl); (case aB => exact (by repeat (first | (with_reducible first | exact HB.out | apply below_alloc | apply pw_below_drewN | apply below_drew1 | refine below_set ?_ GE442.out | refine below_set ?_ GE443.out | refine below_set ?_ GE444.out | refine below_set ?_ GE449.out) | exact HB.out))); (case aF => exact (fun k_ hk => Kd.fresh' (Kd.R_lt (by (with_reducible repeat (first | apply Kd.R_alloc | apply Kd.R_drewN | apply Kd.R_drew)); exact HO_450001.out)) k_ hk)); (case aO => exact (by (with_reducible repeat (first | apply Kd.R_alloc | apply Kd.R_drewN | apply Kd.R_drew)); exact HO_450000.out)); (case aS => exact (below_size (by repeat (first | (with_reducible first | exact HB.out | apply below_alloc | apply pw_below_drewN | apply below_drew1 | refine below_set ?_ GE442.out | refine below_set ?_ GE443.out | refine below_set ?_ GE444.out | refine below_set ?_ GE449.out) | exact HB.out)))); (case aL => have := LMc100.out; omega); intro v452 w121 ho hb hg hat; rw [← Ny451.out] at ho; have n0_ := Aside0.mk (Kd.R_after (ok := (fun _ => True)) (by (with_reducible repeat (first | apply Kd.R_alloc | apply Kd.R_drewN | apply Kd.R_drew)); exact Kd.R_mono HO_450001.out (fun _ hk => ⟨trivial, hk⟩)) hg hat); have n1_ := Aside0.mk (blk_grown (g := gb442) (o := .cells #[.slice A0_0 l0_0.length c0_0, .slice A0_1 l0_1.length c0_1] 24 (0, 0)) (by (with_reducible repeat (first | refine blk_drewN ?_ _ | refine blk_drew ?_ | refine blk_alloc ?_ _)); exact BK442.out) hg (Kd.R_ne HO_450000.out BK442.out (by decide))); have n2_ := Aside0.mk (blk_grown (g := gb443) (o := .cells #[.int .i64 a1_0, .int .i64 a1_1] 55 (0, 0)) (by (with_reducible repeat (first | refine blk_drewN ?_ _ | refine blk_drew ?_ | refine blk_alloc ?_ _)); exact BK443.out) hg (Kd.R_ne HO_450000.out BK443.out (by decide))); have n3_ := Aside0.mk (blk_grown (g := gb444) (o := .cells #[.slice none 0 0, .slice none 0 0] 24 (0, 0)) (by (with_reducible repeat (first | refine blk_drewN ?_ _ | refine blk_drew ?_ | refine blk_alloc ?_ _)); exact BK444.out) hg (Kd.R_ne HO_450000.out BK444.out (by decide))); have n4_ := Aside0.mk (blk_grown (g := gb449) (o := .cells #[u450000, u450001] 24 (0, 0)) (by (with_reducible repeat (first | refine blk_drewN ?_ _ | refine blk_drew ?_ | refine blk_alloc ?_ _)); exact BK449.out) hg (Kd.R_ne HO_450000.out BK449.out (by decide))); have n5_ := Aside0.mk (hb); have n6_ := Aside0.mk (ho); clear HO_450001; clear BK442; clear BK443; clear BK444; clear BK449; clear HB; clear HO_450000; have HO_450001 := n0_; have BK442 := n1_; have BK443 := n2_; have BK444 := n3_; have BK449 := n4_; have HB := n5_; have HO453 := n6_; clear n0_ n1_ n2_ n3_ n4_ n5_ n6_; clear ho hb hg hat; obtain ⟨Ao122, co122, eo122⟩ := Kd.R_slice HO453.out; subst eo122; have hcz123_0 : w121.cell? ⟨gb449, 0, none⟩ = some (u450000) := (blk_cell BK449.out 0).trans rfl; have hcz123_1 : w121.cell? ⟨gb449, 1, none⟩ = some (u450001) := (blk_cell BK449.out 1).trans rfl; have hfz123_0 := blk_frozen BK449.out 0; have hfz123_1 := blk_frozen BK449.out 1; have hnb124 := NB443_442.out; have hnc124 := NB442_443.out; have hnb125 := NB443_444.out; have hnc125 := NB444_443.out; have hcz126_0 : w121.cell? ⟨gb443, 0, none⟩ = some (.int .i64 a1_0) := (blk_cell BK443.out 0).trans rfl; have hcz126_1 : w121.cell? ⟨gb443, 1, none⟩ = some (.int .i64 a1_1) := (blk_cell BK443.out 1).trans rfl; have hfz126_0 := blk_frozen BK443.out 0; have hfz126_1 := blk_frozen BK443.out 1))
                                  go_roundg kj79
                                  case measure => have := HJ2.out; have := HJ26.out; have := HJ36.out; have := HK4.out; have := HJ79.out; omega
                                  case rel => exact ⟨(wrap64 (x12_4 + 1)), (y451), (x450001_4), (.slice Ao122 y451.length co122), (u450001), (by first | rfl | (simp; done) | (simp [*]; done)), H', ⟨by have := HJ2.out; have := HJ26.out; have := HJ36.out; have := HK4.out; have := HJ79.out; omega⟩, ⟨by (with_reducible repeat (first | apply Kd.R_alloc | apply Kd.R_drewN | apply Kd.R_drew)); exact Kd.R_mono (Kd.R_far (p := ⟨gb449, 0, none⟩) (Kd.R_types HO453.out BK449.out (by decide)) (fun _ hk => hk.2) (.slice Ao122 y451.length co122)) (fun _ hk => hk.1)⟩, ⟨by (with_reducible repeat (first | apply Kd.R_alloc | apply Kd.R_drewN | apply Kd.R_drew)); exact Kd.R_mono (Kd.R_far (p := ⟨gb449, 0, none⟩) (Kd.R_types HO_450001.out BK449.out (by decide)) (fun _ hk => hk.2) (.slice Ao122 y451.length co122)) (fun _ hk => hk.1.2)⟩, ⟨by (with_reducible repeat (first | refine blk_drewN ?_ _ | refine blk_drew ?_ | refine blk_alloc ?_ _)); refine blk_far ?_ NB442_449.out _; (with_reducible repeat (first | refine blk_drewN ?_ _ | refine blk_drew ?_ | refine blk_alloc ?_ _)); exact BK442.out⟩, ⟨by (with_reducible repeat (first | refine blk_drewN ?_ _ | refine blk_drew ?_ | refine blk_alloc ?_ _)); refine blk_far ?_ NB443_449.out _; (with_reducible repeat (first | refine blk_drewN ?_ _ | refine blk_drew ?_ | refine blk_alloc ?_ _)); exact BK443.out⟩, ⟨by (with_reducible repeat (first | refine blk_drewN ?_ _ | refine blk_drew ?_ | refine blk_alloc ?_ _)); refine blk_far ?_ NB444_449.out _; (with_reducible repeat (first | refine blk_drewN ?_ _ | refine blk_drew ?_ | refine blk_alloc ?_ _)); exact BK444.out⟩, ⟨by (with_reducible repeat (first | refine blk_drewN ?_ _ | refine blk_drew ?_ | refine blk_alloc ?_ _)); refine blk_put (cs := #[u450000, u450001]) ?_ 0 _ rfl; (with_reducible repeat (first | refine blk_drewN ?_ _ | refine blk_drew ?_ | refine blk_alloc ?_ _)); exact BK449.out⟩, ⟨by repeat (first | (with_reducible first | exact HB.out | apply below_alloc | apply pw_below_drewN | apply below_drew1 | refine below_set ?_ GE442.out | refine below_set ?_ GE443.out | refine below_set ?_ GE444.out | refine below_set ?_ GE449.out) | exact HB.out)⟩⟩
                              · rw [if_neg c101] at H
                                have c101b0 : (x12_4 == a1_1) = false := beq_eq_false_iff_ne.mpr c101
                                have c101b1 : (x12_4 != a1_1) = true := bne_iff_ne.mpr c101
                                replace H := Option.bind_eq_some_iff.mp H
                                obtain ⟨t457, A1270, H⟩ := H
                                replace H : (if t457 = true then (if x450001_4.length < 17592186044416 then (tollgateref03_Apply.l0 kj79 x9_36 x10_36 (wrap64 (x12_4 + 1)) l0_0 l0_1 a1_0 a1_1 y451 (x450001_4 ++ [x12_4])) else (none)) else (tollgateref03_Apply.l0 kj79 x9_36 x10_36 (wrap64 (x12_4 + 1)) l0_0 l0_1 a1_0 a1_1 y451 x450001_4)) = some (r1, r2, r3) := H
                                have A127 := Aside0.mk A1270
                                clear A1270
                                by_cases c128 : t457 = true
                                · subst c128
                                  have H1 : (if x450001_4.length < 17592186044416 then (tollgateref03_Apply.l0 kj79 x9_36 x10_36 (wrap64 (x12_4 + 1)) l0_0 l0_1 a1_0 a1_1 y451 (x450001_4 ++ [x12_4])) else (none)) = some (r1, r2, r3) := by rw [if_pos rfl] at H; exact H
                                  clear H
                                  have H := H1
                                  clear H1
                                  by_cases c129 : x450001_4.length < 17592186044416
                                  · rw [if_pos c129] at H
                                    have LMc129 := Aside0.mk c129
                                    clear c129
                                    obtain ⟨y458, hy458⟩ : ∃ y_ : List Int, y_ = (x450001_4 ++ [x12_4]) := ⟨_, rfl⟩
                                    replace H : (tollgateref03_Apply.l0 kj79 x9_36 x10_36 (wrap64 (x12_4 + 1)) l0_0 l0_1 a1_0 a1_1 y451 y458) = some (r1, r2, r3) := by first | (rw [hy458]; with_reducible exact H) | (have H2_ := (Option.bind_some _ _).symm.trans H; rw [hy458]; with_reducible exact H2_) | (have H2_ := (Option.bind_some _ _).symm.trans H; with_reducible exact H2_) | with_reducible exact H | (rw [hy458]; exact H) | exact H
                                    have Ny458 := Aside0.mk hy458
                                    clear hy458
                                    have H' := Aside0.mk H
                                    clear H
                                    have hnb130 := NB449_442.out
                                    have hnc130 := NB442_449.out
                                    have hnb131 := NB449_443.out
                                    have hnc131 := NB443_449.out
                                    have hnb132 := NB449_444.out
                                    have hnc132 := NB444_449.out
                                    have hcz133_0 : wc.cell? ⟨gb449, 0, none⟩ = some (u450000) := (blk_cell BK449.out 0).trans rfl
                                    have hcz133_1 : wc.cell? ⟨gb449, 1, none⟩ = some (u450001) := (blk_cell BK449.out 1).trans rfl
                                    have hfz133_0 := blk_frozen BK449.out 0
                                    have hfz133_1 := blk_frozen BK449.out 1
                                    go_wp2_with (first | ((with_reducible refine gate_builtin (b := .append) (xs := #[.tmp 94, .tmp 96]) rfl ?_); (try (refine gate_guard (by rfl) ?_; dsimp only)); at_builtin; refine Kd.R_append (Kd.int .i64) (w0 := w) w.heap.size rfl (.tmp 94) (.tmp 96) 22 3 (.int .i64 0) 8 rfl Try.underlying22 info3 rfl (by decide) (by omega) u450000 x450000_4 x12_4 [.int .i64 x12_4] (fun k_ => some k_ ≠ (u450001 : Value).ownBlock) (fun _ => False) rfl rfl ?aP (fun _ hk => hk.elim) ?aF ?aO ?aB ?aS ?aL ?_; (case aP => exact rfl); (case aB => exact (by repeat (first | (with_reducible first | exact HB.out | apply below_alloc | apply pw_below_drewN | apply below_drew1 | refine below_set ?_ GE442.out | refine below_set ?_ GE443.out | refine below_set ?_ GE444.out | refine below_set ?_ GE449.out) | exact HB.out))); (case aF => exact (fun k_ hk => Kd.fresh' (Kd.R_lt (by (with_reducible repeat (first | apply Kd.R_alloc | apply Kd.R_drewN | apply Kd.R_drew)); exact HO_450001.out)) k_ hk)); (case aO => exact (by (with_reducible repeat (first | apply Kd.R_alloc | apply Kd.R_drewN | apply Kd.R_drew)); exact HO_450000.out)); (case aS => exact (below_size (by repeat (first | (with_reducible first | exact HB.out | apply below_alloc | apply pw_below_drewN | apply below_drew1 | refine below_set ?_ GE442.out | refine below_set ?_ GE443.out | refine below_set ?_ GE444.out | refine below_set ?_ GE449.out) | exact HB.out)))); (case aL => have := LMc100.out; omega); intro v452 w134 ho hb hg hat; rw [← Ny451.out] at ho; have n0_ := Aside0.mk (Kd.R_after (ok := (fun _ => True)) (by (with_reducible repeat (first | apply Kd.R_alloc | apply Kd.R_drewN | apply Kd.R_drew)); exact Kd.R_mono HO_450001.out (fun _ hk => ⟨trivial, hk⟩)) hg hat); have n1_ := Aside0.mk (blk_grown (g := gb442) (o := .cells #[.slice A0_0 l0_0.length c0_0, .slice A0_1 l0_1.length c0_1] 24 (0, 0)) (by (with_reducible repeat (first | refine blk_drewN ?_ _ | refine blk_drew ?_ | refine blk_alloc ?_ _)); exact BK442.out) hg (Kd.R_ne HO_450000.out BK442.out (by decide))); have n2_ := Aside0.mk (blk_grown (g := gb443) (o := .cells #[.int .i64 a1_0, .int .i64 a1_1] 55 (0, 0)) (by (with_reducible repeat (first | refine blk_drewN ?_ _ | refine blk_drew ?_ | refine blk_alloc ?_ _)); exact BK443.out) hg (Kd.R_ne HO_450000.out BK443.out (by decide))); have n3_ := Aside0.mk (blk_grown (g := gb444) (o := .cells #[.slice none 0 0, .slice none 0 0] 24 (0, 0)) (by (with_reducible repeat (first | refine blk_drewN ?_ _ | refine blk_drew ?_ | refine blk_alloc ?_ _)); exact BK444.out) hg (Kd.R_ne HO_450000.out BK444.out (by decide))); have n4_ := Aside0.mk (blk_grown (g := gb449) (o := .cells #[u450000, u450001] 24 (0, 0)) (by (with_reducible repeat (first | refine blk_drewN ?_ _ | refine blk_drew ?_ | refine blk_alloc ?_ _)); exact BK449.out) hg (Kd.R_ne HO_450000.out BK449.out (by decide))); have n5_ := Aside0.mk (hb); have n6_ := Aside0.mk (ho); clear HO_450001; clear BK442; clear BK443; clear BK444; clear BK449; clear HB; clear HO_450000; have HO_450001 := n0_; have BK442 := n1_; have BK443 := n2_; have BK444 := n3_; have BK449 := n4_; have HB := n5_; have HO453 := n6_; clear n0_ n1_ n2_ n3_ n4_ n5_ n6_; clear ho hb hg hat; obtain ⟨Ao135, co135, eo135⟩ := Kd.R_slice HO453.out; subst eo135; have hcz136_0 : w134.cell? ⟨gb449, 0, none⟩ = some (u450000) := (blk_cell BK449.out 0).trans rfl; have hcz136_1 : w134.cell? ⟨gb449, 1, none⟩ = some (u450001) := (blk_cell BK449.out 1).trans rfl; have hfz136_0 := blk_frozen BK449.out 0; have hfz136_1 := blk_frozen BK449.out 1; have hnb137 := NB443_442.out; have hnc137 := NB442_443.out; have hnb138 := NB443_444.out; have hnc138 := NB444_443.out; have hcz139_0 : w134.cell? ⟨gb443, 0, none⟩ = some (.int .i64 a1_0) := (blk_cell BK443.out 0).trans rfl; have hcz139_1 : w134.cell? ⟨gb443, 1, none⟩ = some (.int .i64 a1_1) := (blk_cell BK443.out 1).trans rfl; have hfz139_0 := blk_frozen BK443.out 0; have hfz139_1 := blk_frozen BK443.out 1; have hnb140 := NB442_444.out; have hnc140 := NB444_442.out; have hcz141_0 : w134.cell? ⟨gb442, 0, none⟩ = some (.slice A0_0 l0_0.length c0_0) := (blk_cell BK442.out 0).trans rfl; have hcz141_1 : w134.cell? ⟨gb442, 1, none⟩ = some (.slice A0_1 l0_1.length c0_1) := (blk_cell BK442.out 1).trans rfl; have hfz141_0 := blk_frozen BK442.out 0; have hfz141_1 := blk_frozen BK442.out 1) | (go_at_call 25; (with_reducible refine (tollgateref03_In.calls kj79 _ _ l0_1 x12_4 true _ ?side1 ?side2 A127.out).mono ?_); (case side1 => exact Kd.C_below HR0_1.out (by repeat (first | (with_reducible first | exact HB.out | apply below_alloc | apply pw_below_drewN | apply below_drew1 | refine below_set ?_ GE442.out | refine below_set ?_ GE443.out | refine below_set ?_ GE444.out | refine below_set ?_ GE449.out) | exact HB.out))); (case side2 => exact HC0_1.out); rintro e w' ⟨rfl, ⟨nd, rfl⟩⟩) | ((with_reducible refine gate_builtin (b := .append) (xs := #[.tmp 119, .tmp 121]) rfl ?_); (try (refine gate_guard (by rfl) ?_; dsimp only)); at_builtin; refine Kd.R_append (Kd.int .i64) (w0 := w) w.heap.size rfl (.tmp 119) (.tmp 121) 22 3 (.int .i64 0) 8 rfl Try.underlying22 info3 rfl (by decide) (by omega) u450001 x450001_4 x12_4 [.int .i64 x12_4] (fun k_ => some k_ ≠ (.slice Ao135 y451.length co135 : Value).ownBlock) (fun _ => False) rfl (by first | (go_simp; done) | (go_simp; rfl)) ?aP (fun _ hk => hk.elim) ?aF ?aO ?aB ?aS ?aL ?_; (case aP => exact rfl); (case aB => exact (by repeat (first | (with_reducible first | exact HB.out | apply below_alloc | apply pw_below_drewN | apply below_drew1 | refine below_set ?_ GE442.out | refine below_set ?_ GE443.out | refine below_set ?_ GE444.out | refine below_set ?_ GE449.out) | exact HB.out))); (case aF => exact (fun k_ hk => Kd.fresh' (Kd.R_lt (by (with_reducible repeat (first | apply Kd.R_alloc | apply Kd.R_drewN | apply Kd.R_drew)); exact (Kd.R_mono (Kd.R_far (p := ⟨gb449, 0, none⟩) (Kd.R_types HO453.out BK449.out (by decide)) (fun _ hk => hk.2) (.slice Ao135 y451.length co135)) (fun _ h_ => h_.1)))) k_ hk)); (case aO => exact (by (with_reducible repeat (first | apply Kd.R_alloc | apply Kd.R_drewN | apply Kd.R_drew)); exact Kd.R_mono (Kd.R_far (p := ⟨gb449, 0, none⟩) (Kd.R_types HO_450001.out BK449.out (by decide)) (fun _ hk => hk.2) (.slice Ao135 y451.length co135)) (fun _ hk => hk.1.2))); (case aS => exact (below_size (by repeat (first | (with_reducible first | exact HB.out | apply below_alloc | apply pw_below_drewN | apply below_drew1 | refine below_set ?_ GE442.out | refine below_set ?_ GE443.out | refine below_set ?_ GE444.out | refine below_set ?_ GE449.out) | exact HB.out)))); (case aL => have := LMc129.out; omega); intro v459 w142 ho hb hg hat; rw [← Ny458.out] at ho; have n0_ := Aside0.mk (blk_grown (g := gb442) (o := .cells #[.slice A0_0 l0_0.length c0_0, .slice A0_1 l0_1.length c0_1] 24 (0, 0)) (by (with_reducible repeat (first | refine blk_drewN ?_ _ | refine blk_drew ?_ | refine blk_alloc ?_ _)); refine blk_far ?_ NB442_449.out _; (with_reducible repeat (first | refine blk_drewN ?_ _ | refine blk_drew ?_ | refine blk_alloc ?_ _)); exact BK442.out) hg (Kd.R_ne HO_450001.out BK442.out (by decide))); have n1_ := Aside0.mk (blk_grown (g := gb443) (o := .cells #[.int .i64 a1_0, .int .i64 a1_1] 55 (0, 0)) (by (with_reducible repeat (first | refine blk_drewN ?_ _ | refine blk_drew ?_ | refine blk_alloc ?_ _)); refine blk_far ?_ NB443_449.out _; (with_reducible repeat (first | refine blk_drewN ?_ _ | refine blk_drew ?_ | refine blk_alloc ?_ _)); exact BK443.out) hg (Kd.R_ne HO_450001.out BK443.out (by decide))); have n2_ := Aside0.mk (blk_grown (g := gb444) (o := .cells #[.slice none 0 0, .slice none 0 0] 24 (0, 0)) (by (with_reducible repeat (first | refine blk_drewN ?_ _ | refine blk_drew ?_ | refine blk_alloc ?_ _)); refine blk_far ?_ NB444_449.out _; (with_reducible repeat (first | refine blk_drewN ?_ _ | refine blk_drew ?_ | refine blk_alloc ?_ _)); exact BK444.out) hg (Kd.R_ne HO_450001.out BK444.out (by decide))); have n3_ := Aside0.mk (blk_grown (g := gb449) (o := .cells #[.slice Ao135 y451.length co135, u450001] 24 (0, 0)) (by (with_reducible repeat (first | refine blk_drewN ?_ _ | refine blk_drew ?_ | refine blk_alloc ?_ _)); refine blk_put (cs := #[u450000, u450001]) ?_ 0 _ rfl; (with_reducible repeat (first | refine blk_drewN ?_ _ | refine blk_drew ?_ | refine blk_alloc ?_ _)); exact BK449.out) hg (Kd.R_ne HO_450001.out BK449.out (by decide))); have n4_ := Aside0.mk (Kd.R_after (ok := (fun _ => True)) (by (with_reducible repeat (first | apply Kd.R_alloc | apply Kd.R_drewN | apply Kd.R_drew)); exact Kd.R_mono (Kd.R_far (p := ⟨gb449, 0, none⟩) (Kd.R_types HO453.out BK449.out (by decide)) (fun _ hk => hk.2) (.slice Ao135 y451.length co135)) (fun _ hk => ⟨trivial, hk.1⟩)) hg hat); have n5_ := Aside0.mk (hb); have n6_ := Aside0.mk (ho); clear BK442; clear BK443; clear BK444; clear BK449; clear HO453; clear HB; clear HO_450001; have BK442 := n0_; have BK443 := n1_; have BK444 := n2_; have BK449 := n3_; have HO453 := n4_; have HB := n5_; have HO460 := n6_; clear n0_ n1_ n2_ n3_ n4_ n5_ n6_; clear ho hb hg hat; obtain ⟨Ao143, co143, eo143⟩ := Kd.R_slice HO460.out; subst eo143; have hcz144_0 : w142.cell? ⟨gb449, 0, none⟩ = some (.slice Ao135 y451.length co135) := (blk_cell BK449.out 0).trans rfl; have hcz144_1 : w142.cell? ⟨gb449, 1, none⟩ = some (u450001) := (blk_cell BK449.out 1).trans rfl; have hfz144_0 := blk_frozen BK449.out 0; have hfz144_1 := blk_frozen BK449.out 1))
                                    go_roundg kj79
                                    case measure => have := HJ2.out; have := HJ26.out; have := HJ36.out; have := HK4.out; have := HJ79.out; omega
                                    case rel => exact ⟨(wrap64 (x12_4 + 1)), (y451), (y458), (.slice Ao135 y451.length co135), (.slice Ao143 y458.length co143), (by first | rfl | (simp; done) | (simp [*]; done)), H', ⟨by have := HJ2.out; have := HJ26.out; have := HJ36.out; have := HK4.out; have := HJ79.out; omega⟩, ⟨by (with_reducible repeat (first | apply Kd.R_alloc | apply Kd.R_drewN | apply Kd.R_drew)); exact Kd.R_mono (Kd.R_far (p := ⟨gb449, 1, none⟩) (Kd.R_types HO453.out BK449.out (by decide)) (fun _ hk => hk.2) (.slice Ao143 y458.length co143)) (fun _ hk => hk.1.2)⟩, ⟨by (with_reducible repeat (first | apply Kd.R_alloc | apply Kd.R_drewN | apply Kd.R_drew)); exact Kd.R_mono (Kd.R_far (p := ⟨gb449, 1, none⟩) (Kd.R_types HO460.out BK449.out (by decide)) (fun _ hk => hk.2) (.slice Ao143 y458.length co143)) (fun _ hk => hk.1)⟩, ⟨by (with_reducible repeat (first | refine blk_drewN ?_ _ | refine blk_drew ?_ | refine blk_alloc ?_ _)); refine blk_far ?_ NB442_449.out _; (with_reducible repeat (first | refine blk_drewN ?_ _ | refine blk_drew ?_ | refine blk_alloc ?_ _)); exact BK442.out⟩, ⟨by (with_reducible repeat (first | refine blk_drewN ?_ _ | refine blk_drew ?_ | refine blk_alloc ?_ _)); refine blk_far ?_ NB443_449.out _; (with_reducible repeat (first | refine blk_drewN ?_ _ | refine blk_drew ?_ | refine blk_alloc ?_ _)); exact BK443.out⟩, ⟨by (with_reducible repeat (first | refine blk_drewN ?_ _ | refine blk_drew ?_ | refine blk_alloc ?_ _)); refine blk_far ?_ NB444_449.out _; (with_reducible repeat (first | refine blk_drewN ?_ _ | refine blk_drew ?_ | refine blk_alloc ?_ _)); exact BK444.out⟩, ⟨by (with_reducible repeat (first | refine blk_drewN ?_ _ | refine blk_drew ?_ | refine blk_alloc ?_ _)); refine blk_put (cs := #[.slice Ao135 y451.length co135, u450001]) ?_ 1 _ rfl; (with_reducible repeat (first | refine blk_drewN ?_ _ | refine blk_drew ?_ | refine blk_alloc ?_ _)); exact BK449.out⟩, ⟨by repeat (first | (with_reducible first | exact HB.out | apply below_alloc | apply pw_below_drewN | apply below_drew1 | refine below_set ?_ GE442.out | refine below_set ?_ GE443.out | refine below_set ?_ GE444.out | refine below_set ?_ GE449.out) | exact HB.out)⟩⟩
                                  · rw [if_neg c129] at H
                                    exact absurd H (by simp)
                                · replace c128 := Bool.eq_false_iff.mpr c128
                                  subst c128
                                  have H1 : (tollgateref03_Apply.l0 kj79 x9_36 x10_36 (wrap64 (x12_4 + 1)) l0_0 l0_1 a1_0 a1_1 y451 x450001_4) = some (r1, r2, r3) := by rw [if_neg (show ¬ (false = true) by decide)] at H; exact H
                                  clear H
                                  have H := H1
                                  clear H1
                                  have H' := Aside0.mk H
                                  clear H
                                  have hnb145 := NB449_442.out
                                  have hnc145 := NB442_449.out
                                  have hnb146 := NB449_443.out
                                  have hnc146 := NB443_449.out
                                  have hnb147 := NB449_444.out
                                  have hnc147 := NB444_449.out
                                  have hcz148_0 : wc.cell? ⟨gb449, 0, none⟩ = some (u450000) := (blk_cell BK449.out 0).trans rfl
                                  have hcz148_1 : wc.cell? ⟨gb449, 1, none⟩ = some (u450001) := (blk_cell BK449.out 1).trans rfl
                                  have hfz148_0 := blk_frozen BK449.out 0
                                  have hfz148_1 := blk_frozen BK449.out 1
                                  go_wp2_with (first | ((with_reducible refine gate_builtin (b := .append) (xs := #[.tmp 94, .tmp 96]) rfl ?_); (try (refine gate_guard (by rfl) ?_; dsimp only)); at_builtin; refine Kd.R_append (Kd.int .i64) (w0 := w) w.heap.size rfl (.tmp 94) (.tmp 96) 22 3 (.int .i64 0) 8 rfl Try.underlying22 info3 rfl (by decide) (by omega) u450000 x450000_4 x12_4 [.int .i64 x12_4] (fun k_ => some k_ ≠ (u450001 : Value).ownBlock) (fun _ => False) rfl rfl ?aP (fun _ hk => hk.elim) ?aF ?aO ?aB ?aS ?aL ?_; (case aP => exact rfl); (case aB => exact (by repeat (first | (with_reducible first | exact HB.out | apply below_alloc | apply pw_below_drewN | apply below_drew1 | refine below_set ?_ GE442.out | refine below_set ?_ GE443.out | refine below_set ?_ GE444.out | refine below_set ?_ GE449.out) | exact HB.out))); (case aF => exact (fun k_ hk => Kd.fresh' (Kd.R_lt (by (with_reducible repeat (first | apply Kd.R_alloc | apply Kd.R_drewN | apply Kd.R_drew)); exact HO_450001.out)) k_ hk)); (case aO => exact (by (with_reducible repeat (first | apply Kd.R_alloc | apply Kd.R_drewN | apply Kd.R_drew)); exact HO_450000.out)); (case aS => exact (below_size (by repeat (first | (with_reducible first | exact HB.out | apply below_alloc | apply pw_below_drewN | apply below_drew1 | refine below_set ?_ GE442.out | refine below_set ?_ GE443.out | refine below_set ?_ GE444.out | refine below_set ?_ GE449.out) | exact HB.out)))); (case aL => have := LMc100.out; omega); intro v452 w149 ho hb hg hat; rw [← Ny451.out] at ho; have n0_ := Aside0.mk (Kd.R_after (ok := (fun _ => True)) (by (with_reducible repeat (first | apply Kd.R_alloc | apply Kd.R_drewN | apply Kd.R_drew)); exact Kd.R_mono HO_450001.out (fun _ hk => ⟨trivial, hk⟩)) hg hat); have n1_ := Aside0.mk (blk_grown (g := gb442) (o := .cells #[.slice A0_0 l0_0.length c0_0, .slice A0_1 l0_1.length c0_1] 24 (0, 0)) (by (with_reducible repeat (first | refine blk_drewN ?_ _ | refine blk_drew ?_ | refine blk_alloc ?_ _)); exact BK442.out) hg (Kd.R_ne HO_450000.out BK442.out (by decide))); have n2_ := Aside0.mk (blk_grown (g := gb443) (o := .cells #[.int .i64 a1_0, .int .i64 a1_1] 55 (0, 0)) (by (with_reducible repeat (first | refine blk_drewN ?_ _ | refine blk_drew ?_ | refine blk_alloc ?_ _)); exact BK443.out) hg (Kd.R_ne HO_450000.out BK443.out (by decide))); have n3_ := Aside0.mk (blk_grown (g := gb444) (o := .cells #[.slice none 0 0, .slice none 0 0] 24 (0, 0)) (by (with_reducible repeat (first | refine blk_drewN ?_ _ | refine blk_drew ?_ | refine blk_alloc ?_ _)); exact BK444.out) hg (Kd.R_ne HO_450000.out BK444.out (by decide))); have n4_ := Aside0.mk (blk_grown (g := gb449) (o := .cells #[u450000, u450001] 24 (0, 0)) (by (with_reducible repeat (first | refine blk_drewN ?_ _ | refine blk_drew ?_ | refine blk_alloc ?_ _)); exact BK449.out) hg (Kd.R_ne HO_450000.out BK449.out (by decide))); have n5_ := Aside0.mk (hb); have n6_ := Aside0.mk (ho); clear HO_450001; clear BK442; clear BK443; clear BK444; clear BK449; clear HB; clear HO_450000; have HO_450001 := n0_; have BK442 := n1_; have BK443 := n2_; have BK444 := n3_; have BK449 := n4_; have HB := n5_; have HO453 := n6_; clear n0_ n1_ n2_ n3_ n4_ n5_ n6_; clear ho hb hg hat; obtain ⟨Ao150, co150, eo150⟩ := Kd.R_slice HO453.out; subst eo150; have hcz151_0 : w149.cell? ⟨gb449, 0, none⟩ = some (u450000) := (blk_cell BK449.out 0).trans rfl; have hcz151_1 : w149.cell? ⟨gb449, 1, none⟩ = some (u450001) := (blk_cell BK449.out 1).trans rfl; have hfz151_0 := blk_frozen BK449.out 0; have hfz151_1 := blk_frozen BK449.out 1; have hnb152 := NB443_442.out; have hnc152 := NB442_443.out; have hnb153 := NB443_444.out; have hnc153 := NB444_443.out; have hcz154_0 : w149.cell? ⟨gb443, 0, none⟩ = some (.int .i64 a1_0) := (blk_cell BK443.out 0).trans rfl; have hcz154_1 : w149.cell? ⟨gb443, 1, none⟩ = some (.int .i64 a1_1) := (blk_cell BK443.out 1).trans rfl; have hfz154_0 := blk_frozen BK443.out 0; have hfz154_1 := blk_frozen BK443.out 1; have hnb155 := NB442_444.out; have hnc155 := NB444_442.out; have hcz156_0 : w149.cell? ⟨gb442, 0, none⟩ = some (.slice A0_0 l0_0.length c0_0) := (blk_cell BK442.out 0).trans rfl; have hcz156_1 : w149.cell? ⟨gb442, 1, none⟩ = some (.slice A0_1 l0_1.length c0_1) := (blk_cell BK442.out 1).trans rfl; have hfz156_0 := blk_frozen BK442.out 0; have hfz156_1 := blk_frozen BK442.out 1) | (go_at_call 25; (with_reducible refine (tollgateref03_In.calls kj79 _ _ l0_1 x12_4 false _ ?side1 ?side2 A127.out).mono ?_); (case side1 => exact Kd.C_below HR0_1.out (by repeat (first | (with_reducible first | exact HB.out | apply below_alloc | apply pw_below_drewN | apply below_drew1 | refine below_set ?_ GE442.out | refine below_set ?_ GE443.out | refine below_set ?_ GE444.out | refine below_set ?_ GE449.out) | exact HB.out))); (case side2 => exact HC0_1.out); rintro e w' ⟨rfl, ⟨nd, rfl⟩⟩))
                                  go_roundg kj79
                                  case measure => have := HJ2.out; have := HJ26.out; have := HJ36.out; have := HK4.out; have := HJ79.out; omega
                                  case rel => exact ⟨(wrap64 (x12_4 + 1)), (y451), (x450001_4), (.slice Ao150 y451.length co150), (u450001), (by first | rfl | (simp; done) | (simp [*]; done)), H', ⟨by have := HJ2.out; have := HJ26.out; have := HJ36.out; have := HK4.out; have := HJ79.out; omega⟩, ⟨by (with_reducible repeat (first | apply Kd.R_alloc | apply Kd.R_drewN | apply Kd.R_drew)); exact Kd.R_mono (Kd.R_far (p := ⟨gb449, 0, none⟩) (Kd.R_types HO453.out BK449.out (by decide)) (fun _ hk => hk.2) (.slice Ao150 y451.length co150)) (fun _ hk => hk.1)⟩, ⟨by (with_reducible repeat (first | apply Kd.R_alloc | apply Kd.R_drewN | apply Kd.R_drew)); exact Kd.R_mono (Kd.R_far (p := ⟨gb449, 0, none⟩) (Kd.R_types HO_450001.out BK449.out (by decide)) (fun _ hk => hk.2) (.slice Ao150 y451.length co150)) (fun _ hk => hk.1.2)⟩, ⟨by (with_reducible repeat (first | refine blk_drewN ?_ _ | refine blk_drew ?_ | refine blk_alloc ?_ _)); refine blk_far ?_ NB442_449.out _; (with_reducible repeat (first | refine blk_drewN ?_ _ | refine blk_drew ?_ | refine blk_alloc ?_ _)); exact BK442.out⟩, ⟨by (with_reducible repeat (first | refine blk_drewN ?_ _ | refine blk_drew ?_ | refine blk_alloc ?_ _)); refine blk_far ?_ NB443_449.out _; (with_reducible repeat (first | refine blk_drewN ?_ _ | refine blk_drew ?_ | refine blk_alloc ?_ _)); exact BK443.out⟩, ⟨by (with_reducible repeat (first | refine blk_drewN ?_ _ | refine blk_drew ?_ | refine blk_alloc ?_ _)); refine blk_far ?_ NB444_449.out _; (with_reducible repeat (first | refine blk_drewN ?_ _ | refine blk_drew ?_ | refine blk_alloc ?_ _)); exact BK444.out⟩, ⟨by (with_reducible repeat (first | refine blk_drewN ?_ _ | refine blk_drew ?_ | refine blk_alloc ?_ _)); refine blk_put (cs := #[u450000, u450001]) ?_ 0 _ rfl; (with_reducible repeat (first | refine blk_drewN ?_ _ | refine blk_drew ?_ | refine blk_alloc ?_ _)); exact BK449.out⟩, ⟨by repeat (first | (with_reducible first | exact HB.out | apply below_alloc | apply pw_below_drewN | apply below_drew1 | refine below_set ?_ GE442.out | refine below_set ?_ GE443.out | refine below_set ?_ GE444.out | refine below_set ?_ GE449.out) | exact HB.out)⟩⟩
                            · rw [if_neg c100] at H
                              exact absurd H (by simp)
                          · replace c99 := Bool.eq_false_iff.mpr c99
                            subst c99
                            have H1 : (if x12_4 = a1_1 then (if x10_36 = true then (if x450001_4.length < 17592186044416 then (tollgateref03_Apply.l0 kj79 x9_36 x10_36 (wrap64 (x12_4 + 1)) l0_0 l0_1 a1_0 a1_1 x450000_4 (x450001_4 ++ [x12_4])) else (none)) else (tollgateref03_Apply.l0 kj79 x9_36 x10_36 (wrap64 (x12_4 + 1)) l0_0 l0_1 a1_0 a1_1 x450000_4 x450001_4)) else ((tollgateref03_In.f kj79 l0_1 x12_4).bind fun t464 => (if t464 = true then (if x450001_4.length < 17592186044416 then (tollgateref03_Apply.l0 kj79 x9_36 x10_36 (wrap64 (x12_4 + 1)) l0_0 l0_1 a1_0 a1_1 x450000_4 (x450001_4 ++ [x12_4])) else (none)) else (tollgateref03_Apply.l0 kj79 x9_36 x10_36 (wrap64 (x12_4 + 1)) l0_0 l0_1 a1_0 a1_1 x450000_4 x450001_4)))) = some (r1, r2, r3) := by rw [if_neg (show ¬ (false = true) by decide)] at H; exact H
                            clear H
                            have H := H1
                            clear H1
                            by_cases c157 : x12_4 = a1_1
                            · rw [if_pos c157] at H
                              have c157b0 : (x12_4 == a1_1) = true := beq_iff_eq.mpr c157
                              have c157b1 : (x12_4 != a1_1) = false := bne_eq_false_iff_eq.mpr c157
                              clear c157
                              by_cases c158 : x10_36 = true
                              · subst c158
                                have H1 : (if x450001_4.length < 17592186044416 then (tollgateref03_Apply.l0 kj79 x9_36 true (wrap64 (x12_4 + 1)) l0_0 l0_1 a1_0 a1_1 x450000_4 (x450001_4 ++ [x12_4])) else (none)) = some (r1, r2, r3) := by rw [if_pos rfl] at H; exact H
                                clear H
                                have H := H1
                                clear H1
                                by_cases c159 : x450001_4.length < 17592186044416
                                · rw [if_pos c159] at H
                                  have LMc159 := Aside0.mk c159
                                  clear c159
                                  obtain ⟨y461, hy461⟩ : ∃ y_ : List Int, y_ = (x450001_4 ++ [x12_4]) := ⟨_, rfl⟩
                                  replace H : (tollgateref03_Apply.l0 kj79 x9_36 true (wrap64 (x12_4 + 1)) l0_0 l0_1 a1_0 a1_1 x450000_4 y461) = some (r1, r2, r3) := by first | (rw [hy461]; with_reducible exact H) | (have H2_ := (Option.bind_some _ _).symm.trans H; rw [hy461]; with_reducible exact H2_) | (have H2_ := (Option.bind_some _ _).symm.trans H; with_reducible exact H2_) | with_reducible exact H | (rw [hy461]; exact H) | exact H
                                  have Ny461 := Aside0.mk hy461
                                  clear hy461
                                  have H' := Aside0.mk H
                                  clear H
                                  have hnb160 := NB443_442.out
                                  have hnc160 := NB442_443.out
                                  have hnb161 := NB443_444.out
                                  have hnc161 := NB444_443.out
                                  have hnb162 := NB443_449.out
                                  have hnc162 := NB449_443.out
                                  have hcz163_0 : wc.cell? ⟨gb443, 0, none⟩ = some (.int .i64 a1_0) := (blk_cell BK443.out 0).trans rfl
                                  have hcz163_1 : wc.cell? ⟨gb443, 1, none⟩ = some (.int .i64 a1_1) := (blk_cell BK443.out 1).trans rfl
                                  have hfz163_0 := blk_frozen BK443.out 0
                                  have hfz163_1 := blk_frozen BK443.out 1
                                  have hnb164 := NB449_442.out
                                  have hnc164 := NB442_449.out
                                  have hnb165 := NB449_444.out
                                  have hnc165 := NB444_449.out
                                  have hcz166_0 : wc.cell? ⟨gb449, 0, none⟩ = some (u450000) := (blk_cell BK449.out 0).trans rfl
                                  have hcz166_1 : wc.cell? ⟨gb449, 1, none⟩ = some (u450001) := (blk_cell BK449.out 1).trans rfl
                                  have hfz166_0 := blk_frozen BK449.out 0
                                  have hfz166_1 := blk_frozen BK449.out 1
                                  go_wp2_with (first | ((with_reducible refine gate_builtin (b := .append) (xs := #[.tmp 119, .tmp 121]) rfl ?_); (try (refine gate_guard (by rfl) ?_; dsimp only)); at_builtin; refine Kd.R_append (Kd.int .i64) (w0 := w) w.heap.size rfl (.tmp 119) (.tmp 121) 22 3 (.int .i64 0) 8 rfl Try.underlying22 info3 rfl (by decide) (by omega) u450001 x450001_4 x12_4 [.int .i64 x12_4] (fun k_ => some k_ ≠ (u450000 : Value).ownBlock) (fun _ => False) rfl rfl ?aP (fun _ hk => hk.elim) ?aF ?aO ?aB ?aS ?aL ?_; (case aP => exact rfl); (case aB => exact (by repeat (first | (with_reducible first | exact HB.out | apply below_alloc | apply pw_below_drewN | apply below_drew1 | refine below_set ?_ GE442.out | refine below_set ?_ GE443.out | refine below_set ?_ GE444.out | refine below_set ?_ GE449.out) | exact HB.out))); (case aF => exact (fun k_ hk => Kd.fresh' (Kd.R_lt (by (with_reducible repeat (first | apply Kd.R_alloc | apply Kd.R_drewN | apply Kd.R_drew)); exact HO_450000.out)) k_ hk)); (case aO => exact (by (with_reducible repeat (first | apply Kd.R_alloc | apply Kd.R_drewN | apply Kd.R_drew)); exact HO_450001.out)); (case aS => exact (below_size (by repeat (first | (with_reducible first | exact HB.out | apply below_alloc | apply pw_below_drewN | apply below_drew1 | refine below_set ?_ GE442.out | refine below_set ?_ GE443.out | refine below_set ?_ GE444.out | refine below_set ?_ GE449.out) | exact HB.out)))); (case aL => have := LMc159.out; omega); intro v462 w167 ho hb hg hat; rw [← Ny461.out] at ho; have n0_ := Aside0.mk (Kd.R_after (ok := (fun _ => True)) (by (with_reducible repeat (first | apply Kd.R_alloc | apply Kd.R_drewN | apply Kd.R_drew)); exact Kd.R_mono HO_450000.out (fun _ hk => ⟨trivial, hk⟩)) hg hat); have n1_ := Aside0.mk (blk_grown (g := gb442) (o := .cells #[.slice A0_0 l0_0.length c0_0, .slice A0_1 l0_1.length c0_1] 24 (0, 0)) (by (with_reducible repeat (first | refine blk_drewN ?_ _ | refine blk_drew ?_ | refine blk_alloc ?_ _)); exact BK442.out) hg (Kd.R_ne HO_450001.out BK442.out (by decide))); have n2_ := Aside0.mk (blk_grown (g := gb443) (o := .cells #[.int .i64 a1_0, .int .i64 a1_1] 55 (0, 0)) (by (with_reducible repeat (first | refine blk_drewN ?_ _ | refine blk_drew ?_ | refine blk_alloc ?_ _)); exact BK443.out) hg (Kd.R_ne HO_450001.out BK443.out (by decide))); have n3_ := Aside0.mk (blk_grown (g := gb444) (o := .cells #[.slice none 0 0, .slice none 0 0] 24 (0, 0)) (by (with_reducible repeat (first | refine blk_drewN ?_ _ | refine blk_drew ?_ | refine blk_alloc ?_ _)); exact BK444.out) hg (Kd.R_ne HO_450001.out BK444.out (by decide))); have n4_ := Aside0.mk (blk_grown (g := gb449) (o := .cells #[u450000, u450001] 24 (0, 0)) (by (with_reducible repeat (first | refine blk_drewN ?_ _ | refine blk_drew ?_ | refine blk_alloc ?_ _)); exact BK449.out) hg (Kd.R_ne HO_450001.out BK449.out (by decide))); have n5_ := Aside0.mk (hb); have n6_ := Aside0.mk (ho); clear HO_450000; clear BK442; clear BK443; clear BK444; clear BK449; clear HB; clear HO_450001; have HO_450000 := n0_; have BK442 := n1_; have BK443 := n2_; have BK444 := n3_; have BK449 := n4_; have HB := n5_; have HO463 := n6_; clear n0_ n1_ n2_ n3_ n4_ n5_ n6_; clear ho hb hg hat; obtain ⟨Ao168, co168, eo168⟩ := Kd.R_slice HO463.out; subst eo168; have hcz169_0 : w167.cell? ⟨gb449, 0, none⟩ = some (u450000) := (blk_cell BK449.out 0).trans rfl; have hcz169_1 : w167.cell? ⟨gb449, 1, none⟩ = some (u450001) := (blk_cell BK449.out 1).trans rfl; have hfz169_0 := blk_frozen BK449.out 0; have hfz169_1 := blk_frozen BK449.out 1))
                                  go_roundg kj79
                                  case measure => have := HJ2.out; have := HJ26.out; have := HJ36.out; have := HK4.out; have := HJ79.out; omega
                                  case rel => exact ⟨(wrap64 (x12_4 + 1)), (x450000_4), (y461), (u450000), (.slice Ao168 y461.length co168), (by first | rfl | (simp; done) | (simp [*]; done)), H', ⟨by have := HJ2.out; have := HJ26.out; have := HJ36.out; have := HK4.out; have := HJ79.out; omega⟩, ⟨by (with_reducible repeat (first | apply Kd.R_alloc | apply Kd.R_drewN | apply Kd.R_drew)); exact Kd.R_mono (Kd.R_far (p := ⟨gb449, 1, none⟩) (Kd.R_types HO_450000.out BK449.out (by decide)) (fun _ hk => hk.2) (.slice Ao168 y461.length co168)) (fun _ hk => hk.1.2)⟩, ⟨by (with_reducible repeat (first | apply Kd.R_alloc | apply Kd.R_drewN | apply Kd.R_drew)); exact Kd.R_mono (Kd.R_far (p := ⟨gb449, 1, none⟩) (Kd.R_types HO463.out BK449.out (by decide)) (fun _ hk => hk.2) (.slice Ao168 y461.length co168)) (fun _ hk => hk.1)⟩, ⟨by (with_reducible repeat (first | refine blk_drewN ?_ _ | refine blk_drew ?_ | refine blk_alloc ?_ _)); refine blk_far ?_ NB442_449.out _; (with_reducible repeat (first | refine blk_drewN ?_ _ | refine blk_drew ?_ | refine blk_alloc ?_ _)); exact BK442.out⟩, ⟨by (with_reducible repeat (first | refine blk_drewN ?_ _ | refine blk_drew ?_ | refine blk_alloc ?_ _)); refine blk_far ?_ NB443_449.out _; (with_reducible repeat (first | refine blk_drewN ?_ _ | refine blk_drew ?_ | refine blk_alloc ?_ _)); exact BK443.out⟩, ⟨by (with_reducible repeat (first | refine blk_drewN ?_ _ | refine blk_drew ?_ | refine blk_alloc ?_ _)); refine blk_far ?_ NB444_449.out _; (with_reducible repeat (first | refine blk_drewN ?_ _ | refine blk_drew ?_ | refine blk_alloc ?_ _)); exact BK444.out⟩, ⟨by (with_reducible repeat (first | refine blk_drewN ?_ _ | refine blk_drew ?_ | refine blk_alloc ?_ _)); refine blk_put (cs := #[u450000, u450001]) ?_ 1 _ rfl; (with_reducible repeat (first | refine blk_drewN ?_ _ | refine blk_drew ?_ | refine blk_alloc ?_ _)); exact BK449.out⟩, ⟨by repeat (first | (with_reducible first | exact HB.out | apply below_alloc | apply pw_below_drewN | apply below_drew1 | refine below_set ?_ GE442.out | refine below_set ?_ GE443.out | refine below_set ?_ GE444.out | refine below_set ?_ GE449.out) | exact HB.out)⟩⟩
                                · rw [if_neg c159] at H
                                  exact absurd H (by simp)
                              · replace c158 := Bool.eq_false_iff.mpr c158
                                subst c158
                                have H1 : (tollgateref03_Apply.l0 kj79 x9_36 false (wrap64 (x12_4 + 1)) l0_0 l0_1 a1_0 a1_1 x450000_4 x450001_4) = some (r1, r2, r3) := by rw [if_neg (show ¬ (false = true) by decide)] at H; exact H
                                clear H
                                have H := H1
                                clear H1
                                have H' := Aside0.mk H
                                clear H
                                have hnb170 := NB443_442.out
                                have hnc170 := NB442_443.out
                                have hnb171 := NB443_444.out
                                have hnc171 := NB444_443.out
                                have hnb172 := NB443_449.out
                                have hnc172 := NB449_443.out
                                have hcz173_0 : wc.cell? ⟨gb443, 0, none⟩ = some (.int .i64 a1_0) := (blk_cell BK443.out 0).trans rfl
                                have hcz173_1 : wc.cell? ⟨gb443, 1, none⟩ = some (.int .i64 a1_1) := (blk_cell BK443.out 1).trans rfl
                                have hfz173_0 := blk_frozen BK443.out 0
                                have hfz173_1 := blk_frozen BK443.out 1
                                go_wp2
                                go_roundg kj79
                                case measure => have := HJ2.out; have := HJ26.out; have := HJ36.out; have := HK4.out; have := HJ79.out; omega
                                case rel => exact ⟨(wrap64 (x12_4 + 1)), (x450000_4), (x450001_4), (u450000), (u450001), (by first | rfl | (simp; done) | (simp [*]; done)), H', ⟨by have := HJ2.out; have := HJ26.out; have := HJ36.out; have := HK4.out; have := HJ79.out; omega⟩, ⟨by (with_reducible repeat (first | apply Kd.R_alloc | apply Kd.R_drewN | apply Kd.R_drew)); exact HO_450000.out⟩, ⟨by (with_reducible repeat (first | apply Kd.R_alloc | apply Kd.R_drewN | apply Kd.R_drew)); exact HO_450001.out⟩, ⟨by (with_reducible repeat (first | refine blk_drewN ?_ _ | refine blk_drew ?_ | refine blk_alloc ?_ _)); exact BK442.out⟩, ⟨by (with_reducible repeat (first | refine blk_drewN ?_ _ | refine blk_drew ?_ | refine blk_alloc ?_ _)); exact BK443.out⟩, ⟨by (with_reducible repeat (first | refine blk_drewN ?_ _ | refine blk_drew ?_ | refine blk_alloc ?_ _)); exact BK444.out⟩, ⟨by (with_reducible repeat (first | refine blk_drewN ?_ _ | refine blk_drew ?_ | refine blk_alloc ?_ _)); exact BK449.out⟩, ⟨by repeat (first | (with_reducible first | exact HB.out | apply below_alloc | apply pw_below_drewN | apply below_drew1 | refine below_set ?_ GE442.out | refine below_set ?_ GE443.out | refine below_set ?_ GE444.out | refine below_set ?_ GE449.out) | exact HB.out)⟩⟩
                            · rw [if_neg c157] at H
                              have c157b0 : (x12_4 == a1_1) = false := beq_eq_false_iff_ne.mpr c157
                              have c157b1 : (x12_4 != a1_1) = true := bne_iff_ne.mpr c157
                              replace H := Option.bind_eq_some_iff.mp H
                              obtain ⟨t464, A1740, H⟩ := H
                              replace H : (if t464 = true then (if x450001_4.length < 17592186044416 then (tollgateref03_Apply.l0 kj79 x9_36 x10_36 (wrap64 (x12_4 + 1)) l0_0 l0_1 a1_0 a1_1 x450000_4 (x450001_4 ++ [x12_4])) else (none)) else (tollgateref03_Apply.l0 kj79 x9_36 x10_36 (wrap64 (x12_4 + 1)) l0_0 l0_1 a1_0 a1_1 x450000_4 x450001_4)) = some (r1, r2, r3) := H
                              have A174 := Aside0.mk A1740
                              clear A1740
                              by_cases c175 : t464 = true
                              · subst c175
                                have H1 : (if x450001_4.length < 17592186044416 then (tollgateref03_Apply.l0 kj79 x9_36 x10_36 (wrap64 (x12_4 + 1)) l0_0 l0_1 a1_0 a1_1 x450000_4 (x450001_4 ++ [x12_4])) else (none)) = some (r1, r2, r3) := by rw [if_pos rfl] at H; exact H
                                clear H
                                have H := H1
                                clear H1
                                by_cases c176 : x450001_4.length < 17592186044416
                                · rw [if_pos c176] at H
                                  have LMc176 := Aside0.mk c176
                                  clear c176
                                  obtain ⟨y465, hy465⟩ : ∃ y_ : List Int, y_ = (x450001_4 ++ [x12_4]) := ⟨_, rfl⟩
                                  replace H : (tollgateref03_Apply.l0 kj79 x9_36 x10_36 (wrap64 (x12_4 + 1)) l0_0 l0_1 a1_0 a1_1 x450000_4 y465) = some (r1, r2, r3) := by first | (rw [hy465]; with_reducible exact H) | (have H2_ := (Option.bind_some _ _).symm.trans H; rw [hy465]; with_reducible exact H2_) | (have H2_ := (Option.bind_some _ _).symm.trans H; with_reducible exact H2_) | with_reducible exact H | (rw [hy465]; exact H) | exact H
                                  have Ny465 := Aside0.mk hy465
                                  clear hy465
                                  have H' := Aside0.mk H
                                  clear H
                                  have hnb177 := NB443_442.out
                                  have hnc177 := NB442_443.out
                                  have hnb178 := NB443_444.out
                                  have hnc178 := NB444_443.out
                                  have hnb179 := NB443_449.out
                                  have hnc179 := NB449_443.out
                                  have hcz180_0 : wc.cell? ⟨gb443, 0, none⟩ = some (.int .i64 a1_0) := (blk_cell BK443.out 0).trans rfl
                                  have hcz180_1 : wc.cell? ⟨gb443, 1, none⟩ = some (.int .i64 a1_1) := (blk_cell BK443.out 1).trans rfl
                                  have hfz180_0 := blk_frozen BK443.out 0
                                  have hfz180_1 := blk_frozen BK443.out 1
                                  have hnb181 := NB442_444.out
                                  have hnc181 := NB444_442.out
                                  have hnb182 := NB442_449.out
                                  have hnc182 := NB449_442.out
                                  have hcz183_0 : wc.cell? ⟨gb442, 0, none⟩ = some (.slice A0_0 l0_0.length c0_0) := (blk_cell BK442.out 0).trans rfl
                                  have hcz183_1 : wc.cell? ⟨gb442, 1, none⟩ = some (.slice A0_1 l0_1.length c0_1) := (blk_cell BK442.out 1).trans rfl
                                  have hfz183_0 := blk_frozen BK442.out 0
                                  have hfz183_1 := blk_frozen BK442.out 1
                                  go_wp2_with (first | (go_at_call 25; (with_reducible refine (tollgateref03_In.calls kj79 _ _ l0_1 x12_4 true _ ?side1 ?side2 A174.out).mono ?_); (case side1 => repeat (first | exact (Kd.C_below HR0_1.out HB.out) | (with_reducible refine Kd.C_alloc ?_ _) | (with_reducible refine Kd.C_drewN ?_ _) | (with_reducible refine Kd.C_drew ?_))); (case side2 => exact HC0_1.out); rintro e w' ⟨rfl, ⟨nd, rfl⟩⟩; (try (rw [drewN_self wc]; generalize hq_ : World.drewN wc _ = wc; have n0_ : Aside0 (Kd.R (Kd.int .i64) 3 wc w.heap.size (fun k_ => some k_ ≠ (u450001 : Value).ownBlock) u450000 x450000_4) := ⟨by rw [← hq_]; exact (by (with_reducible repeat (first | apply Kd.R_alloc | apply Kd.R_drewN | apply Kd.R_drew)); exact HO_450000.out)⟩; have n1_ : Aside0 (Kd.R (Kd.int .i64) 3 wc w.heap.size (fun k_ => some k_ ≠ (u450000 : Value).ownBlock) u450001 x450001_4) := ⟨by rw [← hq_]; exact (by (with_reducible repeat (first | apply Kd.R_alloc | apply Kd.R_drewN | apply Kd.R_drew)); exact HO_450001.out)⟩; have n2_ : Aside0 (wc.heap[gb442]? = some (.cells #[.slice A0_0 l0_0.length c0_0, .slice A0_1 l0_1.length c0_1] 24 (0, 0))) := ⟨by rw [← hq_]; exact (by (with_reducible repeat (first | refine blk_drewN ?_ _ | refine blk_drew ?_ | refine blk_alloc ?_ _)); exact BK442.out)⟩; have n3_ : Aside0 (wc.heap[gb443]? = some (.cells #[.int .i64 a1_0, .int .i64 a1_1] 55 (0, 0))) := ⟨by rw [← hq_]; exact (by (with_reducible repeat (first | refine blk_drewN ?_ _ | refine blk_drew ?_ | refine blk_alloc ?_ _)); exact BK443.out)⟩; have n4_ : Aside0 (wc.heap[gb444]? = some (.cells #[.slice none 0 0, .slice none 0 0] 24 (0, 0))) := ⟨by rw [← hq_]; exact (by (with_reducible repeat (first | refine blk_drewN ?_ _ | refine blk_drew ?_ | refine blk_alloc ?_ _)); exact BK444.out)⟩; have n5_ : Aside0 (wc.heap[gb449]? = some (.cells #[u450000, u450001] 24 (0, 0))) := ⟨by rw [← hq_]; exact (by (with_reducible repeat (first | refine blk_drewN ?_ _ | refine blk_drew ?_ | refine blk_alloc ?_ _)); exact BK449.out)⟩; have n6_ : Aside0 (Below w.heap.size w wc) := ⟨by rw [← hq_]; exact (by repeat (first | (with_reducible first | exact HB.out | apply below_alloc | apply pw_below_drewN | apply below_drew1 | refine below_set ?_ GE442.out | refine below_set ?_ GE443.out | refine below_set ?_ GE444.out | refine below_set ?_ GE449.out) | exact HB.out))⟩; clear HO_450000 HO_450001 BK442 BK443 BK444 BK449 HB hq_; have HO_450000 := n0_; have HO_450001 := n1_; have BK442 := n2_; have BK443 := n3_; have BK444 := n4_; have BK449 := n5_; have HB := n6_; clear n0_ n1_ n2_ n3_ n4_ n5_ n6_)); have hnb184 := NB449_444.out; have hnc184 := NB444_449.out; have hcz185_0 : wc.cell? ⟨gb449, 0, none⟩ = some (u450000) := (blk_cell BK449.out 0).trans rfl; have hcz185_1 : wc.cell? ⟨gb449, 1, none⟩ = some (u450001) := (blk_cell BK449.out 1).trans rfl; have hfz185_0 := blk_frozen BK449.out 0; have hfz185_1 := blk_frozen BK449.out 1) | ((with_reducible refine gate_builtin (b := .append) (xs := #[.tmp 119, .tmp 121]) rfl ?_); (try (refine gate_guard (by rfl) ?_; dsimp only)); at_builtin; refine Kd.R_append (Kd.int .i64) (w0 := w) w.heap.size rfl (.tmp 119) (.tmp 121) 22 3 (.int .i64 0) 8 rfl Try.underlying22 info3 rfl (by decide) (by omega) u450001 x450001_4 x12_4 [.int .i64 x12_4] (fun k_ => some k_ ≠ (u450000 : Value).ownBlock) (fun _ => False) rfl rfl ?aP (fun _ hk => hk.elim) ?aF ?aO ?aB ?aS ?aL ?_; (case aP => exact rfl); (case aB => exact (by repeat (first | (with_reducible first | exact HB.out | apply below_alloc | apply pw_below_drewN | apply below_drew1 | refine below_set ?_ GE442.out | refine below_set ?_ GE443.out | refine below_set ?_ GE444.out | refine below_set ?_ GE449.out) | exact HB.out))); (case aF => exact (fun k_ hk => Kd.fresh' (Kd.R_lt (by (with_reducible repeat (first | apply Kd.R_alloc | apply Kd.R_drewN | apply Kd.R_drew)); exact HO_450000.out)) k_ hk)); (case aO => exact (by (with_reducible repeat (first | apply Kd.R_alloc | apply Kd.R_drewN | apply Kd.R_drew)); exact HO_450001.out)); (case aS => exact (below_size (by repeat (first | (with_reducible first | exact HB.out | apply below_alloc | apply pw_below_drewN | apply below_drew1 | refine below_set ?_ GE442.out | refine below_set ?_ GE443.out | refine below_set ?_ GE444.out | refine below_set ?_ GE449.out) | exact HB.out)))); (case aL => have := LMc176.out; omega); intro v466 w186 ho hb hg hat; rw [← Ny465.out] at ho; have n0_ := Aside0.mk (Kd.R_after (ok := (fun _ => True)) (by (with_reducible repeat (first | apply Kd.R_alloc | apply Kd.R_drewN | apply Kd.R_drew)); exact Kd.R_mono HO_450000.out (fun _ hk => ⟨trivial, hk⟩)) hg hat); have n1_ := Aside0.mk (blk_grown (g := gb442) (o := .cells #[.slice A0_0 l0_0.length c0_0, .slice A0_1 l0_1.length c0_1] 24 (0, 0)) (by (with_reducible repeat (first | refine blk_drewN ?_ _ | refine blk_drew ?_ | refine blk_alloc ?_ _)); exact BK442.out) hg (Kd.R_ne HO_450001.out BK442.out (by decide))); have n2_ := Aside0.mk (blk_grown (g := gb443) (o := .cells #[.int .i64 a1_0, .int .i64 a1_1] 55 (0, 0)) (by (with_reducible repeat (first | refine blk_drewN ?_ _ | refine blk_drew ?_ | refine blk_alloc ?_ _)); exact BK443.out) hg (Kd.R_ne HO_450001.out BK443.out (by decide))); have n3_ := Aside0.mk (blk_grown (g := gb444) (o := .cells #[.slice none 0 0, .slice none 0 0] 24 (0, 0)) (by (with_reducible repeat (first | refine blk_drewN ?_ _ | refine blk_drew ?_ | refine blk_alloc ?_ _)); exact BK444.out) hg (Kd.R_ne HO_450001.out BK444.out (by decide))); have n4_ := Aside0.mk (blk_grown (g := gb449) (o := .cells #[u450000, u450001] 24 (0, 0)) (by (with_reducible repeat (first | refine blk_drewN ?_ _ | refine blk_drew ?_ | refine blk_alloc ?_ _)); exact BK449.out) hg (Kd.R_ne HO_450001.out BK449.out (by decide))); have n5_ := Aside0.mk (hb); have n6_ := Aside0.mk (ho); clear HO_450000; clear BK442; clear BK443; clear BK444; clear BK449; clear HB; clear HO_450001; have HO_450000 := n0_; have BK442 := n1_; have BK443 := n2_; have BK444 := n3_; have BK449 := n4_; have HB := n5_; have HO467 := n6_; clear n0_ n1_ n2_ n3_ n4_ n5_ n6_; clear ho hb hg hat; obtain ⟨Ao187, co187, eo187⟩ := Kd.R_slice HO467.out; subst eo187; have hcz188_0 : w186.cell? ⟨gb449, 0, none⟩ = some (u450000) := (blk_cell BK449.out 0).trans rfl; have hcz188_1 : w186.cell? ⟨gb449, 1, none⟩ = some (u450001) := (blk_cell BK449.out 1).trans rfl; have hfz188_0 := blk_frozen BK449.out 0; have hfz188_1 := blk_frozen BK449.out 1))
                                  go_roundg kj79
                                  case measure => have := HJ2.out; have := HJ26.out; have := HJ36.out; have := HK4.out; have := HJ79.out; omega
                                  case rel => exact ⟨(wrap64 (x12_4 + 1)), (x450000_4), (y465), (u450000), (.slice Ao187 y465.length co187), (by first | rfl | (simp; done) | (simp [*]; done)), H', ⟨by have := HJ2.out; have := HJ26.out; have := HJ36.out; have := HK4.out; have := HJ79.out; omega⟩, ⟨by (with_reducible repeat (first | apply Kd.R_alloc | apply Kd.R_drewN | apply Kd.R_drew)); exact Kd.R_mono (Kd.R_far (p := ⟨gb449, 1, none⟩) (Kd.R_types HO_450000.out BK449.out (by decide)) (fun _ hk => hk.2) (.slice Ao187 y465.length co187)) (fun _ hk => hk.1.2)⟩, ⟨by (with_reducible repeat (first | apply Kd.R_alloc | apply Kd.R_drewN | apply Kd.R_drew)); exact Kd.R_mono (Kd.R_far (p := ⟨gb449, 1, none⟩) (Kd.R_types HO467.out BK449.out (by decide)) (fun _ hk => hk.2) (.slice Ao187 y465.length co187)) (fun _ hk => hk.1)⟩, ⟨by (with_reducible repeat (first | refine blk_drewN ?_ _ | refine blk_drew ?_ | refine blk_alloc ?_ _)); refine blk_far ?_ NB442_449.out _; (with_reducible repeat (first | refine blk_drewN ?_ _ | refine blk_drew ?_ | refine blk_alloc ?_ _)); exact BK442.out⟩, ⟨by (with_reducible repeat (first | refine blk_drewN ?_ _ | refine blk_drew ?_ | refine blk_alloc ?_ _)); refine blk_far ?_ NB443_449.out _; (with_reducible repeat (first | refine blk_drewN ?_ _ | refine blk_drew ?_ | refine blk_alloc ?_ _)); exact BK443.out⟩, ⟨by (with_reducible repeat (first | refine blk_drewN ?_ _ | refine blk_drew ?_ | refine blk_alloc ?_ _)); refine blk_far ?_ NB444_449.out _; (with_reducible repeat (first | refine blk_drewN ?_ _ | refine blk_drew ?_ | refine blk_alloc ?_ _)); exact BK444.out⟩, ⟨by (with_reducible repeat (first | refine blk_drewN ?_ _ | refine blk_drew ?_ | refine blk_alloc ?_ _)); refine blk_put (cs := #[u450000, u450001]) ?_ 1 _ rfl; (with_reducible repeat (first | refine blk_drewN ?_ _ | refine blk_drew ?_ | refine blk_alloc ?_ _)); exact BK449.out⟩, ⟨by repeat (first | (with_reducible first | exact HB.out | apply below_alloc | apply pw_below_drewN | apply below_drew1 | refine below_set ?_ GE442.out | refine below_set ?_ GE443.out | refine below_set ?_ GE444.out | refine below_set ?_ GE449.out) | exact HB.out)⟩⟩
                                · rw [if_neg c176] at H
                                  exact absurd H (by simp)
                              · replace c175 := Bool.eq_false_iff.mpr c175
                                subst c175
                                have H1 : (tollgateref03_Apply.l0 kj79 x9_36 x10_36 (wrap64 (x12_4 + 1)) l0_0 l0_1 a1_0 a1_1 x450000_4 x450001_4) = some (r1, r2, r3) := by rw [if_neg (show ¬ (false = true) by decide)] at H; exact H
                                clear H
                                have H := H1
                                clear H1
                                have H' := Aside0.mk H
                                clear H
                                have hnb189 := NB443_442.out
                                have hnc189 := NB442_443.out
                                have hnb190 := NB443_444.out
                                have hnc190 := NB444_443.out
                                have hnb191 := NB443_449.out
                                have hnc191 := NB449_443.out
                                have hcz192_0 : wc.cell? ⟨gb443, 0, none⟩ = some (.int .i64 a1_0) := (blk_cell BK443.out 0).trans rfl
                                have hcz192_1 : wc.cell? ⟨gb443, 1, none⟩ = some (.int .i64 a1_1) := (blk_cell BK443.out 1).trans rfl
                                have hfz192_0 := blk_frozen BK443.out 0
                                have hfz192_1 := blk_frozen BK443.out 1
                                have hnb193 := NB442_444.out
                                have hnc193 := NB444_442.out
                                have hnb194 := NB442_449.out
                                have hnc194 := NB449_442.out
                                have hcz195_0 : wc.cell? ⟨gb442, 0, none⟩ = some (.slice A0_0 l0_0.length c0_0) := (blk_cell BK442.out 0).trans rfl
                                have hcz195_1 : wc.cell? ⟨gb442, 1, none⟩ = some (.slice A0_1 l0_1.length c0_1) := (blk_cell BK442.out 1).trans rfl
                                have hfz195_0 := blk_frozen BK442.out 0
                                have hfz195_1 := blk_frozen BK442.out 1
                                go_wp2_with (first | (go_at_call 25; (with_reducible refine (tollgateref03_In.calls kj79 _ _ l0_1 x12_4 false _ ?side1 ?side2 A174.out).mono ?_); (case side1 => repeat (first | exact (Kd.C_below HR0_1.out HB.out) | (with_reducible refine Kd.C_alloc ?_ _) | (with_reducible refine Kd.C_drewN ?_ _) | (with_reducible refine Kd.C_drew ?_))); (case side2 => exact HC0_1.out); rintro e w' ⟨rfl, ⟨nd, rfl⟩⟩))
                                go_roundg kj79
                                case measure => have := HJ2.out; have := HJ26.out; have := HJ36.out; have := HK4.out; have := HJ79.out; omega
                                case rel => exact ⟨(wrap64 (x12_4 + 1)), (x450000_4), (x450001_4), (u450000), (u450001), (by first | rfl | (simp; done) | (simp [*]; done)), H', ⟨by have := HJ2.out; have := HJ26.out; have := HJ36.out; have := HK4.out; have := HJ79.out; omega⟩, ⟨by (with_reducible repeat (first | apply Kd.R_alloc | apply Kd.R_drewN | apply Kd.R_drew)); exact HO_450000.out⟩, ⟨by (with_reducible repeat (first | apply Kd.R_alloc | apply Kd.R_drewN | apply Kd.R_drew)); exact HO_450001.out⟩, ⟨by (with_reducible repeat (first | refine blk_drewN ?_ _ | refine blk_drew ?_ | refine blk_alloc ?_ _)); exact BK442.out⟩, ⟨by (with_reducible repeat (first | refine blk_drewN ?_ _ | refine blk_drew ?_ | refine blk_alloc ?_ _)); exact BK443.out⟩, ⟨by (with_reducible repeat (first | refine blk_drewN ?_ _ | refine blk_drew ?_ | refine blk_alloc ?_ _)); exact BK444.out⟩, ⟨by (with_reducible repeat (first | refine blk_drewN ?_ _ | refine blk_drew ?_ | refine blk_alloc ?_ _)); exact BK449.out⟩, ⟨by repeat (first | (with_reducible first | exact HB.out | apply below_alloc | apply pw_below_drewN | apply below_drew1 | refine below_set ?_ GE442.out | refine below_set ?_ GE443.out | refine below_set ?_ GE444.out | refine below_set ?_ GE449.out) | exact HB.out)⟩⟩
                    · rw [if_neg c79] at H
                      have c79b0 : decide (x12_4 ≤ 9) = false := decide_eq_false c79
                      clear c79
                      simp only [Option.some.injEq, Prod.mk.injEq] at H
                      obtain ⟨rfl, rfl, rfl⟩ := H
                      have hnb196 := NB449_442.out
                      have hnc196 := NB442_449.out
                      have hnb197 := NB449_443.out
                      have hnc197 := NB443_449.out
                      have hnb198 := NB449_444.out
                      have hnc198 := NB444_449.out
                      have hcz199_0 : wr.cell? ⟨gb449, 0, none⟩ = some (u450000) := (blk_cell BK449.out 0).trans rfl
                      have hcz199_1 : wr.cell? ⟨gb449, 1, none⟩ = some (u450001) := (blk_cell BK449.out 1).trans rfl
                      have hfz199_0 := blk_frozen BK449.out 0
                      have hfz199_1 := blk_frozen BK449.out 1
                      obtain ⟨Ao200, co200, eo200⟩ := Kd.R_slice HO_450000.out
                      subst eo200
                      have hnb201 := NB444_442.out
                      have hnc201 := NB442_444.out
                      have hnb202 := NB444_443.out
                      have hnc202 := NB443_444.out
                      have hcz203_0 : wr.cell? ⟨gb444, 0, none⟩ = some (.slice none 0 0) := (blk_cell BK444.out 0).trans rfl
                      have hcz203_1 : wr.cell? ⟨gb444, 1, none⟩ = some (.slice none 0 0) := (blk_cell BK444.out 1).trans rfl
                      have hfz203_0 := blk_frozen BK444.out 0
                      have hfz203_1 := blk_frozen BK444.out 1
                      obtain ⟨Ao204, co204, eo204⟩ := Kd.R_slice HO_450001.out
                      subst eo204
                      go_wp2
                      refine bodyPost_ret (results_ct rfl _ _ gb444 24 #[.slice Ao200 x450000_4.length co200, .slice Ao204 x450001_4.length co204] (0, 0) _ rfl (by (with_reducible repeat (first | refine blk_drewN ?_ _ | refine blk_drew ?_ | refine blk_alloc ?_ _)); refine blk_put (cs := #[.slice Ao200 x450000_4.length co200, .slice none 0 0]) ?_ 1 _ rfl; (with_reducible repeat (first | refine blk_drewN ?_ _ | refine blk_drew ?_ | refine blk_alloc ?_ _)); refine blk_put (cs := #[.slice none 0 0, .slice none 0 0]) ?_ 0 _ rfl; (with_reducible repeat (first | refine blk_drewN ?_ _ | refine blk_drew ?_ | refine blk_alloc ?_ _)); exact BK444.out) Try.underlying24 rfl (by kernel_rfl)) rfl ?_
                      exact ⟨_, _, by first | rfl | (simp [errW_none, errW_some] <;> rfl) | (simp [*, errW_none, errW_some] <;> rfl), by (with_reducible repeat (first | apply Kd.R_alloc | apply Kd.R_drewN | apply Kd.R_drew)); exact Kd.R_mono (Kd.R_far (p := ⟨gb444, 1, none⟩) (Kd.R_far (p := ⟨gb444, 0, none⟩) (Kd.R_types HO_450000.out BK444.out (by decide)) (fun _ hk => hk.2) (.slice Ao200 x450000_4.length co200)) (fun _ hk => hk.2) (.slice Ao204 x450001_4.length co204)) (fun _ hk => hk.1), by (with_reducible repeat (first | apply Kd.R_alloc | apply Kd.R_drewN | apply Kd.R_drew)); exact Kd.R_mono (Kd.R_far (p := ⟨gb444, 1, none⟩) (Kd.R_far (p := ⟨gb444, 0, none⟩) (Kd.R_types HO_450001.out BK444.out (by decide)) (fun _ hk => hk.2) (.slice Ao200 x450000_4.length co200)) (fun _ hk => hk.2) (.slice Ao204 x450001_4.length co204)) (fun _ hk => hk.1), by repeat (first | (with_reducible first | exact HB.out | apply below_alloc | apply pw_below_drewN | apply below_drew1 | refine below_set ?_ GE442.out | refine below_set ?_ GE443.out | refine below_set ?_ GE444.out | refine below_set ?_ GE449.out) | exact HB.out)⟩

end Go.Proofs.Ythmamgnobcnhgaa.PM
