/- The texts of this claim's seat, joined: part 13. -/
import Derived.Test.YtmmiipnmimjojaaJ12
import Derived.Defers
import Derived.Recover
import Derived.Deep.QuietTactic
import Derived.BigQuiet
import Derived.WalkSpells
import Derived.WalkLawsBesides
import Derived.StillTailTactics
section
namespace Go.Proofs.Ytmmiipnmimjojaa.PS
open Go.RowKit Go.Proofs.YtmmiipnmimjojaaW.PrintWords Go.Proofs.YtmmiipnmimjojaaW.PrintLast Go.Proofs.YtmmiipnmimjojaaW.PrintMore
attribute [local go_sem] max2_int min2_int max_two min_two max_three min_three max_four min_four   -- for this text's walks alone
set_option linter.unusedVariables false
set_option linter.unusedSimpArgs false

def wire_PutHard.j0 : Nat → Bool → Int → Int → Option (List Int × Int)
  | 0, _, _, _ => none
  | k + 1, x13, x195000, x195001 => if x13 = true then (some (([] : List Int), 2)) else ((wire_number.f k ([] : List Int) x195000).bind fun t197 => ((wire_number.f k t197 x195001).bind fun t200 => (some (t200, 0))))
def wire_PutHard.f (k : Nat) (a0_0 : Int) (a0_1 : Int) : Option (List Int × Int) := (wire_in.f a0_0 0 1099511627776).bind fun t195 => (if t195 = true then ((wire_in.f a0_1 0 9).bind fun t196 => (wire_PutHard.j0 k (!t196) a0_0 a0_1)) else (wire_PutHard.j0 k true a0_0 a0_1))
theorem wire_PutHard.mono_l : ∀ k, (∀ y0 y1 y2, LeO (wire_PutHard.j0 k y0 y1 y2) (wire_PutHard.j0 (k + 1) y0 y1 y2))
  | 0 => fun _ _ _ r h => by simp [wire_PutHard.j0] at h
  | k + 1 => by
    have ih0 := wire_PutHard.mono_l k
    · intro y0 y1 y2
      unfold wire_PutHard.j0
      repeat' first
      | (with_reducible exact ih0 _ _ _)
      | (with_reducible exact wire_number.mono _ _ _)
      | (with_reducible exact LeO.refl _)
      | (with_reducible exact LeO.none _)
      | (with_reducible refine LeO.ite ?_ ?_)
      | (with_reducible refine LeO.bind ?_ (fun _ => ?_))
      | exact ih0 _ _ _
      | exact wire_number.mono _ _ _
      | exact LeO.none _
      | refine LeO.ite ?_ ?_
      | refine LeO.bind ?_ (fun _ => ?_)
theorem wire_PutHard.mono : ∀ a0 a1 k, LeO (wire_PutHard.f k a0 a1) (wire_PutHard.f (k + 1) a0 a1) := by
  intro a0 a1 k
  have ih0 := wire_PutHard.mono_l k
  unfold wire_PutHard.f
  repeat' first
      | (with_reducible exact ih0 _ _ _)
      | (with_reducible exact wire_number.mono _ _ _)
      | (with_reducible exact LeO.refl _)
      | (with_reducible exact LeO.none _)
      | (with_reducible refine LeO.ite ?_ ?_)
      | (with_reducible refine LeO.bind ?_ (fun _ => ?_))
      | exact ih0 _ _ _
      | exact wire_number.mono _ _ _
      | exact LeO.none _
      | refine LeO.ite ?_ ?_
      | refine LeO.bind ?_ (fun _ => ?_)
def wire_PutHard.T3 : Bool × List (List Nat × List Nat) := (true, [([], []), ([0], [0]), ([1], [1]), ([], []), ([3], [3]), ([2, 4, 2], [2, 4]), ([5, 5, 0, 1, 2, 3, 4, 5], [5]), ([6, 0, 1, 2, 3, 4, 5, 6], [])])
def wire_PutHard.B3 : List Nat := [0, 1, 3, 0, 8, 31, 63, 127]
theorem wire_PutHard.tab3 : rtab .any (opsOf Try.f94 3) = wire_PutHard.T3 := by kernel_rfl
theorem wire_PutHard.bits3 : waitsOk wire_PutHard.T3.2 wire_PutHard.B3 = true := by kernel_rfl
set_option maxHeartbeats 8000000 in
set_option maxRecDepth 100000 in
theorem wire_PutHard.calls (k : Nat) (a0_0 : Int) (a0_1 : Int) (r1 : List Int) (r2 : Int) (w : World) (h : wire_PutHard.f k a0_0 a0_1 = some (r1, r2)) :
    Calls Try.prog 94 #[.agg #[.int .i64 a0_0, .int .i64 a0_1]] w fun e w' => ∃ v0_ : Value, e = .returned (.tuple #[v0_, .int .i64 r2]) ∧ Kd.R (Kd.int .u8) 5 w' w.heap.size (fun _ => True) v0_ r1 ∧ Below w.heap.size w w' := by
  have hu81 := Try.underlying81
  have HB := Aside0.mk (Below.refl w.heap.size w)
  have H : ((wire_in.f a0_0 0 1099511627776).bind fun t195 => (if t195 = true then ((wire_in.f a0_1 0 9).bind fun t196 => (wire_PutHard.j0 k (!t196) a0_0 a0_1)) else (wire_PutHard.j0 k true a0_0 a0_1))) = some (r1, r2) := h
  clear h
  have HC2 := Aside0.mk H
  clear H
  go_enter Try.func94, Try.ntmps94
  go_upto_region 1 with (first | ((with_reducible refine gate_dst (N := 1) rfl ?_); refine box_event ?hg (N := 1) ?hd (cs := #[.int .i64 a0_0, .int .i64 a0_1]) (t := 81) ?hr ?_; (case hd => rfl); (case hg => rfl); (case hr => first | (go_simp; done) | (go_simp; rfl)); intro gb194 hg w3 hbox hb; have n0_ := Aside0.mk (below_step (by repeat (first | (with_reducible first | exact HB.out | apply below_alloc | apply pw_below_drewN | apply below_drew1) | exact HB.out)) hb); have n1_ := Aside0.mk (hbox); have n2_ := Aside0.mk ((by rw [hg]; exact (below_size (by repeat (first | (with_reducible first | exact HB.out | apply below_alloc | apply pw_below_drewN | apply below_drew1) | exact HB.out))) : w.heap.size ≤ gb194)); have n3_ := Aside0.mk ((by rw [hg]; exact (below_size (by repeat (first | (with_reducible first | exact HB.out | apply below_alloc | apply pw_below_drewN | apply below_drew1) | exact HB.out))) : w.heap.size ≤ gb194)); clear HB; have HB := n0_; have BK194 := n1_; have GW194 := n2_; have GE194 := n3_; clear n0_ n1_ n2_ n3_; clear hb hbox hg))
  (try simp only [Act.put, List.setIfInBounds_toArray, List.set_cons_zero, List.set_cons_succ])
  go_cut [13] (fun v13 wc => ∃ (kq : Nat) (x13_1 : Bool), v13 = .bool x13_1 ∧ Aside0 (wire_PutHard.j0 kq x13_1 a0_0 a0_1 = some (r1, r2)) ∧ Aside0 (kq ≤ k) ∧ Aside0 (wc.heap[gb194]? = some (.cells #[.int .i64 a0_0, .int .i64 a0_1] 81 (0, 0))) ∧ Aside0 (Below w.heap.size w wc))
  case first =>
    have H := HC2.out
    clear HC2
    replace H := Option.bind_eq_some_iff.mp H
    obtain ⟨t195, A40, H⟩ := H
    replace H : (if t195 = true then ((wire_in.f a0_1 0 9).bind fun t196 => (wire_PutHard.j0 k (!t196) a0_0 a0_1)) else (wire_PutHard.j0 k true a0_0 a0_1)) = some (r1, r2) := H
    have A4 := Aside0.mk A40
    clear A40
    by_cases c5 : t195 = true
    · subst c5
      have H1 : ((wire_in.f a0_1 0 9).bind fun t196 => (wire_PutHard.j0 k (!t196) a0_0 a0_1)) = some (r1, r2) := by rw [if_pos rfl] at H; exact H
      clear H
      have H := H1
      clear H1
      replace H := Option.bind_eq_some_iff.mp H
      obtain ⟨t196, A60, H⟩ := H
      replace H : (wire_PutHard.j0 k (!t196) a0_0 a0_1) = some (r1, r2) := H
      have A6 := Aside0.mk A60
      clear A60
      have H' := Aside0.mk H
      clear H
      have hcz7_0 : w3.cell? ⟨gb194, 0, none⟩ = some (.int .i64 a0_0) := (blk_cell BK194.out 0).trans rfl
      have hcz7_1 : w3.cell? ⟨gb194, 1, none⟩ = some (.int .i64 a0_1) := (blk_cell BK194.out 1).trans rfl
      have hfz7_0 := blk_frozen BK194.out 0
      have hfz7_1 := blk_frozen BK194.out 1
      go_wp2_with (first | ((with_reducible refine gate_callee (f := 109) rfl ?_); refine goesL_ (some 6) rfl rfl Try.func109 (by kernel_rfl) rfl #[.int .i64 a0_0, .int .i64 0, .int .i64 1099511627776] rfl (by (try simp only [List.map_toArray, List.map_cons, List.map_nil]); first | done | rfl | (simp only [List.length_drop, List.length_take]; rfl)) ?_; (with_reducible refine (wire_in.calls a0_0 0 1099511627776 true _ A4.out).mono ?_); rintro e w' ⟨rfl, ⟨nd, rfl⟩⟩; refine ⟨_, rfl, ?_⟩) | (go_at_call 109; (with_reducible refine (wire_in.calls a0_1 0 9 t196 _ A6.out).mono ?_); rintro e w' ⟨rfl, ⟨nd, rfl⟩⟩))
      go_meet
      case rel => exact ⟨_, (!t196), (by first | rfl | (simp; done) | (simp [*]; done)), H', ⟨by first | omega | exact Nat.le_refl _⟩, ⟨by (with_reducible repeat (first | refine blk_drewN ?_ _ | refine blk_drew ?_ | refine blk_alloc ?_ _)); exact BK194.out⟩, ⟨by repeat (first | (with_reducible first | exact HB.out | apply below_alloc | apply pw_below_drewN | apply below_drew1 | refine below_set ?_ GE194.out) | exact HB.out)⟩⟩
    · replace c5 := Bool.eq_false_iff.mpr c5
      subst c5
      have H1 : (wire_PutHard.j0 k true a0_0 a0_1) = some (r1, r2) := by rw [if_neg (show ¬ (false = true) by decide)] at H; exact H
      clear H
      have H := H1
      clear H1
      have H' := Aside0.mk H
      clear H
      have hcz8_0 : w3.cell? ⟨gb194, 0, none⟩ = some (.int .i64 a0_0) := (blk_cell BK194.out 0).trans rfl
      have hcz8_1 : w3.cell? ⟨gb194, 1, none⟩ = some (.int .i64 a0_1) := (blk_cell BK194.out 1).trans rfl
      have hfz8_0 := blk_frozen BK194.out 0
      have hfz8_1 := blk_frozen BK194.out 1
      go_wp2_with (first | ((with_reducible refine gate_callee (f := 109) rfl ?_); refine goesL_ (some 6) rfl rfl Try.func109 (by kernel_rfl) rfl #[.int .i64 a0_0, .int .i64 0, .int .i64 1099511627776] rfl (by (try simp only [List.map_toArray, List.map_cons, List.map_nil]); first | done | rfl | (simp only [List.length_drop, List.length_take]; rfl)) ?_; (with_reducible refine (wire_in.calls a0_0 0 1099511627776 false _ A4.out).mono ?_); rintro e w' ⟨rfl, ⟨nd, rfl⟩⟩; refine ⟨_, rfl, ?_⟩))
      go_meet
      case rel => exact ⟨_, (true), (by first | rfl | (simp; done) | (simp [*]; done)), H', ⟨by first | omega | exact Nat.le_refl _⟩, ⟨by (with_reducible repeat (first | refine blk_drewN ?_ _ | refine blk_drew ?_ | refine blk_alloc ?_ _)); exact BK194.out⟩, ⟨by repeat (first | (with_reducible first | exact HB.out | apply below_alloc | apply pw_below_drewN | apply below_drew1 | refine below_set ?_ GE194.out) | exact HB.out)⟩⟩
  case rest =>
    clear HC2
    try clear c1
    try clear p2
    try clear c5
    try clear hcz7_0
    try clear hcz7_1
    try clear hcz8_0
    try clear hcz8_1
    try clear hfz7_0
    try clear hfz7_1
    try clear hfz8_0
    try clear hfz8_1
    obtain ⟨kq, x13_1, rfl, HA, HJ1, BK194, HB⟩ := hcut
    cases kq with
    | zero => exact absurd HA.out (by simp [wire_PutHard.j0])
    | succ kj1 =>
      have H := HA.out
      clear HA
      simp only [wire_PutHard.j0] at H
      by_cases c9 : x13_1 = true
      · subst c9
        have H1 : (some (([] : List Int), 2)) = some (r1, r2) := by rw [if_pos rfl] at H; exact H
        clear H
        have H := H1
        clear H1
        simp only [Option.some.injEq, Prod.mk.injEq] at H
        obtain ⟨rfl, rfl⟩ := H
        go_wp2
        go_ret2
        exact ⟨_, by first | rfl | (simp [errW_none, errW_some] <;> rfl) | (simp [*, errW_none, errW_some] <;> rfl), by first | exact Kd.R_nil _ _ _ _ _ | exact Kd.N_nil _ _ _ _ _ | exact Kd.V_nil _ _ _ _ _ | exact Kd.Q_nil _ _ _ _ _ | exact Kd.S_nil _ _ _ _ _, by repeat (first | (with_reducible first | exact HB.out | apply below_alloc | apply pw_below_drewN | apply below_drew1 | refine below_set ?_ GE194.out) | exact HB.out)⟩
      · replace c9 := Bool.eq_false_iff.mpr c9
        subst c9
        have H1 : ((wire_number.f kj1 ([] : List Int) a0_0).bind fun t197 => ((wire_number.f kj1 t197 a0_1).bind fun t200 => (some (t200, 0)))) = some (r1, r2) := by rw [if_neg (show ¬ (false = true) by decide)] at H; exact H
        clear H
        have H := H1
        clear H1
        replace H := Option.bind_eq_some_iff.mp H
        obtain ⟨t197, A100, H⟩ := H
        replace H : ((wire_number.f kj1 t197 a0_1).bind fun t200 => (some (t200, 0))) = some (r1, r2) := H
        have A10 := Aside0.mk A100
        clear A100
        replace H := Option.bind_eq_some_iff.mp H
        obtain ⟨t200, A110, H⟩ := H
        replace H : (some (t200, 0)) = some (r1, r2) := H
        have A11 := Aside0.mk A110
        clear A110
        simp only [Option.some.injEq, Prod.mk.injEq] at H
        obtain ⟨rfl, rfl⟩ := H
        try go_wp2
        have n0_ := Aside0.mk (blk_drew BK194.out)
        have n1_ := Aside0.mk (below_drew1 HB.out)
        clear BK194
        clear HB
        have BK194 := n0_
        have HB := n1_
        clear n0_ n1_
        refine start_ (n := 8) (S := fun w' => w'.cell? ⟨gb194, 0, none⟩ = some (.int .i64 a0_0) ∧ w'.cell? ⟨gb194, 1, none⟩ = some (.int .i64 a0_1)) (ds := []) #[false, false, false, false, false, false, false, false] (by kernel_rfl) rfl rfl ⟨(blk_cell BK194.out 0).trans rfl, (blk_cell BK194.out 1).trans rfl⟩ (fun hHeld => ?_); refine with_tabW wire_PutHard.tab3 wire_PutHard.bits3 (fun HT_ HW_ => ?_)
        generalize wc.drew = w12 at BK194 HB hHeld ⊢
        refine pure_ (i := 0) (N := some 14) (v := ?_) (a' := ?_) #[true, false, false, false, false, false, false, false] rfl rfl (any_of HT_.out (by kernel_rfl)) (fun _ _ _ h => h) (Or.inl ⟨by rfl, ?_⟩) ?_ ?_
        rotate_left
        · intro w'
          go_simp
          with_reducible rfl
        rotate_left
        · simp only [Act.put, List.setIfInBounds_toArray, List.set_cons_zero, List.set_cons_succ, i64_w, i32_w]
          rfl
        refine pure_ (i := 3) (N := some 17) (v := ?_) (a' := ?_) #[true, false, false, true, false, false, false, false] rfl rfl (any_of HT_.out (by kernel_rfl)) (fun _ _ _ h => h) (Or.inl ⟨by rfl, ?_⟩) ?_ ?_
        rotate_left
        · intro w'
          go_simp
          with_reducible rfl
        rotate_left
        · simp only [Act.put, List.setIfInBounds_toArray, List.set_cons_zero, List.set_cons_succ, i64_w, i32_w]
          rfl
        refine take_ (i := 1) (N := some 15) (v := ?_) (a' := ?_) #[true, true, false, true, false, false, false, false] rfl rfl (take_ofW HT_.out HW_.out (by kernel_rfl)) (fun _ _ _ h => h) (Or.inl ⟨by rfl, ?_⟩) hHeld ?_ ?_
        rotate_left
        · rintro w' ⟨s0, s1⟩
          go_simp
          with_reducible rfl
        rotate_left
        · simp only [Act.put, List.setIfInBounds_toArray, List.set_cons_zero, List.set_cons_succ, i64_w, i32_w]
          rfl
        refine take_ (i := 4) (N := some 18) (v := ?_) (a' := ?_) #[true, true, false, true, true, false, false, false] rfl rfl (take_ofW HT_.out HW_.out (by kernel_rfl)) (fun _ _ _ h => h) (Or.inl ⟨by rfl, ?_⟩) hHeld ?_ ?_
        rotate_left
        · rintro w' ⟨s0, s1⟩
          go_simp
          with_reducible rfl
        rotate_left
        · simp only [Act.put, List.setIfInBounds_toArray, List.set_cons_zero, List.set_cons_succ, i64_w, i32_w]
          rfl
        refine one_ (i := 2) (N := some 16) #[true, true, true, true, true, false, false, false] rfl rfl (one_of HT_.out (by kernel_rfl)) (by decide) (fun K hK => ?_)
        refine goes_ Try.func110 (by kernel_rfl) rfl #[.slice none 0 0, .int .i64 a0_0] (by rfl) rfl rfl (by (try simp only [List.map_toArray, List.map_cons, List.map_nil]); first | done | rfl | (simp only [List.length_drop, List.length_take]; rfl)) ?_
        refine (wire_number.calls kj1 (fun k_ => some k_ = (.slice none 0 0 : Value).ownBlock) (.slice none 0 0) ([] : List Int) a0_0 t197 w _ ?side1 ?side2 A10.out).mono ?_
        (case side1 => repeat (first | (with_reducible first | exact HB.out | apply below_alloc | apply pw_below_drewN | apply below_drew1 | refine below_set ?_ GE194.out) | exact HB.out))
        (case side2 => exact Kd.R_nil _ _ _ _ _)
        rintro e w13 ⟨v198, rfl, ho0, hb, hkp⟩
        refine ⟨_, rfl, ?_⟩
        have n0_ := Aside0.mk (blk_kept (by (with_reducible repeat (first | refine blk_drewN ?_ _ | refine blk_drew ?_ | refine blk_alloc ?_ _)); exact BK194.out) hkp (fun hs_ => (fun e_ => by simp [Value.ownBlock] at e_) hs_))
        have n1_ := Aside0.mk (Kd.R_mono (ok' := fun k_ => True) ho0 (fun k_ hk_ => trivial))
        have n2_ := Aside0.mk (hb)
        clear BK194
        clear HB
        have BK194 := n0_
        have HO199 := n1_
        have HB := n2_
        clear n0_ n1_ n2_
        (try clear hb)
        (try clear hkp)
        (try clear ho0)
        obtain ⟨Ao14, co14, eo14⟩ := Kd.R_slice HO199.out
        (first | subst eo14 | (injection eo14 with f1_ f2_ f3_; have f4_ := f1_.symm; have f5_ := f3_.symm; clear f1_ f2_ f3_; subst f4_; subst f5_))
        refine hK.out _ _ ⟨(blk_cell BK194.out 0).trans rfl, (blk_cell BK194.out 1).trans rfl⟩ (fun hHeld => ?_)
        clear hK K
        refine norm_ (a' := ?_) ?_ ?_
        rotate_left
        · show Act.put _ (some 16) _ = _
          simp only [Act.put, List.setIfInBounds_toArray, List.set_cons_zero, List.set_cons_succ, i64_w, i32_w]
          rfl
        refine one_ (i := 5) (N := some 19) #[true, true, true, true, true, true, false, false] rfl rfl (one_of HT_.out (by kernel_rfl)) (by decide) (fun K hK => ?_)
        refine goes_ Try.func110 (by kernel_rfl) rfl #[.slice Ao14 t197.length co14, .int .i64 a0_1] (by rfl) rfl rfl (by (try simp only [List.map_toArray, List.map_cons, List.map_nil]); first | done | rfl | (simp only [List.length_drop, List.length_take]; rfl)) ?_
        with_reducible refine (wire_number.calls kj1 (fun k_ => some k_ = (.slice Ao14 t197.length co14 : Value).ownBlock) (.slice Ao14 t197.length co14) t197 a0_1 t200 w _ ?side1 ?side2 A11.out).mono ?_
        (case side1 => repeat (first | (with_reducible first | exact HB.out | apply below_alloc | apply pw_below_drewN | apply below_drew1 | refine below_set ?_ GE194.out) | exact HB.out))
        (case side2 => exact Kd.R_tight rfl HO199.out)
        rintro e w15 ⟨v201, rfl, ho0, hb, hkp⟩
        refine ⟨_, rfl, ?_⟩
        have n0_ := Aside0.mk (blk_kept (by (with_reducible repeat (first | refine blk_drewN ?_ _ | refine blk_drew ?_ | refine blk_alloc ?_ _)); exact BK194.out) hkp (fun hs_ => (fun e_ => (Kd.R_ne HO199.out BK194.out (by decide)) e_) hs_))
        have n1_ := Aside0.mk (Kd.R_mono (ok' := fun k_ => True) ho0 (fun k_ hk_ => trivial))
        have n2_ := Aside0.mk (hb)
        clear BK194
        clear HB
        clear HO199
        have BK194 := n0_
        have HO202 := n1_
        have HB := n2_
        clear n0_ n1_ n2_
        (try clear hb)
        (try clear hkp)
        (try clear ho0)
        refine hK.out _ _ ⟨(blk_cell BK194.out 0).trans rfl, (blk_cell BK194.out 1).trans rfl⟩ (fun hHeld => ?_)
        clear hK K
        refine norm_ (a' := ?_) ?_ ?_
        rotate_left
        · show Act.put _ (some 19) _ = _
          simp only [Act.put, List.setIfInBounds_toArray, List.set_cons_zero, List.set_cons_succ, i64_w, i32_w]
          rfl
        refine pure_ (i := 6) (N := some 2) (v := ?_) (a' := ?_) #[true, true, true, true, true, true, true, false] rfl rfl (any_of HT_.out (by kernel_rfl)) (fun _ _ _ h => h) (Or.inl ⟨by rfl, ?_⟩) ?_ ?_
        rotate_left
        · intro w'
          go_simp
          with_reducible rfl
        rotate_left
        · simp only [Act.put, List.setIfInBounds_toArray, List.set_cons_zero, List.set_cons_succ, i64_w, i32_w]
          rfl
        refine pure_ (i := 7) (N := some 3) (v := ?_) (a' := ?_) #[true, true, true, true, true, true, true, true] rfl rfl (any_of HT_.out (by kernel_rfl)) (fun _ _ _ h => h) (Or.inl ⟨by rfl, ?_⟩) ?_ ?_
        rotate_left
        · intro w'
          go_simp
          with_reducible rfl
        rotate_left
        · simp only [Act.put, List.setIfInBounds_toArray, List.set_cons_zero, List.set_cons_succ, i64_w, i32_w]
          rfl
        refine done_ (done_of HT_.out (by kernel_rfl)) ?_
        try go_wp2
        go_ret2
        exact ⟨_, by first | rfl | (simp [errW_none, errW_some] <;> rfl) | (simp [*, errW_none, errW_some] <;> rfl), by (with_reducible repeat (first | apply Kd.R_alloc | apply Kd.R_drewN | apply Kd.R_drew)); exact HO202.out, by repeat (first | (with_reducible first | exact HB.out | apply below_alloc | apply pw_below_drewN | apply below_drew1 | refine below_set ?_ GE194.out) | exact HB.out)⟩

end Go.Proofs.Ytmmiipnmimjojaa.PS
end
section
namespace Go.Proofs.Ytmmiipnmimjojaa.PS
open Go.RowKit Go.Proofs.YtmmiipnmimjojaaW.PrintWords Go.Proofs.YtmmiipnmimjojaaW.PrintLast Go.Proofs.YtmmiipnmimjojaaW.PrintMore
set_option linter.unusedVariables false
set_option linter.unusedSimpArgs false

def entBad (k t i : Int) (d : List Int) : Prop := k < 1 ∨ 3 < k ∨ t < 1 ∨ 1099511627776 < t ∨ i < 1 ∨ 1099511627776 < i ∨ k = 1 ∧ 0 < d.length
instance (k t i : Int) (d : List Int) : Decidable (entBad k t i d) := by unfold entBad; infer_instance
def entErr (k t i : Int) (d : List Int) : Int := if entBad k t i d then 2 else if 2048 < d.length then 6 else 0
def entBytes (k t i : Int) (d : List Int) : List Int := k :: (enc t ++ enc i ++ enc d.length ++ d)
theorem in_f (a b c : Int) : wire_in.f a b c = some (decide (b ≤ a ∧ a ≤ c)) := by
  unfold wire_in.f
  by_cases h : b ≤ a
  · rw [if_pos h]; simp [h]
  · rw [if_neg (by omega)]; simp [h]
theorem entry_f (k t i : Int) (d : List Int) : wire_entry.f k t i d = some (decide (entBad k t i d), decide (2048 < d.length)) := by
  unfold wire_entry.f
  have e1 : decide ((d.length : Int) > 2048) = decide (2048 < d.length) := by rw [decide_eq_decide]; omega
  have e2 : (!((d.length : Int) == 0)) = decide (0 < d.length) := by
    rcases Nat.eq_zero_or_pos d.length with h | h
    · simp [h]
    · have h1 : ((d.length : Int) == 0) = false := beq_eq_false_iff_ne.mpr (by omega)
      rw [h1, decide_eq_true h]; rfl
  simp only [in_f, Option.bind_some, e1, e2, decide_eq_true_eq, Bool.not_true, Bool.not_false]
  split
  · split
    · split
      · split
        · exact congrArg (fun b => some (b, _)) (decide_eq_decide.2 (by unfold entBad; omega))
        · exact congrArg (fun b => some (b, _)) (decide_eq_false (by unfold entBad; omega)).symm
      · exact congrArg (fun b => some (b, _)) (decide_eq_true (by unfold entBad; omega)).symm
    · exact congrArg (fun b => some (b, _)) (decide_eq_true (by unfold entBad; omega)).symm
  · exact congrArg (fun b => some (b, _)) (decide_eq_true (by unfold entBad; omega)).symm
theorem encd {d : List Int} {kk : Nat} {b : List Int} (hk : 9 < kk) (hd : d.length ≤ 140737488355328) (hb : b.length + 9 < 140737488355328) : wire_number.f kk b d.length = some (b ++ enc d.length) := number_f (by omega) (by omega) hk hb
theorem lay_f {kk : Nat} {b : List Int} {k t i : Int} {d : List Int} (hk : 9 < kk) (hb : b.length ≤ 1000000) (h : ¬ entBad k t i d) (hd : d.length ≤ 2048) : wire_lay.f kk b k t i d = some (b ++ entBytes k t i d) := by
  unfold entBad at h
  have ht := enc_len (n := t) (by omega) (by omega)
  have hi := enc_len (n := i) (by omega) (by omega)
  have hl := enc_len (n := (d.length : Int)) (by omega) (by omega)
  unfold wire_lay.f
  rw [if_pos (by omega), show k % 256 = k by omega, number_f (by omega) (by omega) hk (by simp; omega)]
  simp only [Option.bind_some]
  rw [number_f (by omega) (by omega) hk (by simp; omega)]
  simp only [Option.bind_some]
  rw [encd hk (by omega) (by simp; omega)]
  simp only [Option.bind_some]
  rw [if_pos (by simp; omega)]
  simp [entBytes]
theorem PutEntry_f {kk : Nat} (hk : 9 < kk) (k t i : Int) (d : List Int) : wire_PutEntry.f kk k t i d = some (if entErr k t i d = 0 then (entBytes k t i d, 0) else ([], entErr k t i d)) := by
  unfold wire_PutEntry.f entErr
  rw [entry_f]
  simp only [Option.bind_some, decide_eq_true_eq]
  by_cases h : entBad k t i d
  · simp [h]
  · by_cases h2 : 2048 < d.length
    · simp [h, h2]
    · rw [lay_f hk (by simp) h (by omega)]
      simp [h, h2]
def hardErr (t v : Int) : Int := if t < 0 ∨ 1099511627776 < t ∨ v < 0 ∨ 9 < v then 2 else 0
theorem PutHard_f {kk : Nat} (hk : 10 < kk) (t v : Int) : wire_PutHard.f kk t v = some (if hardErr t v = 0 then (enc t ++ enc v, 0) else ([], 2)) := by
  obtain ⟨kk, rfl⟩ : ∃ j, kk = j + 1 := ⟨kk - 1, by omega⟩
  unfold wire_PutHard.f
  simp only [in_f, Option.bind_some, decide_eq_true_eq, wire_PutHard.j0, if_true]
  by_cases h1 : 0 ≤ t ∧ t ≤ 1099511627776
  · rw [if_pos h1]
    by_cases h2 : 0 ≤ v ∧ v ≤ 9
    · have ht := enc_len (n := t) (by omega) (by omega)
      have he : hardErr t v = 0 := if_neg (by omega)
      rw [if_neg (by simp [h2]), he, number_f (by omega) (by omega) (by omega) (by simp)]
      simp only [Option.bind_some, List.nil_append]
      rw [number_f (by omega) (by omega) (by omega) (by omega)]
      simp
    · have he : hardErr t v = 2 := if_pos (by omega)
      rw [if_pos (by simp; omega), he]; simp
  · have he : hardErr t v = 2 := if_pos (by omega)
    rw [if_neg h1, he]; simp
end Go.Proofs.Ytmmiipnmimjojaa.PS
end
section
namespace Go.Proofs.Ytmmiipnmimjojaa.PS
open Go.RowKit Go.Proofs.YtmmiipnmimjojaaW.PrintWords Go.Proofs.YtmmiipnmimjojaaW.PrintLast Go.Proofs.YtmmiipnmimjojaaW.PrintMore
set_option linter.unusedVariables false
set_option linter.unusedSimpArgs false
theorem Number_calls {W : World} {n : Int} {X : List Int} (h0 : 0 ≤ n) (h1 : n ≤ 1099511627776) (hX : enc n = X) :
    Calls Try.prog 134 #[.int .i64 n] W fun e w' => ∃ v, e = .returned (.tuple #[v, .int .i64 0]) ∧ k8.R 5 w' W.heap.size (fun _ => True) v X ∧ Below W.heap.size W w' :=
  wire_Number.calls 10 n X 0 W (by rw [Number_f (by omega), if_neg (by omega), hX])
set_option maxHeartbeats 2000000 in
set_option maxRecDepth 100000 in
theorem mark_calls {W : World} {i t : Int} (hi : 0 ≤ i ∧ i ≤ 1099511627776) (ht : 0 ≤ t ∧ t ≤ 1099511627776) :
    Calls Try.prog 114 #[.agg #[.int .i64 i, .int .i64 t]] W fun e w' => ∃ v1, e = .returned v1 ∧ k8.R 5 w' W.heap.size (fun _ => True) v1 (frameB (1 :: (enc i ++ enc t))) ∧ Below W.heap.size W w' := by
  have HI := Aside0.mk hi
  have HT := Aside0.mk ht
  have l1 := enc_len hi.1 hi.2
  have l2 := enc_len ht.1 ht.2
  obtain ⟨X1, hX1⟩ : ∃ X, enc i = X := ⟨_, rfl⟩
  obtain ⟨X2, hX2⟩ : ∃ X, enc t = X := ⟨_, rfl⟩
  rw [hX1] at l1 ⊢
  rw [hX2] at l2 ⊢
  have HL := Aside0.mk (And.intro l1 l2)
  have HX1 := Aside0.mk hX1
  have HX2 := Aside0.mk hX2
  clear hi ht l1 l2 hX1 hX2
  go_enter Try.func114, Try.ntmps114
  go_wp2_with fail
  refine (Number_calls HI.out.1 HI.out.2 HX1.out).mono ?_
  rintro e w1 ⟨v1, rfl, hR1, hB1⟩
  have hb1 := (hB1.block W.heap.size (by show W.heap.size < (W.heap.push _).size; rw [Array.size_push]; omega)).trans (blk_new W (.cells #[.int .i64 i, .int .i64 t] 83))
  have HBK := Aside0.mk hb1
  have HB1 := Aside0.mk (below_step (below_alloc (Below.refl W.heap.size W) _) hB1)
  have HR1 := Aside0.mk (Kd.R_lower hR1 (below_alloc (Below.refl W.heap.size W) _).size)
  have q1 : w1.cell? ⟨W.heap.size, 1, none⟩ = some (.int .i64 t) := blk_cell hb1 1
  clear hB1 hR1 hb1
  obtain ⟨A1, k1, rfl⟩ := Kd.R_slice HR1.out
  go_wp2_with fail
  refine (Number_calls HT.out.1 HT.out.2 HX2.out).mono ?_
  rintro e w2 ⟨v2, rfl, hR2, hB2⟩
  obtain ⟨A2, k2, rfl⟩ := Kd.R_slice hR2
  have HB2 := Aside0.mk (below_step HB1.out hB2)
  have HR1' := Aside0.mk (Kd.R_below HR1.out hB2)
  have HC2 := Aside0.mk (Kd.R_reads' hR2).2.2
  have hcap := (Kd.R_reads' hR2).2.1
  clear hR2 hB2 q1
  clear hcap
  go_wp2_with (first
    | ((with_reducible refine gate_builtin (b := .append) (xs := #[.tmp 19, .tmp 20]) rfl ?_); at_builtin; refine Kd.R_append_rows k8 (w0 := W) W.heap.size (by rfl) (.tmp 19) (.tmp 20) 22 5 (.int .u8 0) 1 (by rfl) Try.underlying22 info5 (by rfl) (by decide) (by decide) _ X1 X2 A2 X2.length k2 (fun _ => True) (fun _ => False) (by rfl) (by rfl) HR1'.out HC2.out (fun _ _ h => h) (fun _ h => h.elim) (fun _ _ => trivial) HB2.out HB2.out.size (by have := HL.out; omega) ?_; intro v3 w3 hR hb3 hg hat; obtain ⟨X, hX⟩ : ∃ X, X1 ++ X2 = X := ⟨_, rfl⟩; rw [hX] at hR; have HX := Aside0.mk hX; clear hX; obtain ⟨A3, k3, rfl⟩ := Kd.R_slice hR; have HO1 := Aside0.mk hR; have HB3 := Aside0.mk hb3; clear hR hb3 hg hat)
    | fail)
  have hxc := Kd.R_reads' HO1.out
  have hXl : X.length ≤ 65535 := by have h := HX.out; have h2 := HL.out; rw [← h]; simp only [List.length_append]; omega
  refine (record_calls 1 hxc.2.2 hxc.2.1 hXl).mono ?_
  rintro e w4 ⟨v4, rfl, hR4, hB4⟩
  have HR4 := Aside0.mk hR4
  have HB4 := Aside0.mk hB4
  clear hR4 hB4 hxc hXl
  go_wp2_with fail
  go_ret
  refine ⟨_, rfl, ?_, below_step HB3.out HB4.out⟩
  have := Kd.R_lower HR4.out HB3.out.size
  rw [← HX.out] at this
  exact this
end Go.Proofs.Ytmmiipnmimjojaa.PS
end
section
namespace Go.Proofs.Ytmmiipnmimjojaa.PS
open Go.RowKit Go.Proofs.YtmmiipnmimjojaaW.PrintWords Go.Proofs.YtmmiipnmimjojaaW.PrintLast
theorem okBytes_of {l : List Int} (h : ∀ x ∈ l, 0 ≤ x ∧ x < 256) : okBytes l = true := by
  refine List.all_eq_true.2 (fun x hx => ?_)
  have := h x hx
  simp; omega
theorem okBytes_mem {l : List Int} (h : okBytes l = true) : ∀ x ∈ l, 0 ≤ x ∧ x < 256 := fun x hx => by
  have := List.all_eq_true.1 h x hx
  simp at this; omega
theorem okBytes_append {a b : List Int} (ha : okBytes a = true) (hb : okBytes b = true) : okBytes (a ++ b) = true := by
  unfold okBytes at *; rw [List.all_append, ha, hb]; rfl
end Go.Proofs.Ytmmiipnmimjojaa.PS
end
section
namespace Go.Proofs.Ytmmiipnmimjojaa.PS
open Go.RowKit Go.Proofs.YtmmiipnmimjojaaW.PrintWords Go.Proofs.YtmmiipnmimjojaaW.PrintLast Go.Proofs.YtmmiipnmimjojaaW.PrintMore
set_option linter.unusedVariables false
set_option linter.unusedSimpArgs false

/-- The reader's block. -/
def IsRd (w : World) (g : Nat) (A : Option Addr) (n c : Nat) (at_ : Int) : Prop := w.heap[g]? = some (.cells #[.slice A n c, .int .i64 at_] 184 (0, 0)) ∧ 0 ≤ at_ ∧ at_ ≤ n
def fault (x : Int) : List PanicEntry := [{ v := .iface 186 (.int .i64 x), recovered := false }]
/-- What a reader's call came to: a value and the place behind it, or a fault. -/
def RdPost (w0 w : World) (g : Nat) (A : Option Addr) (n c : Nat) (r : Except Int (Value × Int)) (e : Ending) (w' : World) : Prop :=
  Below w0.heap.size w0 w' ∧ KeepBut w w' g none ∧ match r with
    | .ok (v, at_) => e = .returned v ∧ IsRd w' g A n c at_
    | .error x => e = .panicked (fault x)

theorem IsRd.cell0 {w : World} {g : Nat} {A : Option Addr} {n c : Nat} {at_ : Int} (h : IsRd w g A n c at_) : w.cell? ⟨g, 0, none⟩ = some (.slice A n c) := by
  unfold IsRd at h; simp [World.cell?, h.1]
theorem IsRd.cell1 {w : World} {g : Nat} {A : Option Addr} {n c : Nat} {at_ : Int} (h : IsRd w g A n c at_) : w.cell? ⟨g, 1, none⟩ = some (.int .i64 at_) := by
  unfold IsRd at h; simp [World.cell?, h.1]
theorem IsRd.frozen {w : World} {g : Nat} {A : Option Addr} {n c : Nat} {at_ : Int} (h : IsRd w g A n c at_) (j : Nat) : w.frozen? ⟨g, j, none⟩ = false := by
  unfold IsRd at h; simp [World.frozen?, h.1]
theorem IsRd.set_ {w : World} {g : Nat} {A : Option Addr} {n c : Nat} {at_ : Int} (h : IsRd w g A n c at_) (b : Int) (h0 : 0 ≤ b) (h1 : b ≤ n) : IsRd (w.setCell ⟨g, 1, none⟩ (.int .i64 b)) g A n c b := by
  unfold IsRd at h ⊢; refine ⟨?_, h0, h1⟩; simp [World.setCell, Array.getElem?_modify, h.1]
theorem IsRd.drewN {w : World} {g : Nat} {A : Option Addr} {n c : Nat} {at_ : Int} (h : IsRd w g A n c at_) (k : Nat) : IsRd (w.drewN k) g A n c at_ := h

theorem take_same (A0 : Option Addr) (c0 : Nat) (l0 : List Int) (a1 : Int) (r1 : Int) (r2 : Int) (r3 : Int) (w : World) (hr0 : Kd.C (Kd.int .u8) w A0 l0.length l0) (hc0 : l0.length ≤ c0) (h : wire_TakeNumber.f l0 a1 = some (r1, r2, r3)) :
    Calls Try.prog 100 #[.slice A0 l0.length c0, .int .i64 a1] w fun e w' => e = .returned (.tuple #[.int .i64 r1, .int .i64 r2, .int .i64 r3]) ∧ ∃ m, w' = w.drewN m :=
  (wire_TakeNumber.calls A0 c0 l0 a1 r1 r2 r3 w hr0 hc0 h).mono fun _ _ ⟨he, hd⟩ => ⟨he, hd.out⟩

theorem takeGo_ok (l : List Int) (at_ : Int) (h0 : 0 ≤ at_) : ∀ (m : Nat) (k n r1 r2 : Int), 0 ≤ k → 0 ≤ n → (∀ i, 0 ≤ rd l i ∧ rd l i ≤ 255) → at_ + k ≤ l.length → takeGo l at_ m k n = (r1, r2, 0) → at_ + k < r2 ∧ r2 ≤ l.length ∧ 0 ≤ r1 ∧ r1 ≤ 1099511627776 := by
  intro m
  induction m with
  | zero => intro k n r1 r2 _ _ _ _ h; simp [takeGo] at h
  | succ m ih =>
    intro k n r1 r2 hk hn hb hkl h
    have hc := hb (at_ + k)
    have hp : 0 ≤ rd l (at_ + k) % 128 * 128 ^ k.toNat := Int.mul_nonneg (by omega) (Int.pow_nonneg (by omega))
    simp only [takeGo] at h
    split at h
    · simp at h
    · split at h
      · split at h
        · simp at h
        · have := ih _ _ _ _ (by omega) (by omega) hb (by omega) h
          omega
      · split at h
        · simp at h
        · split at h
          · simp at h
          · simp only [Prod.mk.injEq] at h
            omega
theorem takeNum_ok {l : List Int} {at_ r1 r2 : Int} (hb : okBytes l = true) (h : takeNum l at_ = (r1, r2, 0)) : at_ < r2 ∧ 0 ≤ r2 ∧ r2 ≤ l.length ∧ 0 ≤ r1 ∧ r1 ≤ 1099511627776 := by
  unfold takeNum at h
  split at h
  · simp at h
  · split at h
    · simp at h
    · have := takeGo_ok l at_ (by omega) 6 0 0 r1 r2 (by omega) (by omega) (okBytes_rd hb) (by omega) h
      omega
/-- r.number(least) -/
def rdNum (l : List Int) (at_ least : Int) : Except Int (Int × Int) :=
  if (takeNum l at_).2.2 ≠ 0 then .error (takeNum l at_).2.2 else if (takeNum l at_).1 < least then .error 4 else .ok ((takeNum l at_).1, (takeNum l at_).2.1)

set_option maxHeartbeats 1000000 in
set_option maxRecDepth 100000 in
theorem number_core (w0 w : World) (g : Nat) (A : Option Addr) (c : Nat) (l : List Int) (at_ least r1 r2 r3 : Int) (hr : Kd.C (Kd.int .u8) w A l.length l) (hc : l.length ≤ c) (hI : IsRd w g A l.length c at_)
    (hB : Below w0.heap.size w0 w) (hg : w0.heap.size ≤ g) (h : wire_TakeNumber.f l at_ = some (r1, r2, r3))
    (hr2 : r3 = 0 → 0 ≤ r2 ∧ r2 ≤ l.length) (r : Except Int (Value × Int)) (hres : (if r3 ≠ 0 then .error r3 else if r1 < least then .error 4 else .ok (.int .i64 r1, r2)) = r) :
    Calls Try.prog 119 #[.pointer (some ⟨g, 0, none⟩), .int .i64 least] w fun e w' => RdPost w0 w g A l.length c r e w' := by
  have h0 := hI.cell0
  have h1 := hI.cell1
  have hf := hI.frozen
  go_enter Try.func119, Try.ntmps119
  have H0 := Aside0.mk hB
  have HI := Aside0.mk hI
  have HR := Aside0.mk hr
  have HH := Aside0.mk h
  have HS := Aside0.mk hres
  have H2 := Aside0.mk hr2
  clear hB hI hr h hres hr2
  by_cases h3 : r3 = 0
  · have h3b : (r3 != 0) = false := by simp [h3]
    have H3 := Aside0.mk h3
    clear h3
    by_cases hlt : r1 < least
    · have hl : decide (r1 < least) = true := by simpa using hlt
      go_wp2_with fail
      go_quiet ((go_at_call 100; exact Calls.quiet_of (take_same _ _ _ _ _ _ _ _ (Kd.C_below HR.out (pw_below_drewN (Below.refl _ _) _)) hc HH.out)))
      go_wp2
      exact ⟨rfl, by rw [← HS.out, if_neg (by simp [H3.out]), if_pos hlt]; exact ⟨pw_below_drewN H0.out _, keep_drewN (KeepBut.refl _ _ _) _, rfl⟩⟩
    · have hl : decide (r1 < least) = false := by simpa using hlt
      go_wp2_with fail
      go_quiet ((go_at_call 100; exact Calls.quiet_of (take_same _ _ _ _ _ _ _ _ (Kd.C_below HR.out (pw_below_drewN (Below.refl _ _) _)) hc HH.out)))
      go_wp2
      go_ret
      rw [← HS.out, if_neg (by simp [H3.out]), if_neg (by omega)]
      exact ⟨(pw_below_drewN H0.out _).setCell (p := ⟨g, 1, none⟩) hg _, (keep_drewN (KeepBut.refl _ _ _) _).set_ 1 _, rfl, (HI.out.drewN _).set_ _ (H2.out H3.out).1 (H2.out H3.out).2⟩
  · have h3b : (r3 != 0) = true := by simp [h3]
    go_wp2_with fail
    go_quiet ((go_at_call 100; exact Calls.quiet_of (take_same _ _ _ _ _ _ _ _ (Kd.C_below HR.out (pw_below_drewN (Below.refl _ _) _)) hc HH.out)))
    go_wp2
    exact ⟨rfl, by rw [← HS.out, if_pos h3]; exact ⟨pw_below_drewN H0.out _, keep_drewN (KeepBut.refl _ _ _) _, rfl⟩⟩
def exMap (f : Int → Value) : Except Int (Int × Int) → Except Int (Value × Int)
  | .ok (n, at_) => .ok (f n, at_)
  | .error x => .error x
def okLen (l : List Int) : Prop := okBytes l = true ∧ l.length ≤ 200000000000000
theorem number_calls (w0 w : World) (g : Nat) (A : Option Addr) (c : Nat) (l : List Int) (at_ least : Int) (hr : Kd.C (Kd.int .u8) w A l.length l) (hc : l.length ≤ c) (hI : IsRd w g A l.length c at_)
    (hB : Below w0.heap.size w0 w) (hg : w0.heap.size ≤ g) (hok : okLen l) :
    Calls Try.prog 119 #[.pointer (some ⟨g, 0, none⟩), .int .i64 least] w fun e w' => RdPost w0 w g A l.length c (exMap (.int .i64) (rdNum l at_ least)) e w' := by
  have h : wire_TakeNumber.f l at_ = some ((takeNum l at_).1, (takeNum l at_).2.1, (takeNum l at_).2.2) := by unfold wire_TakeNumber.f; exact if_pos hok
  refine number_core w0 w g A c l at_ least _ _ _ hr hc hI hB hg h (fun h3 => ?_) _ ?_
  · have := takeNum_ok (l := l) (at_ := at_) (r1 := (takeNum l at_).1) (r2 := (takeNum l at_).2.1) hok.1 (by rw [← h3])
    omega
  · unfold rdNum
    split
    · rfl
    · split <;> rfl

/-- r.byte(least, most) -/
def rdByte (l : List Int) (at_ least most : Int) : Except Int (Int × Int) :=
  if at_ = l.length then .error 3 else if rd l at_ < least then .error 4 else if most < rd l at_ then .error 4 else .ok (rd l at_, at_ + 1)

set_option maxHeartbeats 1000000 in
set_option maxRecDepth 100000 in
theorem byte_calls (w0 w : World) (g : Nat) (A : Option Addr) (c : Nat) (l : List Int) (at_ least most : Int) (hr : Kd.C (Kd.int .u8) w A l.length l) (hc : l.length ≤ c) (hI : IsRd w g A l.length c at_)
    (hB : Below w0.heap.size w0 w) (hg : w0.heap.size ≤ g) (hok : okLen l) (r : Except Int (Value × Int)) (hres : exMap (.int .i64) (rdByte l at_ least most) = r) :
    Calls Try.prog 135 #[.pointer (some ⟨g, 0, none⟩), .int .i64 least, .int .i64 most] w fun e w' => RdPost w0 w g A l.length c r e w' := by
  have h0 := hI.cell0
  have h1 := hI.cell1
  have hf := hI.frozen
  have b0 := hI.2.1
  have b1 := hI.2.2
  have b2 := hok.2
  have hcb := okBytes_rd hok.1 at_
  have H0 := Aside0.mk hB
  have HI := Aside0.mk hI
  have HS := Aside0.mk hres
  clear hB hI hres hok
  by_cases he : at_ = l.length
  · have hb : (at_ == (l.length : Int)) = true := by simpa using he
    have HE := Aside0.mk he
    clear he
    go_enter Try.func135, Try.ntmps135
    go_wp2_with fail
    go_quiet (fail)
    go_wp2
    exact ⟨rfl, by rw [← HS.out, rdByte, if_pos HE.out]; exact ⟨pw_below_drewN H0.out _, keep_drewN (KeepBut.refl _ _ _) _, rfl⟩⟩
  · have hb : (at_ == (l.length : Int)) = false := by simpa using he
    have hlt : at_ < l.length := by omega
    obtain ⟨ad, rfl, hcell⟩ := Kd.at_int hr at_ b0 hlt
    obtain ⟨x, hx⟩ : ∃ x, rd l at_ = x := ⟨_, rfl⟩
    rw [hx] at hcell hcb
    have HX := Aside0.mk hx
    clear hx hr
    have HE := Aside0.mk he
    clear he
    by_cases hl : x < least
    · have hl1 : decide (x < least) = true := by simpa using hl
      go_enter Try.func135, Try.ntmps135
      go_wp2_with fail
      go_quiet (fail)
      go_wp2_with fail
      go_quiet (fail)
      go_wp2
      exact ⟨rfl, by rw [← HS.out, rdByte, if_neg HE.out, HX.out, if_pos hl]; exact ⟨pw_below_drewN H0.out _, keep_drewN (KeepBut.refl _ _ _) _, rfl⟩⟩
    · have hl1 : decide (x < least) = false := by simpa using hl
      by_cases hm : most < x
      · have hm1 : decide (most < x) = true := by simpa using hm
        go_enter Try.func135, Try.ntmps135
        go_wp2_with fail
        go_quiet (fail)
        go_wp2_with fail
        go_quiet (fail)
        go_wp2
        exact ⟨rfl, by rw [← HS.out, rdByte, if_neg HE.out, HX.out, if_neg (by omega), if_pos hm]; exact ⟨pw_below_drewN H0.out _, keep_drewN (KeepBut.refl _ _ _) _, rfl⟩⟩
      · have hm1 : decide (most < x) = false := by simpa using hm
        go_enter Try.func135, Try.ntmps135
        go_wp2_with fail
        go_quiet (fail)
        go_wp2_with fail
        go_quiet (fail)
        go_wp2
        go_ret
        rw [← HS.out, rdByte, if_neg HE.out, HX.out, if_neg (by omega), if_neg (by omega)]
        exact ⟨(pw_below_drewN H0.out _).setCell (p := ⟨g, 1, none⟩) hg _, (keep_drewN (KeepBut.refl _ _ _) _).set_ 1 _, rfl, (HI.out.drewN _).set_ _ (by omega) (by omega)⟩

set_option maxHeartbeats 1000000 in
set_option maxRecDepth 100000 in
theorem end_calls (w0 w : World) (g : Nat) (A : Option Addr) (n c : Nat) (at_ : Int) (hI : IsRd w g A n c at_)
    (hB : Below w0.heap.size w0 w) (hg : w0.heap.size ≤ g) (r : Except Int (Value × Int)) (hres : (if at_ < n then .error 4 else .ok (.tuple #[], at_)) = r) :
    Calls Try.prog 120 #[.pointer (some ⟨g, 0, none⟩)] w fun e w' => RdPost w0 w g A n c r e w' := by
  have h0 := hI.cell0
  have h1 := hI.cell1
  have b0 := hI.2.1
  have b1 := hI.2.2
  have H0 := Aside0.mk hB
  have HI := Aside0.mk hI
  have HS := Aside0.mk hres
  clear hB hI hres
  by_cases he : at_ < n
  · have hb : decide (at_ < (n : Int)) = true := by simpa using he
    go_enter Try.func120, Try.ntmps120
    go_wp2_with fail
    go_quiet (fail)
    go_wp2
    exact ⟨rfl, by rw [← HS.out, if_pos he]; exact ⟨pw_below_drewN H0.out _, keep_drewN (KeepBut.refl _ _ _) _, rfl⟩⟩
  · have hb : decide (at_ < (n : Int)) = false := by simpa using he
    go_enter Try.func120, Try.ntmps120
    go_wp2_with fail
    go_quiet (fail)
    go_wp2
    go_end0
    rw [← HS.out, if_neg (by omega)]
    exact ⟨pw_below_drewN H0.out _, keep_drewN (KeepBut.refl _ _ _) _, rfl, HI.out.drewN _⟩
end Go.Proofs.Ytmmiipnmimjojaa.PS
end
section
namespace Go.Proofs.Ytmmiipnmimjojaa.PS
open Go.RowKit Go.Proofs.YtmmiipnmimjojaaW.PrintWords Go.Proofs.YtmmiipnmimjojaaW.PrintLast Go.Proofs.YtmmiipnmimjojaaW.PrintMore
set_option linter.unusedVariables false
set_option linter.unusedSimpArgs false
/-- r.data(most) -/
def rdData (l : List Int) (at_ most : Int) : Except Int (List Int × Int) :=
  match rdNum l at_ 0 with
  | .error x => .error x
  | .ok (n, at1) => if most < n then .error 6 else if (l.length : Int) - at1 < n then .error 3 else .ok ((l.take (at1 + n).toNat).drop at1.toNat, at1 + n)
/-- A call that came to a row of its own. -/
def RowPost (w0 w : World) (g : Nat) (A : Option Addr) (n c : Nat) (r : Except Int (List Int × Int)) (e : Ending) (w' : World) : Prop :=
  Below w0.heap.size w0 w' ∧ KeepBut w w' g none ∧ match r with
    | .ok (xs, at_) => ∃ v, e = .returned v ∧ Kd.R (Kd.int .u8) 5 w' w.heap.size (fun _ => True) v xs ∧ IsRd w' g A n c at_
    | .error x => e = .panicked (fault x)
theorem rdNum_ok {l : List Int} {at_ least n at1 : Int} (hok : okLen l) (h : rdNum l at_ least = .ok (n, at1)) : at_ < at1 ∧ 0 ≤ at1 ∧ at1 ≤ l.length ∧ least ≤ n ∧ 0 ≤ n ∧ n ≤ 1099511627776 := by
  unfold rdNum at h
  split at h
  · cases h
  · rename_i h0
    split at h
    · cases h
    · simp only [Except.ok.injEq, Prod.mk.injEq] at h
      obtain ⟨rfl, rfl⟩ := h
      have := takeNum_ok (l := l) (at_ := at_) (r1 := (takeNum l at_).1) (r2 := (takeNum l at_).2.1) hok.1 (by rw [← Decidable.not_not.1 h0])
      omega

set_option maxHeartbeats 1000000 in
set_option maxRecDepth 100000 in
theorem data_calls (w0 w : World) (g : Nat) (A : Option Addr) (c : Nat) (l : List Int) (at_ most : Int) (hr : Kd.C (Kd.int .u8) w0 A l.length l) (hc : l.length ≤ c) (hI : IsRd w g A l.length c at_)
    (hB : Below w0.heap.size w0 w) (hg : w0.heap.size ≤ g) (hok : okLen l) (hmost : most ≤ 1000000) (r : Except Int (List Int × Int)) (hres : rdData l at_ most = r) :
    Calls Try.prog 136 #[.pointer (some ⟨g, 0, none⟩), .int .i64 most] w fun e w' => RowPost w0 w g A l.length c r e w' := by
  have HS := Aside0.mk hres
  have HI := Aside0.mk hI
  have HB := Aside0.mk hB
  have HR := Aside0.mk hr
  have HK := Aside0.mk hok
  clear hB hI hres hr hok
  go_enter Try.func136, Try.ntmps136
  go_wp2_with fail
  refine (number_calls w0 w g A c l at_ 0 (Kd.C_below HR.out HB.out) hc HI.out HB.out hg HK.out).mono ?_
  rintro e w1 ⟨B1, K1, hm⟩
  cases hn : rdNum l at_ 0 with
  | error x =>
    rw [hn] at hm
    obtain rfl := hm
    have hx : r = .error x := by rw [← HS.out, rdData, hn]
    subst hx
    exact ⟨rfl, B1, K1, rfl⟩
  | ok p =>
    obtain ⟨n, at1⟩ := p
    rw [hn] at hm
    obtain ⟨rfl, I1⟩ := hm
    obtain ⟨q0, q1, q2, q3, q4, q5⟩ := rdNum_ok HK.out hn
    have HN := Aside0.mk hn
    have hlen := HK.out.2
    have c0 := I1.cell0
    have c1 := I1.cell1
    have f1 := I1.frozen
    have HI1 := Aside0.mk I1
    have HB1 := Aside0.mk B1
    have HK1 := Aside0.mk K1
    clear hn I1 B1 K1
    by_cases hm : most < n
    · have hb : decide (most < n) = true := by simpa using hm
      go_wp2
      have hx : r = .error 6 := by rw [← HS.out, rdData, HN.out]; simp only; rw [if_pos (by omega)]
      subst hx
      exact ⟨rfl, HB1.out, HK1.out, rfl⟩
    · have hb : decide (most < n) = false := by simpa using hm
      by_cases hs : (l.length : Int) - at1 < n
      · have hb2 : decide ((l.length : Int) - at1 < n) = true := by simpa using hs
        go_wp2_with fail
        go_quiet (fail)
        go_wp2
        have hx : r = .error 3 := by rw [← HS.out, rdData, HN.out]; simp only; rw [if_neg (by omega), if_pos (by omega)]
        subst hx
        exact ⟨rfl, pw_below_drewN HB1.out _, keep_drewN HK1.out _, rfl⟩
      · have hb2 : decide ((l.length : Int) - at1 < n) = false := by simpa using hs
        obtain ⟨i0, hi0, hz0, hz1, hz2⟩ := info_parts info5
        obtain ⟨A', hsl, hrd, hcap⟩ := print_mid_int (P := Try.prog) (k := .u8) 22 5 Try.underlying22 hi0 hz1 A c l at1 (at1 + n) (by omega) (by omega) (by omega) hc
        have hcap2 : ((l.take (at1 + n).toNat).drop at1.toNat).length ≤ l.length := by rw [List.length_drop, List.length_take]; omega
        have hyl : (((l.take (at1 + n).toNat).drop at1.toNat).length : Int) = n := by rw [List.length_drop, List.length_take]; omega
        obtain ⟨ys, hys⟩ : ∃ ys, (l.take (at1 + n).toNat).drop at1.toNat = ys := ⟨_, rfl⟩
        rw [hys] at hsl hrd hcap hcap2 hyl
        have HY := Aside0.mk hys
        have HYL := Aside0.mk hyl
        have HRD := Aside0.mk hrd
        clear hys hrd hcap hyl
        go_wp2_with fail
        go_quiet (fail)
        go_wp2_with fail
        refine wp_region_still_tail 15 (by kernel_rfl) (by kernel_rfl) ?_
        simp only [List.take_succ_cons, List.take_zero, List.drop_succ_cons, List.drop_zero]
        have hW : ∀ (w : World), ({ heap := w.heap, tape := w.tape, drawn := w.drawn + 1, os := w.os, output := w.output } : World) = w.drew := fun _ => rfl
        simp only [hW]
        have hwr : IntKind.i64.wrap (at1 + n) = at1 + n := IntWalk.i64_in _ (by omega)
        repeat still_step
        refine wpStill_nil ?_
        clear hwr hsl
        have HW2 := Aside0.mk (show Below w0.heap.size w0 (w1.drewN nq).drew from below_drew1 (pw_below_drewN HB1.out _))
        have HK2 := Aside0.mk (show KeepBut w (w1.drewN nq).drew g none from keep_drew (keep_drewN HK1.out _))
        have HI2 := Aside0.mk (show IsRd (w1.drewN nq).drew g A l.length c at1 from HI1.out)
        generalize (w1.drewN nq).drew = w2 at *
        have d0 := HI2.out.cell0
        have d1 := HI2.out.cell1
        have e1 := HI2.out.frozen
        clear c0 c1 f1
        at_builtin
        refine Kd.R_append_row (w0 := w2) (Value.int .u8) (0 : Int) (h1 := fun _ => rfl) w2.heap.size rfl _ _ 22 5 (.int .u8 0) 1 rfl Try.underlying22 info5 rfl (by omega) (.slice none 0 0) [] ys A' ys.length (c - at1.toNat) (fun _ => True) rfl rfl (fun _ _ => trivial) (Kd.R_nil _ _ _ _ _) (Kd.C_of_reads (HRD.out _ (Kd.reads_of_C (Kd.C_below HR.out HW2.out)))) (Below.refl _ _) (Nat.le_refl _) (by have := HYL.out; simp; omega) ?_
        intro v3 w3 R3 B3 G3 at3
        have HR3 := Aside0.mk R3
        have HB3 := Aside0.mk B3
        have hb3 : ∀ j, w3.cell? ⟨g, j, none⟩ = w2.cell? ⟨g, j, none⟩ := fun j => B3.cell (p := ⟨g, j, none⟩) (World.block_lt_of_cell? w2 ⟨g, 0, none⟩ d0)
        have hf3 : ∀ j, w3.frozen? ⟨g, j, none⟩ = false := fun j => (B3.frozen (p := ⟨g, j, none⟩) (World.block_lt_of_cell? w2 ⟨g, 0, none⟩ d0)).trans (e1 j)
        rw [← hb3 0] at d0
        rw [← hb3 1] at d1
        clear R3 B3 G3 at3 hb3 e1
        go_wp2
        go_ret
        have hx : r = .ok (ys, at1 + n) := by rw [← HS.out, rdData, HN.out]; simp only; rw [if_neg (by omega), if_neg (by omega), HY.out]
        subst hx
        have hI3 : IsRd w3 g A l.length c at1 := ⟨(HB3.out.block g (World.block_lt_of_cell? w2 ⟨g, 0, none⟩ (by rw [HI2.out.cell0]))).trans HI2.out.1, HI2.out.2⟩
        have hle : w.heap.size ≤ w2.heap.size := HK2.out.1
        have hlt : g < w.heap.size := World.block_lt_of_cell? w ⟨g, 0, none⟩ (by rw [HI.out.cell0])
        refine ⟨(below_then HW2.out HW2.out.size HB3.out).setCell (p := ⟨g, 1, none⟩) hg _, (HK2.out.trans (KeepBut.of_below HB3.out g none) (.inl rfl)).set_ 1 _, v3, rfl, ?_, hI3.set_ _ (by omega) (by omega)⟩
        have hR : Kd.R (Kd.int .u8) 5 w3 w.heap.size (fun k => w.heap.size ≤ k) v3 ys := Kd.R_mono (Kd.R_bound (Kd.R_lower HR3.out hle)) (fun k hk => hk.2.1)
        exact Kd.R_mono (Kd.R_far (p := ⟨g, 1, none⟩) hR (fun k hk => by show k ≠ g; omega) _) (fun _ _ => trivial)
end Go.Proofs.Ytmmiipnmimjojaa.PS
end
