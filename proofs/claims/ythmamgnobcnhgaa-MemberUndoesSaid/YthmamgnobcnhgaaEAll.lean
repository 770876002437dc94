import Derived.Test.YthmamgnobcnhgaaEWithout
import Derived.Test.YthmamgnobcnhgaaEAgreed
import Derived.OwnWalk
import Derived.Shelf.Spec.SlicesGrow
namespace Go.Proofs.Ythmamgnobcnhgaa.PM
open Go.RowKit Go.Proofs.YthmamgnobcnhgaaW.PrintWords Go.Proofs.YthmamgnobcnhgaaW.PrintLast Go.Proofs.YthmamgnobcnhgaaW.PrintMore
open Go.Sort
set_option linter.unusedVariables false
set_option linter.unusedSimpArgs false
theorem grow_r (n : Nat) (h1 : 1 ≤ n) (h2 : n ≤ 100) (w : World) :
    Calls Try.prog 71 #[.slice none 0 0, .int .i64 n] w fun e w' => ∃ v1, e = .returned v1 ∧ Kd.R (Kd.int .i64) 3 w' w.heap.size (fun _ => True) v1 [] ∧ Below w.heap.size w w' := by
  obtain ⟨i0, hi, hz0, hz1, hz2⟩ := info_parts info3
  have hg := Any8.slices_Grow_grow Try.l71 i0 (.int .i64 0) hi hz0 (by omega) none 0 0 n [] w (Nat.le_refl _) (by omega) (by rw [hz2]; omega) (by omega) (by simp) (fun _ => rfl) (fun a h => by cases h)
  change Calls Try.prog 71 #[.slice none 0 0, .int .i64 n] w _ at hg
  refine hg.mono ?_
  rintro e w' ⟨rfl, rfl⟩
  have c1 := grownCap_ge w (0 + n) 0 3
  have c2 := grownCap_le_maxLen w (0 + n) 0 3 (by have e : maxLen = 9223372036854775807 := by decide
                                                  omega)
  refine ⟨_, rfl, ?_, (below_drew1 (Below.refl _ _)).alloc (Nat.le_refl _) _⟩
  refine Kd.R_of_own (enc := Value.int .i64) (h1 := fun _ => rfl) ⟨rfl, .inr ⟨w.heap.size, _, _, rfl, Nat.le_refl _, heap_alloc_new _ _, Nat.zero_le _, c2, ?_, rfl⟩⟩ (fun _ _ => trivial)
  show _ = grownCap w (0 + n) 0 3 * 1
  have zc : ∀ m, (Builtin.zeroCells (Value.int .i64 0).cells m).size = m := fun m => by simp [Builtin.zeroCells, Value.cells]
  rw [Array.size_append, Array.size_append, zc, zc]
  show 0 + (0 + n - 0) + (grownCap w (0 + n) 0 3 - (0 + n)) = _
  omega
set_option maxHeartbeats 4000000 in
set_option maxRecDepth 100000 in
theorem concat_r (A0 : Option Addr) (c0 : Nat) (V : List Int) (A1 : Option Addr) (c1 : Nat) (L : List Int) (w : World) (hr0 : Kd.C (Kd.int .i64) w A0 V.length V) (hr1 : Kd.C (Kd.int .i64) w A1 L.length L)
    (hV : V.length ≤ 9) (hV0 : 0 < V.length) (hL : L.length ≤ 9) (B : Nat) (hB : B < w.heap.size) (hb0 : w.cell? ⟨B, 0, none⟩ = some (.slice A0 V.length c0)) (hb1 : w.cell? ⟨B, 1, none⟩ = some (.slice A1 L.length c1)) :
    Calls Try.prog 54 #[.slice (some ⟨B, 0, none⟩) 2 2] w fun e w' => ∃ v1, e = .returned v1 ∧ Kd.R (Kd.int .i64) 3 w' w.heap.size (fun _ => True) v1 (V ++ L) ∧ Below w.heap.size w w' := by
  have HR0 := Aside0.mk hr0
  have HR1 := Aside0.mk hr1
  have HB0 := Aside0.mk hb0
  have HB1 := Aside0.mk hb1
  clear hr0 hr1
  have w1 : wrap64 (V.length : Int) = V.length := wrap64_in (by omega)
  have w2 : wrap64 ((V.length : Int) + L.length) = V.length + L.length := wrap64_in (by omega)
  have n1 : decide ((V.length : Int) < 0) = false := by simp
  have n2 : decide ((V.length : Int) + L.length < 0) = false := by simp; omega
  go_enter Try.func54, Try.ntmps54
  go_wp2
  refine wp_loop_rounds 3 ?_
  rw [rounds_succ]
  go_wp2
  rw [rounds_succ]
  go_wp2
  rw [rounds_succ]
  go_wp2_with fail
  have hgr := grow_r (V.length + L.length) (by omega) (by omega) w
  rw [Int.natCast_add] at hgr
  refine hgr.mono ?_
  rintro e w3 ⟨v1, rfl, ho, hb⟩
  have HO := Aside0.mk ho
  have HB := Aside0.mk hb
  have q0 := (hb.cell (p := ⟨B, 0, none⟩) hB).trans hb0
  clear ho hb hgr
  go_wp2
  refine wp_loop_rounds 3 ?_
  rw [rounds_succ]
  go_wp2_with ((with_reducible refine gate_builtin (b := .append) (xs := #[.tmp 31, .tmp 32]) rfl ?_); at_builtin; refine Kd.R_append_rows (Kd.int .i64) (w0 := w) w.heap.size rfl (.tmp 31) (.tmp 32) 22 3 (.int .i64 0) 8 rfl Try.underlying22 info3 rfl (by decide) (by omega) v1 [] V _ _ _ (fun _ => True) (fun _ => False) rfl rfl HO.out (Kd.C_below HR0.out HB.out) (fun _ _ h => h) (fun _ h => h.elim) (fun _ _ => trivial) HB.out HB.out.size ?aL ?_; (case aL => simp only [List.length_nil, List.nil_append]; omega); intro v2 w4 ho hb hg hat; have HO2 := Aside0.mk ho; have HB2 := Aside0.mk hb; clear ho hb hg hat)
  have q1 := (HB2.out.cell (p := ⟨B, 1, none⟩) hB).trans HB1.out
  rw [rounds_succ]
  go_wp2_with ((with_reducible refine gate_builtin (b := .append) (xs := #[.tmp 31, .tmp 32]) rfl ?_); at_builtin; refine Kd.R_append_rows (Kd.int .i64) (w0 := w) w.heap.size rfl (.tmp 31) (.tmp 32) 22 3 (.int .i64 0) 8 rfl Try.underlying22 info3 rfl (by decide) (by omega) v2 ([] ++ V) L _ _ _ (fun _ => True) (fun _ => False) rfl rfl HO2.out (Kd.C_below HR1.out HB2.out) (fun _ _ h => h) (fun _ h => h.elim) (fun _ _ => trivial) HB2.out HB2.out.size ?aL ?_; (case aL => simp only [List.length_nil, List.nil_append]; omega); intro v3 w5 ho hb hg hat; have HO3 := Aside0.mk ho; have HB3 := Aside0.mk hb; clear ho hb hg hat)
  rw [rounds_succ]
  go_wp2
  go_ret
  exact ⟨_, rfl, HO3.out, HB3.out⟩
def member_All.f (l0_0 : List Int) (l0_1 : List Int) : Option (List Int) := if l0_0.length ≤ 140737488355328 ∧ l0_1.length ≤ 140737488355328 then some (if rightB l0_0 l0_1 then sortI (l0_0 ++ l0_1) else []) else none
set_option maxHeartbeats 2000000 in
set_option maxRecDepth 100000 in
theorem all_core (A0 : Option Addr) (c0 : Nat) (V : List Int) (A1 : Option Addr) (c1 : Nat) (L : List Int) (w : World) (hr0 : Kd.C (Kd.int .i64) w A0 V.length V) (hc0 : V.length ≤ c0) (hr1 : Kd.C (Kd.int .i64) w A1 L.length L) (hc1 : L.length ≤ c1)
    (hV : V.length ≤ 140737488355328) (hL : L.length ≤ 140737488355328) (r : List Int) (hres : (if rightB V L then sortI (V ++ L) else []) = r) :
    Calls Try.prog 28 #[.agg #[.slice A0 V.length c0, .slice A1 L.length c1]] w fun e w' => ∃ v0_ : Value, e = .returned (v0_) ∧ Kd.R (Kd.int .i64) 3 w' w.heap.size (fun _ => True) v0_ r ∧ Below w.heap.size w w' := by
  have HS := Aside0.mk hres
  have HR0 := Aside0.mk hr0
  have HR1 := Aside0.mk hr1
  clear hres hr0 hr1
  have HB := Aside0.mk (below_alloc (Below.refl w.heap.size w) (.cells #[.slice A0 V.length c0, .slice A1 L.length c1] 24 (0, 0)))
  obtain ⟨b1, hb1⟩ : ∃ b, rightB V L = b := ⟨_, rfl⟩
  have H1 := Aside0.mk hb1
  clear hb1
  go_enter Try.func28, Try.ntmps28
  go_wp2_with fail
  refine (right_r2 A0 c0 V A1 c1 L _ (Kd.C_below HR0.out HB.out) hc0 (Kd.C_below HR1.out HB.out) hc1 hV hL b1 H1.out).mono ?_
  rintro e w1 ⟨rfl, hw1⟩
  cases b1 with
  | false =>
    go_wp2
    go_ret
    have hx : r = [] := by rw [← HS.out, H1.out]; rfl
    subst hx
    exact ⟨_, rfl, Kd.R_nil _ _ _ _ _, HB.out.trans (hw1.mono (by simp [go_sem]))⟩
  | true =>
    have hup := H1.out
    have hu : ups 0 V = true ∧ ups 0 L = true ∧ (V.length == 0) = false := by
      unfold rightB at hup
      simp only [Bool.and_eq_true] at hup
      exact ⟨hup.1.1.2, hup.1.2, by simpa using hup.1.1.1⟩
    have hlen := ups_len V 0 (by omega) hu.1
    have hlen2 := ups_len L 0 (by omega) hu.2.1
    have hpos : 0 < V.length := by have := hu.2.2; simp at this; exact List.length_pos_iff.2 this
    clear hup hu
    have hbx : w1.cell? ⟨w.heap.size, 0, none⟩ = some (.slice A0 V.length c0) := (hw1.cell (by simp [go_sem])).trans (by simp [go_sem])
    have hby : w1.cell? ⟨w.heap.size, 1, none⟩ = some (.slice A1 L.length c1) := (hw1.cell (by simp [go_sem])).trans (by simp [go_sem])
    have HW1 := Aside0.mk (HB.out.trans (hw1.mono (by simp [go_sem])))
    clear hw1
    have HA := Aside0.mk (HW1.out.trans ((below_alloc (Below.refl w1.heap.size w1) (.cells #[.slice A0 V.length c0, .slice A1 L.length c1] 22 (0, 0))).mono HW1.out.size))
    go_wp2_with fail
    refine (concat_r A0 c0 V A1 c1 L _ (Kd.C_below HR0.out HA.out) (Kd.C_below HR1.out HA.out) (by omega) hpos (by omega) w1.heap.size (by simp [go_sem]) (by simp [go_sem]) (by simp [go_sem])).mono ?_
    rintro e w2 ⟨v2, rfl, ho, hb⟩
    have hsz : w.heap.size ≤ (w1.alloc (.cells #[.slice A0 V.length c0, .slice A1 L.length c1] 22 (0, 0))).heap.size := HA.out.size
    have ho' : Kd.R (Kd.int .i64) 3 w2 w.heap.size (fun _ => True) v2 (V ++ L) := by
      have ho := Kd.own_of_R (enc := Value.int .i64) (h1 := fun _ => rfl) ho
      refine Kd.R_of_own (enc := Value.int .i64) (h1 := fun _ => rfl) ⟨ho.1, ?_⟩ (fun _ _ => trivial)
      rcases ho.2 with hn | ⟨g, cap, cur, hv, hbg, hr⟩
      · exact .inl hn
      · exact .inr ⟨g, cap, cur, hv, Nat.le_trans hsz hbg, hr⟩
    have HO := Aside0.mk ho'
    have HB2 := Aside0.mk (HA.out.trans (hb.mono hsz))
    clear ho ho' hb hsz
    go_wp2_with fail
    refine (sort_R HO.out HB2.out HB2.out.size (by rw [List.length_append]; omega)).mono ?_
    rintro e w3 ⟨rfl, ho3, hb3⟩
    have HO3 := Aside0.mk ho3
    have HB3 := Aside0.mk hb3
    clear ho3 hb3
    go_wp2
    go_ret
    have hx : r = sortI (V ++ L) := by rw [← HS.out, H1.out]; rfl
    subst hx
    exact ⟨_, rfl, HO3.out, HB3.out⟩
theorem member_All.calls (A0_0 : Option Addr) (c0_0 : Nat) (l0_0 : List Int) (A0_1 : Option Addr) (c0_1 : Nat) (l0_1 : List Int) (r : List Int) (w : World) (hr0_0 : Kd.C (Kd.int .i64) w A0_0 l0_0.length l0_0) (hc0_0 : l0_0.length ≤ c0_0) (hr0_1 : Kd.C (Kd.int .i64) w A0_1 l0_1.length l0_1) (hc0_1 : l0_1.length ≤ c0_1) (h : member_All.f l0_0 l0_1 = some r) :
    Calls Try.prog 28 #[.agg #[.slice A0_0 l0_0.length c0_0, .slice A0_1 l0_1.length c0_1]] w fun e w' => ∃ v0_ : Value, e = .returned (v0_) ∧ Kd.R (Kd.int .i64) 3 w' w.heap.size (fun _ => True) v0_ r ∧ Below w.heap.size w w' := by
  unfold member_All.f at h
  by_cases hc : l0_0.length ≤ 140737488355328 ∧ l0_1.length ≤ 140737488355328
  · rw [if_pos hc] at h
    exact all_core _ _ _ _ _ _ w hr0_0 hc0_0 hr0_1 hc0_1 hc.1 hc.2 r (Option.some.inj h)
  · rw [if_neg hc] at h; cases h
end Go.Proofs.Ythmamgnobcnhgaa.PM
