/- The reference's Cut. -/
import Derived.Test.YtmmiipnmimjojaaR4
namespace Go.Proofs.Ytmmiipnmimjojaa.PS
open Go.RowKit Go.Proofs.YtmmiipnmimjojaaW.PrintWords Go.Proofs.YtmmiipnmimjojaaW.PrintLast Go.Proofs.YtmmiipnmimjojaaW.PrintMore
open Go.Maps Go.Proofs.Ytmmiipnmimjojaa.PD
set_option linter.unusedVariables false
set_option linter.unusedSimpArgs false
theorem info166 : (Try.prog.info? 166).map (fun i => (i.zero, i.size, i.bytes)) = some (some (.agg #[(.bool false), (.int .i64 0), (.int .u8 0)]), 3, 24) := by kernel_rfl
set_option maxHeartbeats 2000000 in
set_option maxRecDepth 100000 in
theorem rcut_calls {W : World} {R : Nat → Prop} {r N : Nat} {D : Dsk} {s : ByteArray} {z : Int} (h : RefAt W R r D.room (refL D.files)) (hi : DInv N D) (hN : N ≤ 1000000) :
    Calls Try.prog 79 #[.pointer (some ⟨r, 0, none⟩), .string s, .int .i64 z] W fun e w' => e = .returned (.int .i64 (dCut D s z).1) ∧ Rx W w' R r D.room (refL (dCut D s z).2.files) := by
  have hll : (refL D.files).length ≤ 16 := by rw [ref_len]; exact hi.few
  have H := Aside0.mk h
  have HI := Aside0.mk hi
  have HL := Aside0.mk hll
  clear h hi hll
  unfold dCut
  cases hg : aget s.data.toList D.files with
  | none =>
    have hf := find_none (i := 0) hg
    have HF := Aside0.mk hf
    clear hf hg
    go_enter Try.func79, Try.ntmps79
    go_wp2_with fail
    refine (rfind_calls s H.out (by have := HL.out; omega)).mono ?_
    rintro e w1 ⟨rfl, rfl⟩
    rw [HF.out]
    go_wp2_with fail
    go_ret
    exact ⟨rfl, Rx.still H.out (Below.refl _ _)⟩
  | some f =>
    dsimp only
    obtain ⟨i, hf, i0, i1, hrd⟩ := rd_find hg
    have hinv := HI.out.get hg
    obtain ⟨hub, hul⟩ := hinv.units hN
    have hnow := now_ref hinv
    have HF := Aside0.mk hf
    have hneg : decide (i < 0) = false := decide_eq_false (by omega)
    obtain ⟨A, c, hh, hv⟩ := H.out.cells
    have hc1 : W.cell? ⟨r, 1, none⟩ = some (.slice A (refL D.files).length c) := blk_cell hh 1
    obtain ⟨ad, A2, c2, A3, c3, hr⟩ := filR_of hv i0 i1 hrd
    have hres0 : putR (refL D.files) ⟨s, f.f2, f.f1, flat f.f3 ++ [⟨true, z, 0⟩]⟩ = refL (aput s.data.toList ⟨f.f0.take z.toNat, f.f1, f.f2, f.f3 ++ [⟨true, z, 0, []⟩]⟩ D.files) := by
      rw [← flat_cut]
      exact put_aput (n := s.data.toList) (f := ⟨f.f0.take z.toNat, f.f1, f.f2, f.f3 ++ [⟨true, z, 0, []⟩]⟩) HI.out.srt
    have hF0 : (refF (s.data.toList, f)).f0 = s ∧ (refF (s.data.toList, f)).f1 = f.f2 ∧ (refF (s.data.toList, f)).f2 = f.f1 ∧ (refF (s.data.toList, f)).f3 = flat f.f3 := ⟨rfl, rfl, rfl, rfl⟩
    obtain ⟨F, hF⟩ : ∃ F, refF (s.data.toList, f) = F := ⟨_, rfl⟩
    obtain ⟨L, hL⟩ : ∃ L, refL D.files = L := ⟨_, rfl⟩
    rw [hF] at hub hul hnow hr hF0
    rw [hL] at hc1 hh hv HL i1 hres0
    obtain rfl := hr.at_
    have e0 := hr.name
    have e1 := hr.lasts
    have e2 := hr.sure
    have e3 := hr.units
    have HR := Aside0.mk hr
    have HV := Aside0.mk hv
    have HH := Aside0.mk hh
    have HUB := Aside0.mk hub
    have HUL := Aside0.mk hul
    have HNW := Aside0.mk hnow
    have HLL := Aside0.mk hL
    have HRES := Aside0.mk hres0
    have HF0 := Aside0.mk hF0
    have p0 := eq_true i0
    have p1 := eq_true i1
    have hl16 : L.length ≤ 1000 := by have := HL.out; omega
    have HLT := Aside0.mk (H.out.lt r H.out.own)
    have HL16 := Aside0.mk hl16
    clear hf hv hh hr hub hul hnow hrd hinv hF hL hres0 hF0 hl16
    have hfl : f.f0.length ≤ 262144 := (HI.out.get hg).short
    clear hg
    by_cases hz : z < 0
    · have cz : decide (z < 0) = true := decide_eq_true hz
      rw [if_pos (.inl hz)]
      go_enter Try.func79, Try.ntmps79
      go_wp2_with fail
      refine (rfind_calls s H.out (by rw [HLL.out]; have := HL.out; omega)).mono ?_
      rintro e w1 ⟨rfl, rfl⟩
      rw [HF.out]
      go_wp2_with fail
      go_ret
      exact ⟨rfl, Rx.still H.out (below_alloc (Below.refl _ _) _)⟩
    by_cases hz2 : (f.f0.length : Int) < z
    · have cz : decide (z < 0) = false := decide_eq_false hz
      have cz2 : decide (z > (f.f0.length : Int)) = true := decide_eq_true hz2
      rw [if_pos (.inr hz2)]
      go_enter Try.func79, Try.ntmps79
      go_wp2_with fail
      refine (rfind_calls s H.out (by rw [HLL.out]; have := HL.out; omega)).mono ?_
      rintro e w1 ⟨rfl, rfl⟩
      rw [HF.out]
      go_wp2_with fail
      refine (rnow HR.out.vs HR.out.vu HUB.out HUL.out (below_alloc (Below.refl _ _) _)).mono ?_
      rintro e w4 ⟨A6, c6, rfl, hr6, hb6⟩
      rw [HNW.out]
      have hb4 := below_step (below_alloc (Below.refl W.heap.size W) _) hb6
      go_wp2_with fail
      go_ret
      exact ⟨rfl, Rx.still H.out hb4⟩
    · have cz : decide (z < 0) = false := decide_eq_false hz
      have cz2 : decide (z > (f.f0.length : Int)) = false := decide_eq_false (by omega)
      rw [if_neg (by omega)]
      go_enter Try.func79, Try.ntmps79
      go_wp2_with fail
      refine (rfind_calls s H.out (by rw [HLL.out]; have := HL.out; omega)).mono ?_
      rintro e w1 ⟨rfl, rfl⟩
      rw [HF.out]
      go_wp2_with fail
      refine (rnow HR.out.vs HR.out.vu HUB.out HUL.out (below_alloc (Below.refl _ _) _)).mono ?_
      rintro e w4 ⟨A6, c6, rfl, hr6, hb6⟩
      rw [HNW.out]
      have bk4 := (hb6.block W.heap.size (by show W.heap.size < (W.heap.push _).size; simp)).trans (blk_new W (.cells #[.string F.f0, .bool F.f1, .slice A2 F.f2.length c2, .slice A3 F.f3.length c3] 144 (0, 0)))
      have HB4 := Aside0.mk (below_step (below_alloc (Below.refl W.heap.size W) _) hb6)
      have BK4 := Aside0.mk bk4
      have HUL' := HUL.out
      clear hb6 bk4
      go_wp2_with (first
        | ((with_reducible refine gate_dst (N := 33) rfl ?_); refine Kd.R_lit k166 _ 166 ?hg (N := 33) ?hd (xs := ([] : List S166)) (inner := []) (ok := fun _ => True) (okp := fun _ => True) ?hr ?hp (fun _ hk => hk) trivial (Below.refl _ _) (Nat.le_refl _) (by simp) ?_; (case hd => rfl); (case hg => rfl); (case hr => first | (go_simp; done) | (go_simp; rfl)); (case hp => exact (Reps.none _ _)); intro v5 w5 ho5 hb5 hg_ hnew_; have HO5 := Aside0.mk ho5; have HB5 := Aside0.mk hb5; have bk5 := (hb5.block W.heap.size (blk_lt BK4.out)).trans BK4.out; have q53 : w5.cell? ⟨W.heap.size, 3, none⟩ = some (.slice A3 F.f3.length c3) := blk_cell bk5 3; have BK5 := Aside0.mk bk5; clear hg_ hnew_ ho5 hb5 bk5)
        | ((with_reducible refine gate_dst (N := 36) rfl ?_); refine Kd.R_append_rows k166 (w0 := w4) w4.heap.size (by rfl) (.tmp 33) (.tmp 35) 142 166 (.agg #[.bool false, .int .i64 0, .int .u8 0]) 24 (by rfl) Try.underlying142 info166 (by rfl) (by decide) (by decide) _ [] F.f3 A3 F.f3.length c3 (fun _ => True) (fun _ => False) (by rfl) (by rfl) HO5.out (Kd.C_below (Kd.C_below (Kd.V_reads' HR.out.vu).2.2 HB4.out) HB5.out) (fun _ _ h => h) (fun _ h => h.elim) (fun _ _ => trivial) HB5.out HB5.out.size (by rw [List.length_nil]; omega) ?_; intro v6 w6 hR hb6 hg hat; have HO6 := Aside0.mk hR; have HB6 := Aside0.mk hb6; have BK6 := Aside0.mk ((hb6.block W.heap.size (blk_lt BK4.out)).trans BK4.out); clear hR hb6 hg hat q53)
        | ((with_reducible refine gate_dst (N := 41) rfl ?_); refine Kd.R_append k166 (w0 := w4) w4.heap.size rfl (.tmp 37) (.tmp 40) 142 166 (.agg #[.bool false, .int .i64 0, .int .u8 0]) 24 rfl Try.underlying142 info166 rfl (by decide) (by omega) v6 ([] ++ F.f3) ⟨true, z, 0⟩ [.bool true, .int .i64 z, .int .u8 0] (fun _ => True) (fun _ => False) rfl rfl ?aP (fun _ hk => hk.elim) (fun _ _ => trivial) HO6.out HB6.out HB6.out.size ?aL ?_; (case aP => exact k166_mkM _ _ _ ⟨true, z, 0⟩); (case aL => rw [List.nil_append]; omega); intro v7 w7 ho hb7 hg hat; rw [List.nil_append] at ho; obtain ⟨U, hU⟩ : ∃ U : List S166, F.f3 ++ [⟨true, z, 0⟩] = U := ⟨_, rfl⟩; rw [hU] at ho; have HU := Aside0.mk hU; clear hU; have bk7 := (hb7.block W.heap.size (blk_lt BK4.out)).trans BK4.out; have q73 : w7.cell? ⟨W.heap.size, 3, none⟩ = some (.slice A3 F.f3.length c3) := blk_cell bk7 3; have f73 := blk_frozen bk7 3; obtain ⟨A7, c7, rfl⟩ := Kd.R_slice ho; have HO7 := Aside0.mk ho; have HB7 := Aside0.mk hb7; have BK7 := Aside0.mk bk7; clear ho hb7 hg hat bk7)
        | fail)
      obtain ⟨w8, hw8⟩ : ∃ w8, w8 = w7.setCell ⟨W.heap.size, 3, none⟩ (.slice A7 U.length c7) := ⟨_, rfl⟩
      rw [← hw8]
      have hb8 : Below W.heap.size W w8 := by rw [hw8]; exact below_set (below_step HB4.out HB7.out) (Nat.le_refl _)
      have bk8 : w8.heap[W.heap.size]? = some (.cells #[.string F.f0, .bool F.f1, .slice A2 F.f2.length c2, .slice A7 U.length c7] 144 (0, 0)) := by rw [hw8]; simpa using blk_set BK7.out 3 (.slice A7 U.length c7)
      have hv8 : Kd.V k166 166 w8 0 (fun k => (R k ∧ k ≠ r) ∨ W.heap.size ≤ k) (.slice A7 U.length c7) U := by
        have hlt := blk_lt BK4.out
        rw [hw8]
        exact Kd.V_mono (Kd.V_far (Kd.V_mono (Kd.R_V (Kd.R_bound HO7.out) (base' := 0)) (fun k hk => hk.2.1)) (p := ⟨W.heap.size, 3, none⟩) (fun k hk => by dsimp only; omega) _) (fun k hk => .inr (by omega))
      have k0 : w8.cell? ⟨W.heap.size, 0, none⟩ = some (.string F.f0) := blk_cell bk8 0
      have k1 : w8.cell? ⟨W.heap.size, 1, none⟩ = some (.bool F.f1) := blk_cell bk8 1
      have k2 : w8.cell? ⟨W.heap.size, 2, none⟩ = some (.slice A2 F.f2.length c2) := blk_cell bk8 2
      have k3 : w8.cell? ⟨W.heap.size, 3, none⟩ = some (.slice A7 U.length c7) := blk_cell bk8 3
      have q8 : w8.cell? ⟨r, 1, none⟩ = some (.slice (some ad) L.length c) := blk_cell ((hb8.block r HLT.out).trans HH.out) 1
      have HB8 := Aside0.mk hb8
      have HV8 := Aside0.mk hv8
      clear hw8 hb8 bk8 hv8 q73 f73
      go_region_law (first
        | (go_simp; go_at_call 106; refine (rput (f := ⟨F.f0, F.f1, F.f2, U⟩) (P := fun k => (R k ∧ k ≠ r) ∨ W.heap.size ≤ k) HV.out HL16.out (below_step HB8.out (below_drew1 (Below.refl _ _))) (Kd.V_mono (Kd.V_below HR.out.vs (below_step HB8.out (below_drew1 (Below.refl _ _)))) (fun k hk => .inl hk)) (Kd.V_drew HV8.out)).mono ?_; rintro e w9 ⟨A9, c9, rfl, hv9, hb9⟩; have hB9 := below_step HB8.out (below_step (below_drew1 (Below.refl w8.heap.size w8)) hb9); have hq9 := (hB9.block r HLT.out).trans HH.out; have q9 : w9.cell? ⟨r, 1, none⟩ = some (.slice (some ad) L.length c) := blk_cell hq9 1; have f9 := blk_frozen hq9 1; have HB9 := Aside0.mk hB9; have HV9 := Aside0.mk hv9; clear hB9 hq9 hv9 hb9)
        | fail)
      all_goals
        go_wp2_with fail
        go_ret
        exact ⟨rfl, by
          rw [← HRES.out]
          obtain ⟨g0, g1, g2, g3⟩ := HF0.out
          rw [← g0, ← g1, ← g2, ← g3, HU.out]
          exact Rx.set H.out HB9.out (Kd.V_mono HV9.out (fun k hk => by
            have := HB8.out.size
            rcases hk with (h | h | h) | h
            · exact .inl h
            · exact .inl h
            · exact .inr h
            · have h' : w8.heap.size ≤ k := h
              exact .inr (by omega)))⟩
end Go.Proofs.Ytmmiipnmimjojaa.PS
