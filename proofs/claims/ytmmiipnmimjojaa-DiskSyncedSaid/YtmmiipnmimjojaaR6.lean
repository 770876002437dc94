/- The reference's Rename, Read, Sure. -/
import Derived.Test.YtmmiipnmimjojaaR5
namespace Go.Proofs.Ytmmiipnmimjojaa.PS
open Go.RowKit Go.Proofs.YtmmiipnmimjojaaW.PrintWords Go.Proofs.YtmmiipnmimjojaaW.PrintLast Go.Proofs.YtmmiipnmimjojaaW.PrintMore
open Go.Maps Go.Proofs.Ytmmiipnmimjojaa.PD
set_option linter.unusedVariables false
set_option linter.unusedSimpArgs false
set_option maxHeartbeats 2000000 in
set_option maxRecDepth 100000 in
theorem rread_calls {W : World} {R : Nat → Prop} {r N : Nat} {D : Dsk} {s : ByteArray} (h : RefAt W R r D.room (refL D.files)) (hi : DInv N D) (hN : N ≤ 1000000) :
    Calls Try.prog 39 #[.pointer (some ⟨r, 0, none⟩), .string s] W fun e w' => ∃ A c, e = .returned (.tuple #[.slice A (dRead D s).1.length c, .int .i64 (dRead D s).2]) ∧ k8.R 5 w' W.heap.size (fun _ => True) (.slice A (dRead D s).1.length c) (dRead D s).1 ∧ Below W.heap.size W w' := by
  have hll : (refL D.files).length ≤ 16 := by rw [ref_len]; exact hi.few
  have H := Aside0.mk h
  have HI := Aside0.mk hi
  have HL := Aside0.mk hll
  clear h hi hll
  unfold dRead
  cases hg : aget s.data.toList D.files with
  | none =>
    have hf := find_none (i := 0) hg
    have HF := Aside0.mk hf
    clear hf hg
    go_enter Try.func39, Try.ntmps39
    go_wp2_with fail
    refine (rfind_calls s H.out (by have := HL.out; omega)).mono ?_
    rintro e w1 ⟨rfl, rfl⟩
    rw [HF.out]
    go_wp2_with fail
    go_ret2
    exact ⟨none, 0, rfl, Kd.R_nil _ _ _ _ _, Below.refl _ _⟩
  | some f =>
    dsimp only
    obtain ⟨i, hf, i0, i1, hrd⟩ := rd_find hg
    have hinv := HI.out.get hg
    obtain ⟨hub, hul⟩ := hinv.units hN
    have hnow := now_ref hinv
    have HF := Aside0.mk hf
    have hneg : decide (i < 0) = false := decide_eq_false (by omega)
    obtain ⟨A, c, hh, hv⟩ := H.out.cells
    have hc1 : W.cell? ⟨r, 1, none⟩ = some (.slice A (refL D.files).length c) := blk_cell hh 1
    obtain ⟨ad, A2, c2, A3, c3, hr⟩ := filR_of hv i0 i1 hrd
    have hF0 : (refF (s.data.toList, f)).f0 = s ∧ (refF (s.data.toList, f)).f1 = f.f2 ∧ (refF (s.data.toList, f)).f2 = f.f1 ∧ (refF (s.data.toList, f)).f3 = flat f.f3 := ⟨rfl, rfl, rfl, rfl⟩
    obtain ⟨F, hF⟩ : ∃ F, refF (s.data.toList, f) = F := ⟨_, rfl⟩
    obtain ⟨L, hL⟩ : ∃ L, refL D.files = L := ⟨_, rfl⟩
    rw [hF] at hub hul hnow hr hF0
    rw [hL] at hc1 hh hv HL i1
    obtain rfl := hr.at_
    have e0 := hr.name
    have e1 := hr.lasts
    have e2 := hr.sure
    have e3 := hr.units
    have HR := Aside0.mk hr
    have HV := Aside0.mk hv
    have HH := Aside0.mk hh
    have HUB := Aside0.mk hub
    have HUL := Aside0.mk hul
    have HNW := Aside0.mk hnow
    have HLL := Aside0.mk hL
    have HF0 := Aside0.mk hF0
    have p0 := eq_true i0
    have p1 := eq_true i1
    have hl16 : L.length ≤ 1000 := by have := HL.out; omega
    have HLT := Aside0.mk (H.out.lt r H.out.own)
    have HL16 := Aside0.mk hl16
    have hfl : f.f0.length ≤ 262144 := (HI.out.get hg).short
    have hfl1 : f.f1.length ≤ 262144 := hinv.ch.len
    have HFS := Aside0.mk hfl1
    clear hf hv hh hr hub hul hnow hrd hinv hF hL hF0 hl16 hg hfl1
    go_enter Try.func39, Try.ntmps39
    go_wp2_with fail
    refine (rfind_calls s H.out (by rw [HLL.out]; have := HL.out; omega)).mono ?_
    rintro e w1 ⟨rfl, rfl⟩
    rw [HF.out]
    go_wp2_with fail
    refine (rnow HR.out.vs HR.out.vu HUB.out HUL.out (Below.refl _ _)).mono ?_
    rintro e w4 ⟨A6, c6, rfl, hr6, hb6⟩
    rw [HNW.out] at hr6 ⊢
    have HR6 := Aside0.mk hr6
    have HB6 := Aside0.mk hb6
    clear hr6 hb6
    go_wp2_with fail
    go_ret2
    exact ⟨A6, c6, rfl, HR6.out, HB6.out⟩
set_option maxHeartbeats 2000000 in
set_option maxRecDepth 100000 in
theorem rsure_calls {W : World} {R : Nat → Prop} {r N : Nat} {D : Dsk} {s : ByteArray} (h : RefAt W R r D.room (refL D.files)) (hi : DInv N D) (hN : N ≤ 1000000) :
    Calls Try.prog 85 #[.pointer (some ⟨r, 0, none⟩), .string s] W fun e w' => ∃ A c, e = .returned (.tuple #[.slice A (dSure D s).1.length c, .int .i64 (dSure D s).2]) ∧ k8.R 5 w' W.heap.size (fun _ => True) (.slice A (dSure D s).1.length c) (dSure D s).1 ∧ Below W.heap.size W w' := by
  have hll : (refL D.files).length ≤ 16 := by rw [ref_len]; exact hi.few
  have H := Aside0.mk h
  have HI := Aside0.mk hi
  have HL := Aside0.mk hll
  clear h hi hll
  unfold dSure
  cases hg : aget s.data.toList D.files with
  | none =>
    have hf := find_none (i := 0) hg
    have HF := Aside0.mk hf
    clear hf hg
    go_enter Try.func85, Try.ntmps85
    go_wp2_with fail
    refine (rfind_calls s H.out (by have := HL.out; omega)).mono ?_
    rintro e w1 ⟨rfl, rfl⟩
    rw [HF.out]
    go_wp2_with fail
    go_ret2
    exact ⟨none, 0, rfl, Kd.R_nil _ _ _ _ _, Below.refl _ _⟩
  | some f =>
    dsimp only
    obtain ⟨i, hf, i0, i1, hrd⟩ := rd_find hg
    have hinv := HI.out.get hg
    obtain ⟨hub, hul⟩ := hinv.units hN
    have hnow := now_ref hinv
    have HF := Aside0.mk hf
    have hneg : decide (i < 0) = false := decide_eq_false (by omega)
    obtain ⟨A, c, hh, hv⟩ := H.out.cells
    have hc1 : W.cell? ⟨r, 1, none⟩ = some (.slice A (refL D.files).length c) := blk_cell hh 1
    obtain ⟨ad, A2, c2, A3, c3, hr⟩ := filR_of hv i0 i1 hrd
    have hF0 : (refF (s.data.toList, f)).f0 = s ∧ (refF (s.data.toList, f)).f1 = f.f2 ∧ (refF (s.data.toList, f)).f2 = f.f1 ∧ (refF (s.data.toList, f)).f3 = flat f.f3 := ⟨rfl, rfl, rfl, rfl⟩
    obtain ⟨F, hF⟩ : ∃ F, refF (s.data.toList, f) = F := ⟨_, rfl⟩
    obtain ⟨L, hL⟩ : ∃ L, refL D.files = L := ⟨_, rfl⟩
    rw [hF] at hub hul hnow hr hF0
    rw [hL] at hc1 hh hv HL i1
    obtain rfl := hr.at_
    have e0 := hr.name
    have e1 := hr.lasts
    have e2 := hr.sure
    have e3 := hr.units
    have HR := Aside0.mk hr
    have HV := Aside0.mk hv
    have HH := Aside0.mk hh
    have HUB := Aside0.mk hub
    have HUL := Aside0.mk hul
    have HNW := Aside0.mk hnow
    have HLL := Aside0.mk hL
    have HF0 := Aside0.mk hF0
    have p0 := eq_true i0
    have p1 := eq_true i1
    have hl16 : L.length ≤ 1000 := by have := HL.out; omega
    have HLT := Aside0.mk (H.out.lt r H.out.own)
    have HL16 := Aside0.mk hl16
    have hfl : f.f0.length ≤ 262144 := (HI.out.get hg).short
    have hfl1 : f.f1.length ≤ 262144 := hinv.ch.len
    have HFS := Aside0.mk hfl1
    clear hf hv hh hr hub hul hnow hrd hinv hF hL hF0 hl16 hg hfl1
    obtain ⟨g0, g1, g2, g3⟩ := HF0.out
    by_cases hb : f.f2 = true
    · rw [if_pos hb]
      rw [g1, hb] at e1
      have e2' : W.cell? ⟨(ad.add (i.toNat * 4)).block, (ad.add (i.toNat * 4)).off + 2, none⟩ = some (.slice A2 f.f1.length c2) := by rw [e2, g2]
      have hvs := HR.out.vs
      rw [g2] at hvs
      have HVS := Aside0.mk hvs
      have HB := Aside0.mk hb
      clear hvs hb g0 g1 g2 g3 e2
      go_enter Try.func85, Try.ntmps85
      go_wp2_with fail
      refine (rfind_calls s H.out (by rw [HLL.out]; have := HL.out; omega)).mono ?_
      rintro e w1 ⟨rfl, rfl⟩
      rw [HF.out]
      go_wp2_with (first
        | ((with_reducible refine gate_dst (N := 25) rfl ?_); refine Kd.R_lit k8 _ 5 ?hg (N := 25) ?hd (xs := ([] : List Int)) (inner := []) (ok := fun _ => True) (okp := fun _ => True) ?hr ?hp (fun _ hk => hk) trivial (Below.refl _ _) (Nat.le_refl _) (by simp) ?_; (case hd => rfl); (case hg => rfl); (case hr => first | (go_simp; done) | (go_simp; rfl)); (case hp => exact (Reps.none _ _)); intro v5 w5 ho5 hb5 hg_ hnew_; have HO5 := Aside0.mk ho5; have HB5 := Aside0.mk hb5; have q51 := (hb5.cell (World.block_lt_of_cell? W _ hc1)).trans hc1; have q52 := (hb5.cell (World.block_lt_of_cell? W _ e2')).trans e2'; clear hg_ hnew_ ho5 hb5)
        | ((with_reducible refine gate_dst (N := 34) rfl ?_); refine Kd.R_append_rows k8 (w0 := W) W.heap.size (by rfl) (.tmp 25) (.tmp 33) 22 5 (.int .u8 0) 1 (by rfl) Try.underlying22 info5 (by rfl) (by decide) (by decide) _ [] f.f1 A2 f.f1.length c2 (fun _ => True) (fun _ => False) (by rfl) (by rfl) HO5.out (Kd.C_below (Kd.V_reads' HVS.out).2.2 HB5.out) (fun _ _ h => h) (fun _ h => h.elim) (fun _ _ => trivial) HB5.out HB5.out.size (by rw [List.length_nil]; have := HFS.out; omega) ?_; intro v6 w6 hR hb6 hg hat; rw [List.nil_append] at hR; obtain ⟨A6, c6, rfl⟩ := Kd.R_slice hR; have HO6 := Aside0.mk hR; have HB6 := Aside0.mk hb6; clear hR hb6 hg hat q51 q52)
        | fail)
      go_ret2
      exact ⟨A6, c6, rfl, HO6.out, HB6.out⟩
    · rw [if_neg hb]
      have hb' : f.f2 = false := by simpa using hb
      rw [g1, hb'] at e1
      clear hb hb' g0 g1 g2 g3
      go_enter Try.func85, Try.ntmps85
      go_wp2_with fail
      refine (rfind_calls s H.out (by rw [HLL.out]; have := HL.out; omega)).mono ?_
      rintro e w1 ⟨rfl, rfl⟩
      rw [HF.out]
      go_wp2_with fail
      go_ret2
      exact ⟨none, 0, rfl, Kd.R_nil _ _ _ _ _, Below.refl _ _⟩
set_option maxHeartbeats 2000000 in
set_option maxRecDepth 100000 in
theorem rrename_calls {W : World} {R : Nat → Prop} {r N : Nat} {D : Dsk} {s u : ByteArray} (h : RefAt W R r D.room (refL D.files)) (hi : DInv N D) (hN : N ≤ 1000000) (hu : u.size ≤ maxLen) :
    Calls Try.prog 81 #[.pointer (some ⟨r, 0, none⟩), .string s, .string u] W fun e w' => e = .returned (.int .i64 (dRename D s u).1) ∧ Rx W w' R r D.room (refL (dRename D s u).2.files) := by
  have hll : (refL D.files).length ≤ 16 := by rw [ref_len]; exact hi.few
  have H := Aside0.mk h
  have HI := Aside0.mk hi
  have HL := Aside0.mk hll
  clear h hi hll
  unfold dRename
  cases hg : aget s.data.toList D.files with
  | none =>
    have hf := find_none (i := 0) hg
    have HF := Aside0.mk hf
    clear hf hg
    go_enter Try.func81, Try.ntmps81
    go_wp2_with fail
    refine (rfind_calls s H.out (by have := HL.out; omega)).mono ?_
    rintro e w1 ⟨rfl, rfl⟩
    rw [HF.out]
    go_wp2_with fail
    go_ret
    exact ⟨rfl, Rx.still H.out (Below.refl _ _)⟩
  | some f =>
    dsimp only
    obtain ⟨i, hf, i0, i1, hrd⟩ := rd_find hg
    have hinv := HI.out.get hg
    obtain ⟨hub, hul⟩ := hinv.units hN
    have hnow := now_ref hinv
    have HF := Aside0.mk hf
    have hneg : decide (i < 0) = false := decide_eq_false (by omega)
    obtain ⟨A, c, hh, hv⟩ := H.out.cells
    have hc1 : W.cell? ⟨r, 1, none⟩ = some (.slice A (refL D.files).length c) := blk_cell hh 1
    obtain ⟨ad, A2, c2, A3, c3, hr⟩ := filR_of hv i0 i1 hrd
    have hF0 : (refF (s.data.toList, f)).f0 = s ∧ (refF (s.data.toList, f)).f1 = f.f2 ∧ (refF (s.data.toList, f)).f2 = f.f1 ∧ (refF (s.data.toList, f)).f3 = flat f.f3 := ⟨rfl, rfl, rfl, rfl⟩
    have hres0 : putR (refL (adel s.data.toList D.files)) ⟨u, f.f2, f.f1, flat f.f3⟩ = refL (aput u.data.toList f (adel s.data.toList D.files)) := put_aput (n := u.data.toList) (f := f) (adel_srt HI.out.srt)
    have hwl : (refL (adel s.data.toList D.files)).length ≤ 1000 := by rw [ref_len]; have := adel_len (n := s.data.toList) (l := D.files); have := HI.out.few; omega
    have HRES := Aside0.mk hres0
    have HWL := Aside0.mk hwl
    clear hres0 hwl
    obtain ⟨F, hF⟩ : ∃ F, refF (s.data.toList, f) = F := ⟨_, rfl⟩
    obtain ⟨L, hL⟩ : ∃ L, refL D.files = L := ⟨_, rfl⟩
    rw [hF] at hub hul hnow hr hF0
    rw [hL] at hc1 hh hv HL i1
    obtain rfl := hr.at_
    have e0 := hr.name
    have e1 := hr.lasts
    have e2 := hr.sure
    have e3 := hr.units
    have HR := Aside0.mk hr
    have HV := Aside0.mk hv
    have HH := Aside0.mk hh
    have HUB := Aside0.mk hub
    have HUL := Aside0.mk hul
    have HNW := Aside0.mk hnow
    have HLL := Aside0.mk hL
    have HF0 := Aside0.mk hF0
    have p0 := eq_true i0
    have p1 := eq_true i1
    have hl16 : L.length ≤ 1000 := by have := HL.out; omega
    have HLT := Aside0.mk (H.out.lt r H.out.own)
    have HL16 := Aside0.mk hl16
    have hfl : f.f0.length ≤ 262144 := (HI.out.get hg).short
    have hfl1 : f.f1.length ≤ 262144 := hinv.ch.len
    have HFS := Aside0.mk hfl1
    clear hf hv hh hr hub hul hnow hrd hinv hF hL hF0 hl16 hg hfl1
    by_cases hn : namedB u = false
    · rw [if_pos hn]
      have HN := Aside0.mk hn
      clear hn
      go_enter Try.func81, Try.ntmps81
      go_wp2_with fail
      refine (rfind_calls s H.out (by rw [HLL.out]; have := HL.out; omega)).mono ?_
      rintro e w1 ⟨rfl, rfl⟩
      rw [HF.out]
      go_wp2_with fail
      refine (rnamed_calls u hu _).mono ?_
      rintro e w2 ⟨rfl, hdr⟩
      obtain ⟨nq, rfl⟩ := hdr.out
      rw [HN.out]
      go_wp2_with fail
      go_ret
      exact ⟨rfl, Rx.still H.out (pw_below_drewN (Below.refl _ _) _)⟩
    have hn' : namedB u = true := by simpa using hn
    by_cases he : s = u
    · rw [if_neg hn, if_pos he]
      have HN := Aside0.mk hn'
      have hbe : (s.toList == u.toList) = true := by rw [beq_str]; exact decide_eq_true he
      clear hn hn' he
      go_enter Try.func81, Try.ntmps81
      go_wp2_with fail
      refine (rfind_calls s H.out (by rw [HLL.out]; have := HL.out; omega)).mono ?_
      rintro e w1 ⟨rfl, rfl⟩
      rw [HF.out]
      go_wp2_with fail
      refine (rnamed_calls u hu _).mono ?_
      rintro e w2 ⟨rfl, hdr⟩
      obtain ⟨nq, rfl⟩ := hdr.out
      rw [HN.out]
      go_wp2_with fail
      go_ret
      exact ⟨rfl, Rx.still H.out (pw_below_drewN (Below.refl _ _) _)⟩
    · rw [if_neg hn, if_neg he]
      have HN := Aside0.mk hn'
      have hbe : (s.toList == u.toList) = false := by rw [beq_str]; exact decide_eq_false he
      clear hn hn' he
      go_enter Try.func81, Try.ntmps81
      go_wp2_with fail
      refine (rfind_calls s H.out (by rw [HLL.out]; have := HL.out; omega)).mono ?_
      rintro e w1 ⟨rfl, rfl⟩
      rw [HF.out]
      go_wp2_with fail
      refine (rnamed_calls u hu _).mono ?_
      rintro e w2 ⟨rfl, hdr⟩
      have hb2 : Below W.heap.size W w2 := by obtain ⟨nq, rfl⟩ := hdr.out; exact pw_below_drewN (Below.refl _ _) _
      rw [HN.out]
      replace hc1 := (hb2.cell (World.block_lt_of_cell? W _ hc1)).trans hc1
      replace e0 := (hb2.cell (World.block_lt_of_cell? W _ e0)).trans e0
      replace e1 := (hb2.cell (World.block_lt_of_cell? W _ e1)).trans e1
      replace e2 := (hb2.cell (World.block_lt_of_cell? W _ e2)).trans e2
      replace e3 := (hb2.cell (World.block_lt_of_cell? W _ e3)).trans e3
      have HB2 := Aside0.mk hb2
      clear hb2 hdr
      go_wp2_with fail
      obtain ⟨w8, hw8⟩ : ∃ w8, w8 = w2.alloc (.cells #[.string u, .bool F.f1, .slice A2 F.f2.length c2, .slice A3 F.f3.length c3] 144) := ⟨_, rfl⟩
      rw [← hw8]
      have hb8 : Below W.heap.size W w8 := by rw [hw8]; exact below_step HB2.out (below_alloc (Below.refl _ _) _)
      have bk8 : w8.heap[w2.heap.size]? = some (.cells #[.string u, .bool F.f1, .slice A2 F.f2.length c2, .slice A3 F.f3.length c3] 144 (0, 0)) := by rw [hw8]; exact blk_new w2 _
      have k0 : w8.cell? ⟨w2.heap.size, 0, none⟩ = some (.string u) := blk_cell bk8 0
      have k1 : w8.cell? ⟨w2.heap.size, 1, none⟩ = some (.bool F.f1) := blk_cell bk8 1
      have k2 : w8.cell? ⟨w2.heap.size, 2, none⟩ = some (.slice A2 F.f2.length c2) := blk_cell bk8 2
      have k3 : w8.cell? ⟨w2.heap.size, 3, none⟩ = some (.slice A3 F.f3.length c3) := blk_cell bk8 3
      have q8 : w8.cell? ⟨r, 1, none⟩ = some (.slice (some ad) L.length c) := blk_cell ((hb8.block r HLT.out).trans HH.out) 1
      have HB8 := Aside0.mk hb8
      have BK8 := Aside0.mk bk8
      obtain ⟨L', hL'⟩ : ∃ L', woR L s = L' := ⟨_, rfl⟩
      have hll' : refL (adel s.data.toList D.files) = L' := by rw [← wo_del, HLL.out]; exact hL'
      have HLD := Aside0.mk hll'
      have HWD := Aside0.mk hL'
      clear hw8 hb8 bk8 hL' hll' hc1 e0 e1 e2 e3
      go_region_law (first
        | (go_simp; go_at_call 107; refine (tollgateref05_without.calls _ _ (some ad) c L s _ _ (Kd.V_map (Kd.V_below HV.out (below_step HB8.out (below_drew1 (Below.refl _ _)))) (fun _ h => h)) (without_f _ s HL16.out)).mono ?_; rintro e w9 ⟨v9, rfl, hn9, hb9⟩; rw [HWD.out] at hn9; have hB9 := below_step (below_drew1 (Below.refl w8.heap.size w8)) hb9; have bk9 := (hB9.block w2.heap.size (blk_lt BK8.out)).trans BK8.out; have m0 : w9.cell? ⟨w2.heap.size, 0, none⟩ = some (.string u) := blk_cell bk9 0; have m1 : w9.cell? ⟨w2.heap.size, 1, none⟩ = some (.bool F.f1) := blk_cell bk9 1; have m2 : w9.cell? ⟨w2.heap.size, 2, none⟩ = some (.slice A2 F.f2.length c2) := blk_cell bk9 2; have m3 : w9.cell? ⟨w2.heap.size, 3, none⟩ = some (.slice A3 F.f3.length c3) := blk_cell bk9 3; have q9 : w9.cell? ⟨r, 1, none⟩ = some (.slice (some ad) L.length c) := blk_cell (((below_step HB8.out hB9).block r HLT.out).trans HH.out) 1; obtain ⟨A9, c9, rfl⟩ := Kd.V_slice (Kd.N_V hn9 (base' := 0)); have HV9 := Aside0.mk (Kd.N_V hn9 (base' := 0)); have HB9 := Aside0.mk (below_step HB8.out hB9); clear hn9 hb9 hB9 bk9)
        | (go_simp; go_at_call 106; refine (rput (f := ⟨u, F.f1, F.f2, F.f3⟩) (P := fun k => R k ∧ k ≠ r) HV9.out (by rw [← HLD.out]; exact HWL.out) (Below.refl _ _) (Kd.V_below HR.out.vs HB9.out) (Kd.V_below HR.out.vu HB9.out)).mono ?_; rintro e w10 ⟨A10, c10, rfl, hv10, hb10⟩; have hB10 := below_step HB9.out hb10; have hq10 := (hB10.block r HLT.out).trans HH.out; have q10 : w10.cell? ⟨r, 1, none⟩ = some (.slice (some ad) L.length c) := blk_cell hq10 1; have f10 := blk_frozen hq10 1; have HB10 := Aside0.mk hB10; have HV10 := Aside0.mk hv10; clear hB10 hq10 hv10 hb10)
        | fail)
      all_goals
        go_wp2_with fail
        go_ret
        exact ⟨rfl, by
          show Rx W _ R r D.room (refL (aput u.data.toList f (adel s.data.toList D.files)))
          rw [← HRES.out]
          obtain ⟨g0, g1, g2, g3⟩ := HF0.out
          rw [← g1, ← g2, ← g3, HLD.out]
          exact Rx.set H.out HB10.out (Kd.V_mono HV10.out (fun k hk => by
            have h8 := HB8.out.size
            have h9 := HB9.out.size
            rcases hk with ((h | h) | h) | h
            · exact .inl h
            · have h' : w8.heap.size ≤ k := h
              exact .inr (by omega)
            · exact .inl h
            · exact .inr (by omega)))⟩
end Go.Proofs.Ytmmiipnmimjojaa.PS
