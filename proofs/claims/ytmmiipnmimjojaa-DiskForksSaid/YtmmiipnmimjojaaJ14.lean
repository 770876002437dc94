/- The texts of this claim's seat, joined: part 14. -/
import Derived.Test.YtmmiipnmimjojaaJ13
section
namespace Go.Proofs.Ytmmiipnmimjojaa.PS
open Go.RowKit Go.Proofs.YtmmiipnmimjojaaW.PrintWords Go.Proofs.YtmmiipnmimjojaaW.PrintLast Go.Proofs.YtmmiipnmimjojaaW.PrintMore
open Go.Maps Go.Proofs.Ytmmiipnmimjojaa.PD
set_option linter.unusedVariables false
set_option linter.unusedSimpArgs false
set_option maxHeartbeats 2000000 in
set_option maxRecDepth 100000 in
theorem rread_calls {W : World} {R : Nat → Prop} {r N : Nat} {D : Dsk} {s : ByteArray} (h : RefAt W R r D.room (refL D.files)) (hi : DInv N D) (hN : N ≤ 1000000) :
    Calls Try.prog 39 #[.pointer (some ⟨r, 0, none⟩), .string s] W fun e w' => ∃ A c, e = .returned (.tuple #[.slice A (dRead D s).1.length c, .int .i64 (dRead D s).2]) ∧ k8.R 5 w' W.heap.size (fun _ => True) (.slice A (dRead D s).1.length c) (dRead D s).1 ∧ Below W.heap.size W w' := by
  have hll : (refL D.files).length ≤ 16 := by rw [ref_len]; exact hi.few
  have H := Aside0.mk h
  have HI := Aside0.mk hi
  have HL := Aside0.mk hll
  clear h hi hll
  unfold dRead
  cases hg : aget s.data.toList D.files with
  | none =>
    have hf := find_none (i := 0) hg
    have HF := Aside0.mk hf
    clear hf hg
    go_enter Try.func39, Try.ntmps39
    go_wp2_with fail
    refine (rfind_calls s H.out (by have := HL.out; omega)).mono ?_
    rintro e w1 ⟨rfl, rfl⟩
    rw [HF.out]
    go_wp2_with fail
    go_ret2
    exact ⟨none, 0, rfl, Kd.R_nil _ _ _ _ _, Below.refl _ _⟩
  | some f =>
    dsimp only
    obtain ⟨i, hf, i0, i1, hrd⟩ := rd_find hg
    have hinv := HI.out.get hg
    obtain ⟨hub, hul⟩ := hinv.units hN
    have hnow := now_ref hinv
    have HF := Aside0.mk hf
    have hneg : decide (i < 0) = false := decide_eq_false (by omega)
    obtain ⟨A, c, hh, hv⟩ := H.out.cells
    have hc1 : W.cell? ⟨r, 1, none⟩ = some (.slice A (refL D.files).length c) := blk_cell hh 1
    obtain ⟨ad, A2, c2, A3, c3, hr⟩ := filR_of hv i0 i1 hrd
    have hF0 : (refF (s.data.toList, f)).f0 = s ∧ (refF (s.data.toList, f)).f1 = f.f2 ∧ (refF (s.data.toList, f)).f2 = f.f1 ∧ (refF (s.data.toList, f)).f3 = flat f.f3 := ⟨rfl, rfl, rfl, rfl⟩
    obtain ⟨F, hF⟩ : ∃ F, refF (s.data.toList, f) = F := ⟨_, rfl⟩
    obtain ⟨L, hL⟩ : ∃ L, refL D.files = L := ⟨_, rfl⟩
    rw [hF] at hub hul hnow hr hF0
    rw [hL] at hc1 hh hv HL i1
    obtain rfl := hr.at_
    have e0 := hr.name
    have e1 := hr.lasts
    have e2 := hr.sure
    have e3 := hr.units
    have HR := Aside0.mk hr
    have HV := Aside0.mk hv
    have HH := Aside0.mk hh
    have HUB := Aside0.mk hub
    have HUL := Aside0.mk hul
    have HNW := Aside0.mk hnow
    have HLL := Aside0.mk hL
    have HF0 := Aside0.mk hF0
    have p0 := eq_true i0
    have p1 := eq_true i1
    have hl16 : L.length ≤ 1000 := by have := HL.out; omega
    have HLT := Aside0.mk (H.out.lt r H.out.own)
    have HL16 := Aside0.mk hl16
    have hfl : f.f0.length ≤ 262144 := (HI.out.get hg).short
    have hfl1 : f.f1.length ≤ 262144 := hinv.ch.len
    have HFS := Aside0.mk hfl1
    clear hf hv hh hr hub hul hnow hrd hinv hF hL hF0 hl16 hg hfl1
    go_enter Try.func39, Try.ntmps39
    go_wp2_with fail
    refine (rfind_calls s H.out (by rw [HLL.out]; have := HL.out; omega)).mono ?_
    rintro e w1 ⟨rfl, rfl⟩
    rw [HF.out]
    go_wp2_with fail
    refine (rnow HR.out.vs HR.out.vu HUB.out HUL.out (Below.refl _ _)).mono ?_
    rintro e w4 ⟨A6, c6, rfl, hr6, hb6⟩
    rw [HNW.out] at hr6 ⊢
    have HR6 := Aside0.mk hr6
    have HB6 := Aside0.mk hb6
    clear hr6 hb6
    go_wp2_with fail
    go_ret2
    exact ⟨A6, c6, rfl, HR6.out, HB6.out⟩
set_option maxHeartbeats 2000000 in
set_option maxRecDepth 100000 in
theorem rsure_calls {W : World} {R : Nat → Prop} {r N : Nat} {D : Dsk} {s : ByteArray} (h : RefAt W R r D.room (refL D.files)) (hi : DInv N D) (hN : N ≤ 1000000) :
    Calls Try.prog 85 #[.pointer (some ⟨r, 0, none⟩), .string s] W fun e w' => ∃ A c, e = .returned (.tuple #[.slice A (dSure D s).1.length c, .int .i64 (dSure D s).2]) ∧ k8.R 5 w' W.heap.size (fun _ => True) (.slice A (dSure D s).1.length c) (dSure D s).1 ∧ Below W.heap.size W w' := by
  have hll : (refL D.files).length ≤ 16 := by rw [ref_len]; exact hi.few
  have H := Aside0.mk h
  have HI := Aside0.mk hi
  have HL := Aside0.mk hll
  clear h hi hll
  unfold dSure
  cases hg : aget s.data.toList D.files with
  | none =>
    have hf := find_none (i := 0) hg
    have HF := Aside0.mk hf
    clear hf hg
    go_enter Try.func85, Try.ntmps85
    go_wp2_with fail
    refine (rfind_calls s H.out (by have := HL.out; omega)).mono ?_
    rintro e w1 ⟨rfl, rfl⟩
    rw [HF.out]
    go_wp2_with fail
    go_ret2
    exact ⟨none, 0, rfl, Kd.R_nil _ _ _ _ _, Below.refl _ _⟩
  | some f =>
    dsimp only
    obtain ⟨i, hf, i0, i1, hrd⟩ := rd_find hg
    have hinv := HI.out.get hg
    obtain ⟨hub, hul⟩ := hinv.units hN
    have hnow := now_ref hinv
    have HF := Aside0.mk hf
    have hneg : decide (i < 0) = false := decide_eq_false (by omega)
    obtain ⟨A, c, hh, hv⟩ := H.out.cells
    have hc1 : W.cell? ⟨r, 1, none⟩ = some (.slice A (refL D.files).length c) := blk_cell hh 1
    obtain ⟨ad, A2, c2, A3, c3, hr⟩ := filR_of hv i0 i1 hrd
    have hF0 : (refF (s.data.toList, f)).f0 = s ∧ (refF (s.data.toList, f)).f1 = f.f2 ∧ (refF (s.data.toList, f)).f2 = f.f1 ∧ (refF (s.data.toList, f)).f3 = flat f.f3 := ⟨rfl, rfl, rfl, rfl⟩
    obtain ⟨F, hF⟩ : ∃ F, refF (s.data.toList, f) = F := ⟨_, rfl⟩
    obtain ⟨L, hL⟩ : ∃ L, refL D.files = L := ⟨_, rfl⟩
    rw [hF] at hub hul hnow hr hF0
    rw [hL] at hc1 hh hv HL i1
    obtain rfl := hr.at_
    have e0 := hr.name
    have e1 := hr.lasts
    have e2 := hr.sure
    have e3 := hr.units
    have HR := Aside0.mk hr
    have HV := Aside0.mk hv
    have HH := Aside0.mk hh
    have HUB := Aside0.mk hub
    have HUL := Aside0.mk hul
    have HNW := Aside0.mk hnow
    have HLL := Aside0.mk hL
    have HF0 := Aside0.mk hF0
    have p0 := eq_true i0
    have p1 := eq_true i1
    have hl16 : L.length ≤ 1000 := by have := HL.out; omega
    have HLT := Aside0.mk (H.out.lt r H.out.own)
    have HL16 := Aside0.mk hl16
    have hfl : f.f0.length ≤ 262144 := (HI.out.get hg).short
    have hfl1 : f.f1.length ≤ 262144 := hinv.ch.len
    have HFS := Aside0.mk hfl1
    clear hf hv hh hr hub hul hnow hrd hinv hF hL hF0 hl16 hg hfl1
    obtain ⟨g0, g1, g2, g3⟩ := HF0.out
    by_cases hb : f.f2 = true
    · rw [if_pos hb]
      rw [g1, hb] at e1
      have e2' : W.cell? ⟨(ad.add (i.toNat * 4)).block, (ad.add (i.toNat * 4)).off + 2, none⟩ = some (.slice A2 f.f1.length c2) := by rw [e2, g2]
      have hvs := HR.out.vs
      rw [g2] at hvs
      have HVS := Aside0.mk hvs
      have HB := Aside0.mk hb
      clear hvs hb g0 g1 g2 g3 e2
      go_enter Try.func85, Try.ntmps85
      go_wp2_with fail
      refine (rfind_calls s H.out (by rw [HLL.out]; have := HL.out; omega)).mono ?_
      rintro e w1 ⟨rfl, rfl⟩
      rw [HF.out]
      go_wp2_with (first
        | ((with_reducible refine gate_dst (N := 25) rfl ?_); refine Kd.R_lit k8 _ 5 ?hg (N := 25) ?hd (xs := ([] : List Int)) (inner := []) (ok := fun _ => True) (okp := fun _ => True) ?hr ?hp (fun _ hk => hk) trivial (Below.refl _ _) (Nat.le_refl _) (by simp) ?_; (case hd => rfl); (case hg => rfl); (case hr => first | (go_simp; done) | (go_simp; rfl)); (case hp => exact (Reps.none _ _)); intro v5 w5 ho5 hb5 hg_ hnew_; have HO5 := Aside0.mk ho5; have HB5 := Aside0.mk hb5; have q51 := (hb5.cell (World.block_lt_of_cell? W _ hc1)).trans hc1; have q52 := (hb5.cell (World.block_lt_of_cell? W _ e2')).trans e2'; clear hg_ hnew_ ho5 hb5)
        | ((with_reducible refine gate_dst (N := 34) rfl ?_); refine Kd.R_append_rows k8 (w0 := W) W.heap.size (by rfl) (.tmp 25) (.tmp 33) 22 5 (.int .u8 0) 1 (by rfl) Try.underlying22 info5 (by rfl) (by decide) (by decide) _ [] f.f1 A2 f.f1.length c2 (fun _ => True) (fun _ => False) (by rfl) (by rfl) HO5.out (Kd.C_below (Kd.V_reads' HVS.out).2.2 HB5.out) (fun _ _ h => h) (fun _ h => h.elim) (fun _ _ => trivial) HB5.out HB5.out.size (by rw [List.length_nil]; have := HFS.out; omega) ?_; intro v6 w6 hR hb6 hg hat; rw [List.nil_append] at hR; obtain ⟨A6, c6, rfl⟩ := Kd.R_slice hR; have HO6 := Aside0.mk hR; have HB6 := Aside0.mk hb6; clear hR hb6 hg hat q51 q52)
        | fail)
      go_ret2
      exact ⟨A6, c6, rfl, HO6.out, HB6.out⟩
    · rw [if_neg hb]
      have hb' : f.f2 = false := by simpa using hb
      rw [g1, hb'] at e1
      clear hb hb' g0 g1 g2 g3
      go_enter Try.func85, Try.ntmps85
      go_wp2_with fail
      refine (rfind_calls s H.out (by rw [HLL.out]; have := HL.out; omega)).mono ?_
      rintro e w1 ⟨rfl, rfl⟩
      rw [HF.out]
      go_wp2_with fail
      go_ret2
      exact ⟨none, 0, rfl, Kd.R_nil _ _ _ _ _, Below.refl _ _⟩
set_option maxHeartbeats 2000000 in
set_option maxRecDepth 100000 in
theorem rrename_calls {W : World} {R : Nat → Prop} {r N : Nat} {D : Dsk} {s u : ByteArray} (h : RefAt W R r D.room (refL D.files)) (hi : DInv N D) (hN : N ≤ 1000000) (hu : u.size ≤ maxLen) :
    Calls Try.prog 81 #[.pointer (some ⟨r, 0, none⟩), .string s, .string u] W fun e w' => e = .returned (.int .i64 (dRename D s u).1) ∧ Rx W w' R r D.room (refL (dRename D s u).2.files) := by
  have hll : (refL D.files).length ≤ 16 := by rw [ref_len]; exact hi.few
  have H := Aside0.mk h
  have HI := Aside0.mk hi
  have HL := Aside0.mk hll
  clear h hi hll
  unfold dRename
  cases hg : aget s.data.toList D.files with
  | none =>
    have hf := find_none (i := 0) hg
    have HF := Aside0.mk hf
    clear hf hg
    go_enter Try.func81, Try.ntmps81
    go_wp2_with fail
    refine (rfind_calls s H.out (by have := HL.out; omega)).mono ?_
    rintro e w1 ⟨rfl, rfl⟩
    rw [HF.out]
    go_wp2_with fail
    go_ret
    exact ⟨rfl, Rx.still H.out (Below.refl _ _)⟩
  | some f =>
    dsimp only
    obtain ⟨i, hf, i0, i1, hrd⟩ := rd_find hg
    have hinv := HI.out.get hg
    obtain ⟨hub, hul⟩ := hinv.units hN
    have hnow := now_ref hinv
    have HF := Aside0.mk hf
    have hneg : decide (i < 0) = false := decide_eq_false (by omega)
    obtain ⟨A, c, hh, hv⟩ := H.out.cells
    have hc1 : W.cell? ⟨r, 1, none⟩ = some (.slice A (refL D.files).length c) := blk_cell hh 1
    obtain ⟨ad, A2, c2, A3, c3, hr⟩ := filR_of hv i0 i1 hrd
    have hF0 : (refF (s.data.toList, f)).f0 = s ∧ (refF (s.data.toList, f)).f1 = f.f2 ∧ (refF (s.data.toList, f)).f2 = f.f1 ∧ (refF (s.data.toList, f)).f3 = flat f.f3 := ⟨rfl, rfl, rfl, rfl⟩
    have hres0 : putR (refL (adel s.data.toList D.files)) ⟨u, f.f2, f.f1, flat f.f3⟩ = refL (aput u.data.toList f (adel s.data.toList D.files)) := put_aput (n := u.data.toList) (f := f) (adel_srt HI.out.srt)
    have hwl : (refL (adel s.data.toList D.files)).length ≤ 1000 := by rw [ref_len]; have := adel_len (n := s.data.toList) (l := D.files); have := HI.out.few; omega
    have HRES := Aside0.mk hres0
    have HWL := Aside0.mk hwl
    clear hres0 hwl
    obtain ⟨F, hF⟩ : ∃ F, refF (s.data.toList, f) = F := ⟨_, rfl⟩
    obtain ⟨L, hL⟩ : ∃ L, refL D.files = L := ⟨_, rfl⟩
    rw [hF] at hub hul hnow hr hF0
    rw [hL] at hc1 hh hv HL i1
    obtain rfl := hr.at_
    have e0 := hr.name
    have e1 := hr.lasts
    have e2 := hr.sure
    have e3 := hr.units
    have HR := Aside0.mk hr
    have HV := Aside0.mk hv
    have HH := Aside0.mk hh
    have HUB := Aside0.mk hub
    have HUL := Aside0.mk hul
    have HNW := Aside0.mk hnow
    have HLL := Aside0.mk hL
    have HF0 := Aside0.mk hF0
    have p0 := eq_true i0
    have p1 := eq_true i1
    have hl16 : L.length ≤ 1000 := by have := HL.out; omega
    have HLT := Aside0.mk (H.out.lt r H.out.own)
    have HL16 := Aside0.mk hl16
    have hfl : f.f0.length ≤ 262144 := (HI.out.get hg).short
    have hfl1 : f.f1.length ≤ 262144 := hinv.ch.len
    have HFS := Aside0.mk hfl1
    clear hf hv hh hr hub hul hnow hrd hinv hF hL hF0 hl16 hg hfl1
    by_cases hn : namedB u = false
    · rw [if_pos hn]
      have HN := Aside0.mk hn
      clear hn
      go_enter Try.func81, Try.ntmps81
      go_wp2_with fail
      refine (rfind_calls s H.out (by rw [HLL.out]; have := HL.out; omega)).mono ?_
      rintro e w1 ⟨rfl, rfl⟩
      rw [HF.out]
      go_wp2_with fail
      refine (rnamed_calls u hu _).mono ?_
      rintro e w2 ⟨rfl, hdr⟩
      obtain ⟨nq, rfl⟩ := hdr.out
      rw [HN.out]
      go_wp2_with fail
      go_ret
      exact ⟨rfl, Rx.still H.out (pw_below_drewN (Below.refl _ _) _)⟩
    have hn' : namedB u = true := by simpa using hn
    by_cases he : s = u
    · rw [if_neg hn, if_pos he]
      have HN := Aside0.mk hn'
      have hbe : (s.toList == u.toList) = true := by rw [beq_str]; exact decide_eq_true he
      clear hn hn' he
      go_enter Try.func81, Try.ntmps81
      go_wp2_with fail
      refine (rfind_calls s H.out (by rw [HLL.out]; have := HL.out; omega)).mono ?_
      rintro e w1 ⟨rfl, rfl⟩
      rw [HF.out]
      go_wp2_with fail
      refine (rnamed_calls u hu _).mono ?_
      rintro e w2 ⟨rfl, hdr⟩
      obtain ⟨nq, rfl⟩ := hdr.out
      rw [HN.out]
      go_wp2_with fail
      go_ret
      exact ⟨rfl, Rx.still H.out (pw_below_drewN (Below.refl _ _) _)⟩
    · rw [if_neg hn, if_neg he]
      have HN := Aside0.mk hn'
      have hbe : (s.toList == u.toList) = false := by rw [beq_str]; exact decide_eq_false he
      clear hn hn' he
      go_enter Try.func81, Try.ntmps81
      go_wp2_with fail
      refine (rfind_calls s H.out (by rw [HLL.out]; have := HL.out; omega)).mono ?_
      rintro e w1 ⟨rfl, rfl⟩
      rw [HF.out]
      go_wp2_with fail
      refine (rnamed_calls u hu _).mono ?_
      rintro e w2 ⟨rfl, hdr⟩
      have hb2 : Below W.heap.size W w2 := by obtain ⟨nq, rfl⟩ := hdr.out; exact pw_below_drewN (Below.refl _ _) _
      rw [HN.out]
      replace hc1 := (hb2.cell (World.block_lt_of_cell? W _ hc1)).trans hc1
      replace e0 := (hb2.cell (World.block_lt_of_cell? W _ e0)).trans e0
      replace e1 := (hb2.cell (World.block_lt_of_cell? W _ e1)).trans e1
      replace e2 := (hb2.cell (World.block_lt_of_cell? W _ e2)).trans e2
      replace e3 := (hb2.cell (World.block_lt_of_cell? W _ e3)).trans e3
      have HB2 := Aside0.mk hb2
      clear hb2 hdr
      go_wp2_with fail
      obtain ⟨w8, hw8⟩ : ∃ w8, w8 = w2.alloc (.cells #[.string u, .bool F.f1, .slice A2 F.f2.length c2, .slice A3 F.f3.length c3] 144) := ⟨_, rfl⟩
      rw [← hw8]
      have hb8 : Below W.heap.size W w8 := by rw [hw8]; exact below_step HB2.out (below_alloc (Below.refl _ _) _)
      have bk8 : w8.heap[w2.heap.size]? = some (.cells #[.string u, .bool F.f1, .slice A2 F.f2.length c2, .slice A3 F.f3.length c3] 144 (0, 0)) := by rw [hw8]; exact blk_new w2 _
      have k0 : w8.cell? ⟨w2.heap.size, 0, none⟩ = some (.string u) := blk_cell bk8 0
      have k1 : w8.cell? ⟨w2.heap.size, 1, none⟩ = some (.bool F.f1) := blk_cell bk8 1
      have k2 : w8.cell? ⟨w2.heap.size, 2, none⟩ = some (.slice A2 F.f2.length c2) := blk_cell bk8 2
      have k3 : w8.cell? ⟨w2.heap.size, 3, none⟩ = some (.slice A3 F.f3.length c3) := blk_cell bk8 3
      have q8 : w8.cell? ⟨r, 1, none⟩ = some (.slice (some ad) L.length c) := blk_cell ((hb8.block r HLT.out).trans HH.out) 1
      have HB8 := Aside0.mk hb8
      have BK8 := Aside0.mk bk8
      obtain ⟨L', hL'⟩ : ∃ L', woR L s = L' := ⟨_, rfl⟩
      have hll' : refL (adel s.data.toList D.files) = L' := by rw [← wo_del, HLL.out]; exact hL'
      have HLD := Aside0.mk hll'
      have HWD := Aside0.mk hL'
      clear hw8 hb8 bk8 hL' hll' hc1 e0 e1 e2 e3
      go_region_law (first
        | (go_simp; go_at_call 107; refine (tollgateref05_without.calls _ _ (some ad) c L s _ _ (Kd.V_map (Kd.V_below HV.out (below_step HB8.out (below_drew1 (Below.refl _ _)))) (fun _ h => h)) (without_f _ s HL16.out)).mono ?_; rintro e w9 ⟨v9, rfl, hn9, hb9⟩; rw [HWD.out] at hn9; have hB9 := below_step (below_drew1 (Below.refl w8.heap.size w8)) hb9; have bk9 := (hB9.block w2.heap.size (blk_lt BK8.out)).trans BK8.out; have m0 : w9.cell? ⟨w2.heap.size, 0, none⟩ = some (.string u) := blk_cell bk9 0; have m1 : w9.cell? ⟨w2.heap.size, 1, none⟩ = some (.bool F.f1) := blk_cell bk9 1; have m2 : w9.cell? ⟨w2.heap.size, 2, none⟩ = some (.slice A2 F.f2.length c2) := blk_cell bk9 2; have m3 : w9.cell? ⟨w2.heap.size, 3, none⟩ = some (.slice A3 F.f3.length c3) := blk_cell bk9 3; have q9 : w9.cell? ⟨r, 1, none⟩ = some (.slice (some ad) L.length c) := blk_cell (((below_step HB8.out hB9).block r HLT.out).trans HH.out) 1; obtain ⟨A9, c9, rfl⟩ := Kd.V_slice (Kd.N_V hn9 (base' := 0)); have HV9 := Aside0.mk (Kd.N_V hn9 (base' := 0)); have HB9 := Aside0.mk (below_step HB8.out hB9); clear hn9 hb9 hB9 bk9)
        | (go_simp; go_at_call 106; refine (rput (f := ⟨u, F.f1, F.f2, F.f3⟩) (P := fun k => R k ∧ k ≠ r) HV9.out (by rw [← HLD.out]; exact HWL.out) (Below.refl _ _) (Kd.V_below HR.out.vs HB9.out) (Kd.V_below HR.out.vu HB9.out)).mono ?_; rintro e w10 ⟨A10, c10, rfl, hv10, hb10⟩; have hB10 := below_step HB9.out hb10; have hq10 := (hB10.block r HLT.out).trans HH.out; have q10 : w10.cell? ⟨r, 1, none⟩ = some (.slice (some ad) L.length c) := blk_cell hq10 1; have f10 := blk_frozen hq10 1; have HB10 := Aside0.mk hB10; have HV10 := Aside0.mk hv10; clear hB10 hq10 hv10 hb10)
        | fail)
      all_goals
        go_wp2_with fail
        go_ret
        exact ⟨rfl, by
          show Rx W _ R r D.room (refL (aput u.data.toList f (adel s.data.toList D.files)))
          rw [← HRES.out]
          obtain ⟨g0, g1, g2, g3⟩ := HF0.out
          rw [← g1, ← g2, ← g3, HLD.out]
          exact Rx.set H.out HB10.out (Kd.V_mono HV10.out (fun k hk => by
            have h8 := HB8.out.size
            have h9 := HB9.out.size
            rcases hk with ((h | h) | h) | h
            · exact .inl h
            · have h' : w8.heap.size ≤ k := h
              exact .inr (by omega)
            · exact .inl h
            · exact .inr (by omega)))⟩
end Go.Proofs.Ytmmiipnmimjojaa.PS
end
section
namespace Go.Proofs.Ytmmiipnmimjojaa.PS
open Go.RowKit Go.Proofs.YtmmiipnmimjojaaW.PrintWords Go.Proofs.YtmmiipnmimjojaaW.PrintLast Go.Proofs.YtmmiipnmimjojaaW.PrintMore
open Go.Maps Go.Proofs.Ytmmiipnmimjojaa.PD
set_option linter.unusedVariables false
set_option linter.unusedSimpArgs false
theorem inf9 : (Try.prog.info? 9).map (fun i => (i.zero, i.size, i.bytes)) = some (some (.string ByteArray.empty), 1, 16) := by kernel_rfl
theorem names_len (l : List (Nm × Fil)) : (namesB l).length = l.length := by simp [namesB]
theorem name_at {l : List (Nm × Fil)} {i : Int} (h0 : 0 ≤ i) (h1 : i < ((refL l).length : Int)) : (namesB l).take (i + 1).toNat = (namesB l).take i.toNat ++ [(rd_T144 (refL l) i).f0] := by
  rw [ref_len] at h1
  have hl := names_len l
  rw [show (i + 1).toNat = i.toNat + 1 by omega, List.take_succ_eq_append_getElem (by omega)]
  congr 2
  unfold rd_T144
  rw [List.getD_eq_getElem?_getD, ref_get (p := l[i.toNat]'(by omega)) (List.getElem?_eq_getElem (by omega))]
  simp [namesB]
  rfl
set_option maxHeartbeats 1000000 in
set_option maxRecDepth 100000 in
theorem rnames_calls {W : World} {R : Nat → Prop} {r N : Nat} {D : Dsk} (h : RefAt W R r D.room (refL D.files)) (hi : DInv N D) :
    Calls Try.prog 83 #[.pointer (some ⟨r, 0, none⟩)] W fun e w' => ∃ A c, e = .returned (.slice A (namesB D.files).length c) ∧ Kd.R Kd.string 9 w' W.heap.size (fun _ => True) (.slice A (namesB D.files).length c) (namesB D.files) ∧ Below W.heap.size W w' := by
  have hll : (refL D.files).length ≤ 16 := by rw [ref_len]; exact hi.few
  obtain ⟨A, c, hh, hv⟩ := h.cells
  have hc1 : W.cell? ⟨r, 1, none⟩ = some (.slice A (refL D.files).length c) := blk_cell hh 1
  have hnl : (namesB D.files).length = (refL D.files).length := by rw [names_len, ref_len]
  have hnm := fun i h0 h1 => name_at (l := D.files) (i := i) h0 h1
  have HV := Aside0.mk hv
  have HH := Aside0.mk hh
  have HLT := Aside0.mk (h.lt r h.own)
  have HNL := Aside0.mk hnl
  have HNM := Aside0.mk hnm
  clear h hi hv hh hnl hnm
  obtain ⟨NL, hN⟩ : ∃ NL, namesB D.files = NL := ⟨_, rfl⟩
  obtain ⟨L, hL⟩ : ∃ L, refL D.files = L := ⟨_, rfl⟩
  rw [hN, hL] at HNL HNM
  rw [hN]
  rw [hL] at HV HH hc1 hll
  clear hN hL
  go_enter Try.func83, Try.ntmps83
  go_wp2_with (first
    | ((with_reducible refine gate_dst (N := 5) rfl ?_); refine Kd.R_lit Kd.string _ 9 ?hg (N := 5) ?hd (xs := ([] : List ByteArray)) (inner := []) (ok := fun _ => True) (okp := fun _ => True) ?hr ?hp (fun _ hk => hk) trivial (Below.refl _ _) (Nat.le_refl _) (by simp) ?_; (case hd => rfl); (case hg => rfl); (case hr => first | (go_simp; done) | (go_simp; rfl)); (case hp => exact (Reps.none _ _)); intro v5 w5 ho5 hb5 hg_ hnew_; have HO5 := Aside0.mk ho5; have HB5 := Aside0.mk hb5; clear hg_ hnew_ ho5 hb5)
    | fail)
  go_loopg [3, 4] L.length (fun kq v3 v4 w' => ∃ i : Int, v4 = .int .i64 i ∧ 0 ≤ i ∧ i + kq = L.length ∧ Aside0 (Kd.R Kd.string 9 w' W.heap.size (fun _ => True) v3 (NL.take i.toNat)) ∧ Aside0 (Below W.heap.size W w'))
  case atStart => exact ⟨0, rfl, by omega, by omega, HO5, HB5⟩
  case round =>
    clear HO5 HB5
    obtain ⟨i, rfl, i0, i1, HR, HB⟩ := hrel
    replace hc1 := (HB.out.cell (World.block_lt_of_cell? W _ hc1)).trans hc1
    by_cases hi : i < (L.length : Int)
    · have c6 : decide (i < (L.length : Int)) = true := decide_eq_true hi
      obtain ⟨f, hf⟩ : ∃ f, rd_T144 L i = f := ⟨_, rfl⟩
      obtain ⟨ad, A2, c2, A3, c3, hr⟩ := filR_of (Kd.V_below HV.out HB.out) i0 hi hf
      obtain rfl := hr.at_
      have hx0 := hr.name
      have hst := HNM.out i i0 hi
      rw [hf] at hst
      have hlen : (NL.take i.toNat).length ≤ 16 := by rw [List.length_take]; omega
      obtain ⟨T, hT⟩ : ∃ T, NL.take i.toNat = T := ⟨_, rfl⟩
      rw [hT] at hst HR hlen
      have p0 := eq_true i0
      have p1 := eq_true hi
      have hni : IntKind.i64.wrap (i + 1) = i + 1 := IntWalk.i64_in _ ⟨by omega, by omega⟩
      have HST := Aside0.mk hst
      have HLE := Aside0.mk hlen
      clear hst hr hf hT hlen
      go_wp2_with ((with_reducible refine gate_builtin (b := .append) (xs := #[.tmp 19, .tmp 28]) rfl ?_); at_builtin; refine Kd.R_append Kd.string (w0 := W) W.heap.size rfl (.tmp 19) (.tmp 28) 36 9 (.string ByteArray.empty) 16 rfl Try.underlying36 inf9 rfl (by decide) (by omega) u3 T f.f0 [.string f.f0] (fun _ => True) (fun _ => False) rfl rfl ?aP (fun _ hk => hk.elim) (fun _ _ => trivial) HR.out HB.out HB.out.size ?aL ?_; (case aP => exact rfl); (case aL => have := HLE.out; omega); intro v4 w4 ho hb hg hat; have HO4 := Aside0.mk ho; have HW4 := Aside0.mk hb; clear ho hb hg hat)
      go_roundg (gk - 1)
      case measure => omega
      case rel => exact ⟨i + 1, rfl, by omega, by omega, ⟨by rw [HST.out]; exact HO4.out⟩, HW4⟩
    · have c6 : decide (i < (L.length : Int)) = false := decide_eq_false hi
      have hfull : NL.take i.toNat = NL := List.take_of_length_le (by have := HNL.out; omega)
      rw [hfull] at HR
      obtain ⟨A3, c3, rfl⟩ := Kd.R_slice HR.out
      clear hfull
      go_wp2_with fail
      go_ret
      exact ⟨A3, c3, rfl, HR.out, HB.out⟩
theorem usedR_take (L : List S144) {i : Int} (h0 : 0 ≤ i) (h1 : i < (L.length : Int)) : usedR (L.take (i + 1).toNat) = usedR (L.take i.toNat) + (nowR (rd_T144 L i)).length := by
  rw [show (i + 1).toNat = i.toNat + 1 by omega, List.take_succ_eq_append_getElem (by omega)]
  have : rd_T144 L i = L[i.toNat]'(by omega) := by
    unfold rd_T144
    rw [List.getD_eq_getElem?_getD, List.getElem?_eq_getElem (by omega)]
    rfl
  rw [this]
  unfold usedR
  rw [List.map_append, List.sum_append]
  simp
set_option maxHeartbeats 1000000 in
set_option maxRecDepth 100000 in
theorem rused_calls {W : World} {R : Nat → Prop} {r N : Nat} {D : Dsk} (h : RefAt W R r D.room (refL D.files)) (hi : DInv N D) (hN : N ≤ 1000000) :
    Calls Try.prog 84 #[.pointer (some ⟨r, 0, none⟩)] W fun e w' => e = .returned (.int .i64 (usedB D.files)) ∧ Below W.heap.size W w' := by
  have hll : (refL D.files).length ≤ 16 := by rw [ref_len]; exact hi.few
  obtain ⟨A, c, hh, hv⟩ := h.cells
  have hc1 : W.cell? ⟨r, 1, none⟩ = some (.slice A (refL D.files).length c) := blk_cell hh 1
  have hus := used_ref hi.files
  have hall : ∀ i, 0 ≤ i → i < ((refL D.files).length : Int) → (UB 262144 (rd_T144 (refL D.files) i).f3 (rd_T144 (refL D.files) i).f2 ∧ (rd_T144 (refL D.files) i).f3.length ≤ 1000000000000) ∧ (nowR (rd_T144 (refL D.files) i)).length ≤ 262144 := by
    intro i h0 h1
    rw [ref_len] at h1
    have hg : D.files[i.toNat]? = some (D.files[i.toNat]'(by omega)) := List.getElem?_eq_getElem (by omega)
    have hrd : rd_T144 (refL D.files) i = refF (D.files[i.toNat]'(by omega)) := by
      unfold rd_T144
      rw [List.getD_eq_getElem?_getD, ref_get hg]
      rfl
    have hm : (D.files[i.toNat]'(by omega)) ∈ D.files := List.getElem_mem _
    have hf := hi.files (D.files[i.toNat]'(by omega)).1 (D.files[i.toNat]'(by omega)).2 hm
    rw [hrd]
    exact ⟨hf.units hN, by rw [show refF (D.files[i.toNat]'(by omega)) = refF ((D.files[i.toNat]'(by omega)).1, (D.files[i.toNat]'(by omega)).2) from rfl, now_ref hf]; exact hf.short⟩
  have HV := Aside0.mk hv
  have HH := Aside0.mk hh
  have HALL := Aside0.mk hall
  rw [← hus]
  clear h hi hv hh hus hall
  obtain ⟨L, hL⟩ : ∃ L, refL D.files = L := ⟨_, rfl⟩
  rw [hL] at HV HH hc1 hll HALL
  rw [hL]
  obtain ⟨U, hU⟩ : ∃ U, usedR L = U := ⟨_, rfl⟩
  rw [hU]
  have HUU := Aside0.mk hU
  clear hL hU
  go_enter Try.func84, Try.ntmps84
  go_wp2_with fail
  go_loopg [3, 4] L.length (fun kq v3 v4 w' => ∃ (i : Int) (n : Nat), v4 = .int .i64 i ∧ 0 ≤ i ∧ i + kq = L.length ∧ v3 = .int .i64 n ∧ Aside0 (usedR (L.take i.toNat) = n) ∧ (n : Int) ≤ i * 262144 ∧ Aside0 (Below W.heap.size W w'))
  case atStart => exact ⟨0, 0, rfl, by omega, by omega, rfl, ⟨rfl⟩, by omega, ⟨Below.refl _ _⟩⟩
  case round =>
    obtain ⟨i, n, rfl, i0, i1, rfl, HU, hn, HB⟩ := hrel
    replace hc1 := (HB.out.cell (World.block_lt_of_cell? W _ hc1)).trans hc1
    by_cases hi : i < (L.length : Int)
    · have c6 : decide (i < (L.length : Int)) = true := decide_eq_true hi
      obtain ⟨⟨hub, hul⟩, hsh⟩ := HALL.out i i0 hi
      have hst := usedR_take L i0 hi
      obtain ⟨f, hf⟩ : ∃ f, rd_T144 L i = f := ⟨_, rfl⟩
      obtain ⟨ad, A2, c2, A3, c3, hr⟩ := filR_of (Kd.V_below HV.out HB.out) i0 hi hf
      obtain rfl := hr.at_
      rw [hf] at hst hub hul hsh
      rw [HU.out] at hst
      have e0 := hr.name
      have e1 := hr.lasts
      have e2 := hr.sure
      have e3 := hr.units
      obtain ⟨m, hm⟩ : ∃ m, (nowR f).length = m := ⟨_, rfl⟩
      rw [hm] at hst hsh
      have p0 := eq_true i0
      have p1 := eq_true hi
      have hni : IntKind.i64.wrap (i + 1) = i + 1 := IntWalk.i64_in _ ⟨by omega, by omega⟩
      have hnn : IntKind.i64.wrap ((n : Int) + m) = (n : Int) + m := IntWalk.i64_in _ ⟨by omega, by omega⟩
      have HST := Aside0.mk hst
      have HM := Aside0.mk hm
      have HRR := Aside0.mk hr
      have HUB := Aside0.mk hub
      have HUL := Aside0.mk hul
      clear hst hr hf hm hub hul
      go_wp2_with fail
      refine (rnow HRR.out.vs HRR.out.vu HUB.out HUL.out (Below.refl _ _)).mono ?_
      rintro e w4 ⟨A6, c6', rfl, hr6, hb6⟩
      rw [HM.out]
      have HB6 := Aside0.mk (below_step HB.out hb6)
      clear hr6 hb6
      go_wp2_with fail
      go_roundg (gk - 1)
      case measure => omega
      case rel => exact ⟨i + 1, n + m, rfl, by omega, by omega, by go_num, HST, by omega, HB6⟩
    · have c6 : decide (i < (L.length : Int)) = false := decide_eq_false hi
      have hfull : L.take i.toNat = L := List.take_of_length_le (by omega)
      rw [hfull] at HU
      obtain rfl : U = n := HUU.out.symm.trans HU.out
      clear hfull
      go_wp2_with fail
      go_ret
      exact ⟨rfl, HB.out⟩
def NewR (z : Int) (W : World) (e : Ending) (w' : World) : Prop := ∃ r R, e = .returned (.pointer (some ⟨r, 0, none⟩)) ∧ RefAt w' R r (max 0 z) (refL []) ∧ Below W.heap.size W w' ∧ ∀ k, R k → W.heap.size ≤ k
set_option maxRecDepth 100000 in
theorem rnew_calls (z : Int) (W : World) : Calls Try.prog 36 #[.int .i64 z] W fun e w' => NewR z W e w' := by
  have key : ∀ y : Int, ∃ R, RefAt (W.alloc (.cells #[.int .i64 y, .slice none 0 0] 140)) R W.heap.size y (refL []) ∧ ∀ k, R k → W.heap.size ≤ k := fun y =>
    ⟨fun k => k = W.heap.size, ⟨rfl, fun k hk => by rw [hk]; show _ < (W.heap.push _).size; simp, none, 0, blk_new W _, Kd.V_nil _ _ _ _ _⟩, fun k hk => by omega⟩
  have KEY := Aside0.mk key
  clear key
  by_cases hz : z < 0
  · have cz : decide (z < 0) = true := decide_eq_true hz
    go_enter Try.func36, Try.ntmps36
    go_wp2_with fail
    go_ret
    obtain ⟨R, h1, h2⟩ := KEY.out 0
    exact ⟨_, R, rfl, by rw [show max 0 z = 0 by omega]; exact h1, below_alloc (Below.refl _ _) _, h2⟩
  · have cz : decide (z < 0) = false := decide_eq_false hz
    go_enter Try.func36, Try.ntmps36
    go_wp2_with fail
    go_ret
    obtain ⟨R, h1, h2⟩ := KEY.out z
    exact ⟨_, R, rfl, by rw [show max 0 z = z by omega]; exact h1, below_alloc (Below.refl _ _) _, h2⟩
end Go.Proofs.Ytmmiipnmimjojaa.PS
end
section
namespace Go.Proofs.Ytmmiipnmimjojaa.PS
open Go.RowKit Go.Proofs.YtmmiipnmimjojaaW.PrintWords Go.Proofs.YtmmiipnmimjojaaW.PrintLast Go.Proofs.YtmmiipnmimjojaaW.PrintMore
open Go.Maps Go.Proofs.Ytmmiipnmimjojaa.PD
set_option linter.unusedVariables false
set_option linter.unusedSimpArgs false
/-- The file that is written, in block b. -/
structure WrA (W w' : World) (R : Nat → Prop) (r b : Nat) (F : S144) (A2 : Option Addr) (c2 : Nat) (A3 : Option Addr) (c3 : Nat) : Prop where
  below : Below W.heap.size W w'
  bk : w'.heap[b]? = some (.cells #[.string F.f0, .bool F.f1, .slice A2 F.f2.length c2, .slice A3 F.f3.length c3] 144 (0, 0))
  nb : W.heap.size ≤ b
  vs : Kd.V (Kd.int .u8) 5 w' 0 (fun k => R k ∧ k ≠ r) (.slice A2 F.f2.length c2) F.f2
  vu : Kd.V k166 166 w' 0 (fun k => R k ∧ k ≠ r) (.slice A3 F.f3.length c3) F.f3
theorem WrA.step {W w' w2 : World} {R : Nat → Prop} {r b : Nat} {F : S144} {A2 A3 : Option Addr} {c2 c3 : Nat} (h : WrA W w' R r b F A2 c2 A3 c3) (hb : Below w'.heap.size w' w2) : WrA W w2 R r b F A2 c2 A3 c3 :=
  ⟨below_step h.below hb, (hb.block b (blk_lt h.bk)).trans h.bk, h.nb, Kd.V_below h.vs hb, Kd.V_below h.vu hb⟩
theorem wU_snoc (a : Int) (b : List Int) {j : Int} (h0 : 0 ≤ j) (h1 : j < (b.length : Int)) {x : Int} (hx : b.getD j.toNat 0 = x) : wU a (b.take (j + 1).toNat) = wU a (b.take j.toNat) ++ [⟨false, a + j, x⟩] := by
  rw [show (j + 1).toNat = j.toNat + 1 by omega, List.take_succ_eq_append_getElem (by omega), wU_append]
  rw [List.getD_eq_getElem?_getD, List.getElem?_eq_getElem (by omega)] at hx
  simp at hx
  rw [hx]
  rw [show a + ((b.take j.toNat).length : Int) = a + j by rw [List.length_take]; omega]
  rfl
/-- The file that Write begins with. -/
theorem wfile {N : Nat} {D : Dsk} (h : DInv N D) (hN : N ≤ 1000000) (s : ByteArray) (hn : namedB s = true) : ∃ f, (aget s.data.toList D.files).getD z110 = f ∧ FInv N s.data.toList f := by
  cases hg : aget s.data.toList D.files with
  | none => exact ⟨_, rfl, inv_empty hn⟩
  | some g => exact ⟨_, rfl, h.get hg⟩
set_option maxHeartbeats 4000000 in
set_option maxRecDepth 100000 in
theorem rwrite_calls {W : World} {R : Nat → Prop} {r N : Nat} {D : Dsk} {s : ByteArray} {at_ : Int} {A : Option Addr} {c : Nat} {b : List Int} (h : RefAt W R r D.room (refL D.files)) (hi : DInv N D) (hN : N ≤ 1000000) (hs : s.size ≤ maxLen)
    (hA : k8.C W A b.length b) (hc : b.length ≤ c) (hb : b.length ≤ 140737488355328) (ha : -9223372036854775808 ≤ at_ ∧ at_ ≤ 9223372036854775807) (hbl : b.length ≤ 4000) :
    Calls Try.prog 78 #[.pointer (some ⟨r, 0, none⟩), .string s, .int .i64 at_, .slice A b.length c] W fun e w' => e = .returned (.int .i64 (dWrite D s at_ b).1) ∧ Rx W w' R r D.room (refL (dWrite D s at_ b).2.files) := by
  have hll : (refL D.files).length ≤ 16 := by rw [ref_len]; exact hi.few
  have H := Aside0.mk h
  have HI := Aside0.mk hi
  have HL := Aside0.mk hll
  have HA := Aside0.mk hA
  clear h hi hll hA
  obtain ⟨X, hX⟩ : ∃ X, dWrite D s at_ b = X := ⟨_, rfl⟩
  rw [hX]
  have HX := Aside0.mk hX
  clear hX
  by_cases hn : namedB s = false
  · have hx2 : X = (14, D) := by rw [← HX.out]; unfold dWrite; rw [if_pos hn]
    have HX2 := Aside0.mk hx2
    have HN := Aside0.mk hn
    clear hn hx2
    go_enter Try.func78, Try.ntmps78
    go_wp2_with fail
    refine (rnamed_calls s hs _).mono ?_
    rintro e w2 ⟨rfl, hdr⟩
    obtain ⟨nq, rfl⟩ := hdr.out
    rw [HN.out]
    go_wp2_with fail
    go_ret
    exact ⟨by rw [HX2.out]; rfl, by rw [HX2.out]; exact Rx.still H.out (pw_below_drewN (Below.refl _ _) _)⟩
  replace hn : namedB s = true := by simpa using hn
  obtain ⟨f, hf, hinv⟩ := wfile HI.out hN s hn
  obtain ⟨hub, hul⟩ := hinv.units hN
  have hnow := now_ref hinv
  have hfl : f.f0.length ≤ 262144 := hinv.short
  have hX1 : X = dW2 D s (aget s.data.toList D.files).isSome f at_ b := by rw [← HX.out]; unfold dWrite; rw [if_neg (by rw [hn]; decide), hf]
  obtain ⟨F, hF⟩ : ∃ F, refF (s.data.toList, f) = F := ⟨_, rfl⟩
  have hF0 : F.f0 = s ∧ F.f1 = f.f2 ∧ F.f2 = f.f1 ∧ F.f3 = flat f.f3 := by rw [← hF]; exact ⟨rfl, rfl, rfl, rfl⟩
  rw [hF] at hub hul hnow
  obtain ⟨Al, cl, hh, hv⟩ := H.out.cells
  have hc1 : W.cell? ⟨r, 1, none⟩ = some (.slice Al (refL D.files).length cl) := blk_cell hh 1
  have hc0 : W.cell? ⟨r, 0, none⟩ = some (.int .i64 D.room) := blk_cell hh 0
  have HV := Aside0.mk hv
  have HH := Aside0.mk hh
  have HN := Aside0.mk hn
  have HX1 := Aside0.mk hX1
  have HUB := Aside0.mk hub
  have HUL := Aside0.mk hul
  have HNW := Aside0.mk hnow
  have HF0 := Aside0.mk hF0
  have HFF := Aside0.mk hf
  have HFR := Aside0.mk hF
  have HLT := Aside0.mk (H.out.lt r H.out.own)
  clear hv hh hn hX1 hub hul hnow hF0 hf hF hinv HX
  go_enter Try.func78, Try.ntmps78
  go_wp2_with fail
  refine (rnamed_calls s hs _).mono ?_
  rintro e w2 ⟨rfl, hdr⟩
  have hb2 : Below W.heap.size W w2 := by obtain ⟨nq, rfl⟩ := hdr.out; exact pw_below_drewN (Below.refl _ _) _
  have HB2 := Aside0.mk hb2
  rw [HN.out]
  clear hb2 hdr
  go_wp2_with fail
  refine (rfind_calls s (H.out.below HB2.out) (by have := HL.out; omega)).mono ?_
  rintro e w3 ⟨rfl, rfl⟩
  obtain ⟨i0v, hi0v⟩ : ∃ z, findR s (refL D.files) 0 = z := ⟨_, rfl⟩
  rw [hi0v]
  have HI0V := Aside0.mk hi0v
  clear hi0v
  go_upto_if 26 with (fail)
  go_cut [9, 10] (fun v9 v10 w' => ∃ (i : Int) (bb : Nat) (A2 : Option Addr) (c2 : Nat) (A3 : Option Addr) (c3 : Nat), v9 = .int .i64 i ∧ v10 = .pointer (some ⟨bb, 0, none⟩) ∧ Aside0 (decide (i < 0) = !(aget s.data.toList D.files).isSome) ∧ Aside0 (WrA W w' R r bb F A2 c2 A3 c3))
  case first =>
    cases hg : aget s.data.toList D.files with
    | none =>
      have hi := find_none (i := 0) hg
      obtain rfl : -1 = i0v := hi.symm.trans HI0V.out
      have hFe : F = ⟨s, false, [], []⟩ := by
        rw [← HFR.out, ← HFF.out, hg]
        rfl
      have HFE := Aside0.mk hFe
      have HBN := Aside0.mk (blk_new w2 (.cells #[.string s, .bool false, .slice none 0 0, .slice none 0 0] 144 (0, 0)))
      have HG := Aside0.mk hg
      clear hi hFe hg
      go_wp2_with fail
      go_meet
      case rel => exact ⟨-1, w2.heap.size, none, 0, none, 0, rfl, rfl, ⟨by rw [HG.out]; rfl⟩, ⟨by rw [HFE.out]; exact ⟨below_step HB2.out (below_alloc (Below.refl _ _) _), HBN.out, HB2.out.size, Kd.V_nil _ _ _ _ _, Kd.V_nil _ _ _ _ _⟩⟩⟩
    | some g =>
      obtain ⟨i, hi, i0, i1, hrd⟩ := rd_find hg
      obtain rfl : i = i0v := hi.symm.trans HI0V.out
      have hgf : refF (s.data.toList, g) = F := by
        rw [← HFR.out, ← HFF.out, hg]
        rfl
      rw [hgf] at hrd
      obtain ⟨ad, A2, c2, A3, c3, hr⟩ := filR_of HV.out i0 i1 hrd
      obtain rfl := hr.at_
      have hbA : Below W.heap.size W (w2.alloc (.cells #[.string s, .bool false, .slice none 0 0, .slice none 0 0] 144)) := below_step HB2.out (below_alloc (Below.refl _ _) _)
      have e0 := (hbA.cell (World.block_lt_of_cell? W _ hr.name)).trans hr.name
      have e1 := (hbA.cell (World.block_lt_of_cell? W _ hr.lasts)).trans hr.lasts
      have e2 := (hbA.cell (World.block_lt_of_cell? W _ hr.sure)).trans hr.sure
      have e3 := (hbA.cell (World.block_lt_of_cell? W _ hr.units)).trans hr.units
      have hc2 := (hbA.cell (World.block_lt_of_cell? W _ hc1)).trans hc1
      have cg : decide (i ≥ 0) = true := decide_eq_true i0
      have p0 := eq_true i0
      have p1 := eq_true i1
      have HBN := Aside0.mk (blk_new w2 (.cells #[.string F.f0, .bool F.f1, .slice A2 F.f2.length c2, .slice A3 F.f3.length c3] 144 (0, 0)))
      have HR := Aside0.mk hr
      have HG := Aside0.mk hg
      have HD := Aside0.mk (show decide (i < 0) = false from decide_eq_false (by omega))
      clear hr hrd hgf hi hg hbA
      go_wp2_with fail
      go_meet
      case rel => exact ⟨i, w2.heap.size, A2, c2, A3, c3, rfl, rfl, ⟨by rw [HG.out, HD.out]; rfl⟩, ⟨⟨below_step HB2.out (below_alloc (Below.refl _ _) _), HBN.out, HB2.out.size, Kd.V_below HR.out.vs (below_step HB2.out (below_alloc (Below.refl _ _) _)), Kd.V_below HR.out.vu (below_step HB2.out (below_alloc (Below.refl _ _) _))⟩⟩⟩
  case rest =>
    obtain ⟨i, bb, A2, c2, A3, c3, rfl, rfl, HI0, HW⟩ := hcut
    clear hc1 hc0
    have k0 : wc.cell? ⟨bb, 0, none⟩ = some (.string F.f0) := blk_cell HW.out.bk 0
    have k1 : wc.cell? ⟨bb, 1, none⟩ = some (.bool F.f1) := blk_cell HW.out.bk 1
    have k2 : wc.cell? ⟨bb, 2, none⟩ = some (.slice A2 F.f2.length c2) := blk_cell HW.out.bk 2
    have k3 : wc.cell? ⟨bb, 3, none⟩ = some (.slice A3 F.f3.length c3) := blk_cell HW.out.bk 3
    go_wp2_with fail
    refine (rnow (W := wc) HW.out.vs HW.out.vu HUB.out HUL.out (Below.refl _ _)).mono ?_
    rintro e w4 ⟨A6, c6, rfl, hr6, hb6⟩
    rw [HNW.out]
    have HW4 := Aside0.mk (HW.out.step hb6)
    clear hr6 hb6 k0 k1 k2 k3 HW
    by_cases hbad : at_ < 0 ∨ (f.f0.length : Int) < at_
    · have hx2 : X = (2, D) := by rw [HX1.out]; unfold dW2; rw [if_pos hbad]
      have HX2 := Aside0.mk hx2
      clear hx2
      by_cases hz : at_ < 0
      · have cz : decide (at_ < 0) = true := decide_eq_true hz
        clear hbad
        go_wp2_with fail
        go_ret
        exact ⟨by rw [HX2.out]; rfl, by rw [HX2.out]; exact Rx.still H.out HW4.out.below⟩
      · have cz : decide (at_ < 0) = false := decide_eq_false hz
        have cz2 : decide (at_ > (f.f0.length : Int)) = true := decide_eq_true (by omega)
        clear hbad
        go_wp2_with fail
        go_ret
        exact ⟨by rw [HX2.out]; rfl, by rw [HX2.out]; exact Rx.still H.out HW4.out.below⟩
    have cz : decide (at_ < 0) = false := decide_eq_false (by omega)
    have cz2 : decide (at_ > (f.f0.length : Int)) = false := decide_eq_false (by omega)
    have hsum : IntKind.i64.wrap (at_ + (b.length : Int)) = at_ + b.length := IntWalk.i64_in _ ⟨by omega, by omega⟩
    obtain ⟨E, hE⟩ : ∃ E : Int, (f.f0.length : Int) + moreB f at_ b = E := ⟨_, rfl⟩
    have hE2 : E = if at_ + b.length > f.f0.length then at_ + b.length else f.f0.length := by
      rw [← hE]
      unfold moreB
      split <;> omega
    have HE := Aside0.mk hE
    have HE2 := Aside0.mk hE2
    have HBAD := Aside0.mk hbad
    clear hE hE2 hbad
    go_upto_if 50 with (fail)
    go_cut [12] (fun v12 w' => v12 = .int .i64 E ∧ w4 = w')
    case first =>
      go_wp2_with fail
      all_goals
        go_meet
        case rel => exact ⟨by rw [HE2.out]; first | rw [if_pos (by omega)] | rw [if_neg (by omega)], rfl⟩
    case rest =>
      obtain ⟨rfl, rfl⟩ := hcut
      obtain ⟨lim, hlim⟩ : ∃ lim : Bool, decide (((aget s.data.toList D.files).isSome = false ∧ 16 ≤ D.files.length) ∨ 262144 < E) = lim := ⟨_, rfl⟩
      have HLIM := Aside0.mk hlim
      have q4 : w4.cell? ⟨r, 1, none⟩ = some (.slice Al (refL D.files).length cl) := blk_cell ((HW4.out.below.block r HLT.out).trans HH.out) 1
      have hrl := ref_len D.files
      have HRL := Aside0.mk hrl
      clear hlim hrl
      go_upto_region 15 with (fail)
      go_cut [68] (fun v68 w' => v68 = .bool lim ∧ w4 = w')
      case first =>
        have hI0 := HI0.out
        have hlm := HLIM.out
        cases hsm : (aget s.data.toList D.files).isSome with
        | true =>
          rw [hsm] at hI0 hlm
          have cE : decide (E > 262144) = lim := by rw [← hlm]; simp
          clear hlm hsm
          go_wp2_with fail
          go_meet
          case rel => exact ⟨rfl, rfl⟩
        | false =>
          rw [hsm] at hI0 hlm
          by_cases h16 : (refL D.files).length ≥ 16
          · have c16 : decide (((refL D.files).length : Int) ≥ 16) = true := decide_eq_true (by omega)
            have hl1 : lim = true := by rw [← hlm]; exact decide_eq_true (.inl ⟨rfl, by rw [HRL.out] at h16; exact h16⟩)
            clear hlm hsm h16
            go_wp2_with fail
            go_meet
            case rel => exact ⟨by rw [hl1], rfl⟩
          · have c16 : decide (((refL D.files).length : Int) ≥ 16) = false := decide_eq_false (by omega)
            have cE : decide (E > 262144) = lim := by
              rw [← hlm]
              rw [HRL.out] at h16
              simp [h16]
            clear hlm hsm h16
            go_wp2_with fail
            go_meet
            case rel => exact ⟨rfl, rfl⟩
      case rest =>
        obtain ⟨rfl, rfl⟩ := hcut
        cases lim with
        | true =>
          have hx2 : X = (6, D) := by rw [HX1.out]; unfold dW2; rw [if_neg HBAD.out, HE.out, if_pos (of_decide_eq_true HLIM.out)]
          have HX2 := Aside0.mk hx2
          clear hx2
          go_wp2_with fail
          go_ret
          exact ⟨by rw [HX2.out]; rfl, by rw [HX2.out]; exact Rx.still H.out HW4.out.below⟩
        | false =>
          have hnl := of_decide_eq_false HLIM.out
          have hE3 : 0 ≤ E ∧ E ≤ 262144 := by
            have h1 := HE2.out
            refine ⟨by split at h1 <;> omega, ?_⟩
            by_cases h : 262144 < E
            · exact absurd (.inr h) hnl
            · omega
          obtain ⟨E0, E1⟩ := hE3
          have hus := HI.out.used
          have hmE : (0 : Int) ≤ E - f.f0.length := by have := HE2.out; split at this <;> omega
          have HNL := Aside0.mk hnl
          obtain ⟨u, hu⟩ : ∃ u : Nat, usedB D.files = u := ⟨_, rfl⟩
          rw [hu] at hus
          have HU := Aside0.mk hu
          have hw1 : IntKind.i64.wrap ((u : Int) - (f.f0.length : Int)) = (u : Int) - f.f0.length := IntWalk.i64_in _ ⟨by omega, by omega⟩
          have hw2 : IntKind.i64.wrap ((u : Int) - (f.f0.length : Int) + E) = (u : Int) - f.f0.length + E := IntWalk.i64_in _ ⟨by omega, by omega⟩
          have q5 : w4.cell? ⟨r, 0, none⟩ = some (.int .i64 D.room) := blk_cell ((HW4.out.below.block r HLT.out).trans HH.out) 0
          have HUL2 := Aside0.mk hus
          have HMB := Aside0.mk (show moreB f at_ b = E - f.f0.length by rw [← HE.out]; omega)
          obtain ⟨full, hfull⟩ : ∃ full : Bool, decide (D.room < (u : Int) - f.f0.length + E) = full := ⟨_, rfl⟩
          have HFULL := Aside0.mk hfull
          clear hnl hu hmE hus
          go_upto_region 17 with (fail)
          go_cut [79] (fun v79 w' => v79 = .bool full ∧ Aside0 (WrA W w' R r bb F A2 c2 A3 c3))
          case first =>
            have hfull2 : decide ((u : Int) - f.f0.length + E > D.room) = full := hfull
            go_region_law (first
              | (go_simp; go_at_call 84; refine (rused_calls (H.out.below (below_step HW4.out.below (below_drew1 (Below.refl _ _)))) HI.out hN).mono ?_; rintro e w5 ⟨rfl, hb5⟩; rw [HU.out]; have hB5 := below_step (below_drew1 (Below.refl w4.heap.size w4)) hb5; have q6 : w5.cell? ⟨r, 0, none⟩ = some (.int .i64 D.room) := blk_cell (((below_step HW4.out.below hB5).block r HLT.out).trans HH.out) 0; have HW5 := Aside0.mk (HW4.out.step hB5); clear hb5 hB5)
              | fail)
            all_goals
              go_wp2_with fail
              go_meet
              case rel => exact ⟨rfl, HW5⟩
          case rest =>
            obtain ⟨rfl, HW5⟩ := hcut
            clear q4 q5 hw1 hw2 hfull
            cases full with
            | true =>
              have hx2 : X = (9, D) := by
                rw [HX1.out]; unfold dW2
                rw [if_neg HBAD.out, HE.out, if_neg HNL.out, HU.out, if_pos (by have := of_decide_eq_true HFULL.out; rw [HMB.out]; omega)]
              have HX2 := Aside0.mk hx2
              clear hx2
              go_wp2_with fail
              go_ret
              exact ⟨by rw [HX2.out]; rfl, by rw [HX2.out]; exact Rx.still H.out HW5.out.below⟩
            | false =>
              have hx2 : X = (0, ⟨D.room, aput s.data.toList (wFil f at_ b) D.files⟩) := by
                rw [HX1.out]; unfold dW2
                rw [if_neg HBAD.out, HE.out, if_neg HNL.out, HU.out, if_neg (by have := of_decide_eq_false HFULL.out; rw [HMB.out]; omega)]
              have HX2 := Aside0.mk hx2
              clear hx2
              have k3 : wc.cell? ⟨bb, 3, none⟩ = some (.slice A3 F.f3.length c3) := blk_cell HW5.out.bk 3
              have HUL' := HUL.out
              go_wp2_with (first
                | ((with_reducible refine gate_dst (N := 80) rfl ?_); refine Kd.R_lit k166 _ 166 ?hg (N := 80) ?hd (xs := ([] : List S166)) (inner := []) (ok := fun _ => True) (okp := fun _ => True) ?hr ?hp (fun _ hk => hk) trivial (Below.refl _ _) (Nat.le_refl _) (by simp) ?_; (case hd => rfl); (case hg => rfl); (case hr => first | (go_simp; done) | (go_simp; rfl)); (case hp => exact (Reps.none _ _)); intro v5 w5 ho5 hb5 hg_ hnew_; have HO5 := Aside0.mk ho5; have HB5 := Aside0.mk hb5; have q53 : w5.cell? ⟨bb, 3, none⟩ = some (.slice A3 F.f3.length c3) := blk_cell ((hb5.block bb (blk_lt HW5.out.bk)).trans HW5.out.bk) 3; clear hg_ hnew_ ho5 hb5)
                | ((with_reducible refine gate_dst (N := 83) rfl ?_); refine Kd.R_append_rows k166 (w0 := wc) wc.heap.size (by rfl) (.tmp 80) (.tmp 82) 142 166 (.agg #[.bool false, .int .i64 0, .int .u8 0]) 24 (by rfl) Try.underlying142 info166 (by rfl) (by decide) (by decide) _ [] F.f3 A3 F.f3.length c3 (fun _ => True) (fun _ => False) (by rfl) (by rfl) HO5.out (Kd.C_below (Kd.V_reads' HW5.out.vu).2.2 HB5.out) (fun _ _ h => h) (fun _ h => h.elim) (fun _ _ => trivial) HB5.out HB5.out.size (by rw [List.length_nil]; omega) ?_; intro v6 w6 hR hb6 hg hat; rw [List.nil_append] at hR; have HO6 := Aside0.mk hR; have HB6 := Aside0.mk hb6; clear hR hb6 hg hat q53)
                | fail)
              have hst0 : F.f3 ++ wU at_ (b.take (0 : Int).toNat) = F.f3 := by show F.f3 ++ wU at_ [] = _; simp [wU]
              go_loopg [13, 14] b.length (fun kq v13 v14 w' => ∃ j : Int, v14 = .int .i64 j ∧ 0 ≤ j ∧ j + kq = b.length ∧ Aside0 (k166.R 166 w' wc.heap.size (fun _ => True) v13 (F.f3 ++ wU at_ (b.take j.toNat))) ∧ Aside0 (Below wc.heap.size wc w'))
              case atStart => exact ⟨0, rfl, by omega, by omega, ⟨by rw [hst0]; exact HO6.out⟩, HB6⟩
              case round =>
                clear HO6 HB6 hst0 HO5 HB5 k3
                obtain ⟨j, rfl, j0, j1, HR, HB⟩ := hrel
                by_cases hj : j < (b.length : Int)
                · have c6 : decide (j < (b.length : Int)) = true := decide_eq_true hj
                  obtain ⟨x', hx'⟩ : ∃ x', b.getD j.toNat 0 = x' := ⟨_, rfl⟩
                  have hst := wU_snoc at_ b j0 hj hx'
                  have hne : b ≠ [] := fun e => by subst e; simp at hj; omega
                  obtain ⟨ab, rfl⟩ := C_some HA.out hne
                  have hxc := cellI (Kd.C_below HA.out (below_step HW5.out.below HB.out)) j0 hj hx'
                  have hnj : IntKind.i64.wrap (j + 1) = j + 1 := IntWalk.i64_in _ ⟨by omega, by omega⟩
                  have hatb : 0 ≤ at_ ∧ at_ ≤ 262144 := by have := HBAD.out; omega
                  have hna : IntKind.i64.wrap (at_ + j) = at_ + j := IntWalk.i64_in _ ⟨by omega, by omega⟩
                  have hlen : (F.f3 ++ wU at_ (b.take j.toNat)).length ≤ 1000000004000 := by rw [List.length_append, wU_len, List.length_take]; omega
                  obtain ⟨T, hT⟩ : ∃ T, F.f3 ++ wU at_ (b.take j.toNat) = T := ⟨_, rfl⟩
                  have hst2 : F.f3 ++ wU at_ (b.take (j + 1).toNat) = T ++ [⟨false, at_ + j, x'⟩] := by rw [hst, ← List.append_assoc, hT]
                  rw [hT] at HR hlen
                  have p0 := eq_true j0
                  have p1 := eq_true hj
                  have HST := Aside0.mk hst2
                  have HLE := Aside0.mk hlen
                  clear hst hst2 hne hx' hT hlen
                  go_wp2_with ((with_reducible refine gate_dst (N := 100) rfl ?_); refine Kd.R_append k166 (w0 := wc) wc.heap.size rfl (.tmp 90) (.tmp 99) 142 166 (.agg #[.bool false, .int .i64 0, .int .u8 0]) 24 rfl Try.underlying142 info166 rfl (by decide) (by omega) u13 T ⟨false, at_ + j, x'⟩ [.bool false, .int .i64 (at_ + j), .int .u8 x'] (fun _ => True) (fun _ => False) rfl rfl ?aP (fun _ hk => hk.elim) (fun _ _ => trivial) HR.out HB.out HB.out.size ?aL ?_; (case aP => exact k166_mkM _ _ _ ⟨false, at_ + j, x'⟩); (case aL => have := HLE.out; omega); intro v7 w7 ho hb7 hg hat; have HO7 := Aside0.mk ho; have HB7 := Aside0.mk hb7; clear ho hb7 hg hat)
                  go_roundg (gk - 1)
                  case measure => omega
                  case rel => exact ⟨j + 1, rfl, by omega, by omega, ⟨by rw [HST.out]; exact HO7.out⟩, HB7⟩
                · have c6 : decide (j < (b.length : Int)) = false := decide_eq_false hj
                  have hfull : b.take j.toNat = b := List.take_of_length_le (by omega)
                  rw [hfull] at HR
                  obtain ⟨U, hU⟩ : ∃ U : List S166, F.f3 ++ wU at_ b = U := ⟨_, rfl⟩
                  rw [hU] at HR
                  have HUU := Aside0.mk hU
                  obtain ⟨A7, c7, rfl⟩ := Kd.R_slice HR.out
                  have bk7 := (HB.out.block bb (blk_lt HW5.out.bk)).trans HW5.out.bk
                  have q73 : wr.cell? ⟨bb, 3, none⟩ = some (.slice A3 F.f3.length c3) := blk_cell bk7 3
                  have f73 := blk_frozen bk7 3
                  have BK7 := Aside0.mk bk7
                  clear hfull hU bk7
                  go_wp2_with fail
                  obtain ⟨w8, hw8⟩ : ∃ w8, w8 = wr.setCell ⟨bb, 3, none⟩ (.slice A7 U.length c7) := ⟨_, rfl⟩
                  rw [← hw8]
                  have hnb := HW5.out.nb
                  have hlb := blk_lt HW5.out.bk
                  have hb8 : Below W.heap.size W w8 := by rw [hw8]; exact below_set (below_step HW5.out.below HB.out) hnb
                  have bk8 : w8.heap[bb]? = some (.cells #[.string F.f0, .bool F.f1, .slice A2 F.f2.length c2, .slice A7 U.length c7] 144 (0, 0)) := by rw [hw8]; simpa using blk_set BK7.out 3 (.slice A7 U.length c7)
                  have hnr : bb ≠ r := by have := HLT.out; omega
                  have hv8 : Kd.V k166 166 w8 0 (fun k => (R k ∧ k ≠ r) ∨ W.heap.size ≤ k) (.slice A7 U.length c7) U := by
                    rw [hw8]
                    exact Kd.V_mono (Kd.V_far (Kd.V_mono (Kd.R_V (Kd.R_bound HR.out) (base' := 0)) (fun k hk => hk.2.1)) (p := ⟨bb, 3, none⟩) (fun k hk => by dsimp only; omega) _) (fun k hk => .inr (by omega))
                  have hs8 : Kd.V (Kd.int .u8) 5 w8 0 (fun k => (R k ∧ k ≠ r) ∨ W.heap.size ≤ k) (.slice A2 F.f2.length c2) F.f2 := by
                    rw [hw8]
                    exact Kd.V_mono (Kd.V_far (Kd.V_below HW5.out.vs HB.out) (p := ⟨bb, 3, none⟩) (fun k hk => by have := H.out.lt k hk.1; dsimp only; omega) _) (fun k hk => .inl hk)
                  have k0 : w8.cell? ⟨bb, 0, none⟩ = some (.string F.f0) := blk_cell bk8 0
                  have k1 : w8.cell? ⟨bb, 1, none⟩ = some (.bool F.f1) := blk_cell bk8 1
                  have k2 : w8.cell? ⟨bb, 2, none⟩ = some (.slice A2 F.f2.length c2) := blk_cell bk8 2
                  have k3 : w8.cell? ⟨bb, 3, none⟩ = some (.slice A7 U.length c7) := blk_cell bk8 3
                  have q8 : w8.cell? ⟨r, 1, none⟩ = some (.slice Al (refL D.files).length cl) := blk_cell ((hb8.block r HLT.out).trans HH.out) 1
                  have HB8 := Aside0.mk hb8
                  have HV8 := Aside0.mk hv8
                  have HS8 := Aside0.mk hs8
                  have HL16 := Aside0.mk (show (refL D.files).length ≤ 1000 by have := HL.out; omega)
                  clear hw8 hb8 bk8 hv8 hs8 q73 f73 hnb hlb hnr
                  go_region_law (first
                    | (go_simp; go_at_call 106; refine (rput (f := ⟨F.f0, F.f1, F.f2, U⟩) (P := fun k => (R k ∧ k ≠ r) ∨ W.heap.size ≤ k) HV.out HL16.out (below_step HB8.out (below_drew1 (Below.refl _ _))) (Kd.V_drew HS8.out) (Kd.V_drew HV8.out)).mono ?_; rintro e w9 ⟨A9, c9, rfl, hv9, hb9⟩; have hB9 := below_step HB8.out (below_step (below_drew1 (Below.refl w8.heap.size w8)) hb9); have hq9 := (hB9.block r HLT.out).trans HH.out; have q9 : w9.cell? ⟨r, 1, none⟩ = some (.slice Al (refL D.files).length cl) := blk_cell hq9 1; have f9 := blk_frozen hq9 1; have HB9 := Aside0.mk hB9; have HV9 := Aside0.mk hv9; clear hB9 hq9 hv9 hb9)
                    | fail)
                  all_goals
                    go_wp2_with fail
                    go_ret
                    have hres : putR (refL D.files) ⟨F.f0, F.f1, F.f2, U⟩ = refL (aput s.data.toList (wFil f at_ b) D.files) := by
                      obtain ⟨g0, g1, g2, g3⟩ := HF0.out
                      rw [← put_aput HI.out.srt, ← HUU.out, g0, g1, g2, g3, ← flat_write]
                      rfl
                    exact ⟨by rw [HX2.out]; rfl, by
                      rw [HX2.out]
                      show Rx W _ R r D.room (refL (aput s.data.toList (wFil f at_ b) D.files))
                      rw [← hres]
                      exact Rx.set H.out HB9.out (Kd.V_mono HV9.out (fun k hk => by
                        have := HB8.out.size
                        rcases hk with (h | h | h) | h
                        · exact .inl h
                        · exact .inl h
                        · exact .inr h
                        · have h' : w8.heap.size ≤ k := h
                          exact .inr (by omega)))⟩
end Go.Proofs.Ytmmiipnmimjojaa.PS
end
