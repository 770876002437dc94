/- The reference's Write. -/
import Derived.Test.YtmmiipnmimjojaaR7
import Derived.Test.YtmmiipnmimjojaaR5
namespace Go.Proofs.Ytmmiipnmimjojaa.PS
open Go.RowKit Go.Proofs.YtmmiipnmimjojaaW.PrintWords Go.Proofs.YtmmiipnmimjojaaW.PrintLast Go.Proofs.YtmmiipnmimjojaaW.PrintMore
open Go.Maps Go.Proofs.Ytmmiipnmimjojaa.PD
set_option linter.unusedVariables false
set_option linter.unusedSimpArgs false
/-- The file that is written, in block b. -/
structure WrA (W w' : World) (R : Nat → Prop) (r b : Nat) (F : S144) (A2 : Option Addr) (c2 : Nat) (A3 : Option Addr) (c3 : Nat) : Prop where
  below : Below W.heap.size W w'
  bk : w'.heap[b]? = some (.cells #[.string F.f0, .bool F.f1, .slice A2 F.f2.length c2, .slice A3 F.f3.length c3] 144 (0, 0))
  nb : W.heap.size ≤ b
  vs : Kd.V (Kd.int .u8) 5 w' 0 (fun k => R k ∧ k ≠ r) (.slice A2 F.f2.length c2) F.f2
  vu : Kd.V k166 166 w' 0 (fun k => R k ∧ k ≠ r) (.slice A3 F.f3.length c3) F.f3
theorem WrA.step {W w' w2 : World} {R : Nat → Prop} {r b : Nat} {F : S144} {A2 A3 : Option Addr} {c2 c3 : Nat} (h : WrA W w' R r b F A2 c2 A3 c3) (hb : Below w'.heap.size w' w2) : WrA W w2 R r b F A2 c2 A3 c3 :=
  ⟨below_step h.below hb, (hb.block b (blk_lt h.bk)).trans h.bk, h.nb, Kd.V_below h.vs hb, Kd.V_below h.vu hb⟩
theorem wU_snoc (a : Int) (b : List Int) {j : Int} (h0 : 0 ≤ j) (h1 : j < (b.length : Int)) {x : Int} (hx : b.getD j.toNat 0 = x) : wU a (b.take (j + 1).toNat) = wU a (b.take j.toNat) ++ [⟨false, a + j, x⟩] := by
  rw [show (j + 1).toNat = j.toNat + 1 by omega, List.take_succ_eq_append_getElem (by omega), wU_append]
  rw [List.getD_eq_getElem?_getD, List.getElem?_eq_getElem (by omega)] at hx
  simp at hx
  rw [hx]
  rw [show a + ((b.take j.toNat).length : Int) = a + j by rw [List.length_take]; omega]
  rfl
/-- The file that Write begins with. -/
theorem wfile {N : Nat} {D : Dsk} (h : DInv N D) (hN : N ≤ 1000000) (s : ByteArray) (hn : namedB s = true) : ∃ f, (aget s.data.toList D.files).getD z110 = f ∧ FInv N s.data.toList f := by
  cases hg : aget s.data.toList D.files with
  | none => exact ⟨_, rfl, inv_empty hn⟩
  | some g => exact ⟨_, rfl, h.get hg⟩
set_option maxHeartbeats 4000000 in
set_option maxRecDepth 100000 in
theorem rwrite_calls {W : World} {R : Nat → Prop} {r N : Nat} {D : Dsk} {s : ByteArray} {at_ : Int} {A : Option Addr} {c : Nat} {b : List Int} (h : RefAt W R r D.room (refL D.files)) (hi : DInv N D) (hN : N ≤ 1000000) (hs : s.size ≤ maxLen)
    (hA : k8.C W A b.length b) (hc : b.length ≤ c) (hb : b.length ≤ 140737488355328) (ha : -9223372036854775808 ≤ at_ ∧ at_ ≤ 9223372036854775807) (hbl : b.length ≤ 4000) :
    Calls Try.prog 78 #[.pointer (some ⟨r, 0, none⟩), .string s, .int .i64 at_, .slice A b.length c] W fun e w' => e = .returned (.int .i64 (dWrite D s at_ b).1) ∧ Rx W w' R r D.room (refL (dWrite D s at_ b).2.files) := by
  have hll : (refL D.files).length ≤ 16 := by rw [ref_len]; exact hi.few
  have H := Aside0.mk h
  have HI := Aside0.mk hi
  have HL := Aside0.mk hll
  have HA := Aside0.mk hA
  clear h hi hll hA
  obtain ⟨X, hX⟩ : ∃ X, dWrite D s at_ b = X := ⟨_, rfl⟩
  rw [hX]
  have HX := Aside0.mk hX
  clear hX
  by_cases hn : namedB s = false
  · have hx2 : X = (14, D) := by rw [← HX.out]; unfold dWrite; rw [if_pos hn]
    have HX2 := Aside0.mk hx2
    have HN := Aside0.mk hn
    clear hn hx2
    go_enter Try.func78, Try.ntmps78
    go_wp2_with fail
    refine (rnamed_calls s hs _).mono ?_
    rintro e w2 ⟨rfl, hdr⟩
    obtain ⟨nq, rfl⟩ := hdr.out
    rw [HN.out]
    go_wp2_with fail
    go_ret
    exact ⟨by rw [HX2.out]; rfl, by rw [HX2.out]; exact Rx.still H.out (pw_below_drewN (Below.refl _ _) _)⟩
  replace hn : namedB s = true := by simpa using hn
  obtain ⟨f, hf, hinv⟩ := wfile HI.out hN s hn
  obtain ⟨hub, hul⟩ := hinv.units hN
  have hnow := now_ref hinv
  have hfl : f.f0.length ≤ 262144 := hinv.short
  have hX1 : X = dW2 D s (aget s.data.toList D.files).isSome f at_ b := by rw [← HX.out]; unfold dWrite; rw [if_neg (by rw [hn]; decide), hf]
  obtain ⟨F, hF⟩ : ∃ F, refF (s.data.toList, f) = F := ⟨_, rfl⟩
  have hF0 : F.f0 = s ∧ F.f1 = f.f2 ∧ F.f2 = f.f1 ∧ F.f3 = flat f.f3 := by rw [← hF]; exact ⟨rfl, rfl, rfl, rfl⟩
  rw [hF] at hub hul hnow
  obtain ⟨Al, cl, hh, hv⟩ := H.out.cells
  have hc1 : W.cell? ⟨r, 1, none⟩ = some (.slice Al (refL D.files).length cl) := blk_cell hh 1
  have hc0 : W.cell? ⟨r, 0, none⟩ = some (.int .i64 D.room) := blk_cell hh 0
  have HV := Aside0.mk hv
  have HH := Aside0.mk hh
  have HN := Aside0.mk hn
  have HX1 := Aside0.mk hX1
  have HUB := Aside0.mk hub
  have HUL := Aside0.mk hul
  have HNW := Aside0.mk hnow
  have HF0 := Aside0.mk hF0
  have HFF := Aside0.mk hf
  have HFR := Aside0.mk hF
  have HLT := Aside0.mk (H.out.lt r H.out.own)
  clear hv hh hn hX1 hub hul hnow hF0 hf hF hinv HX
  go_enter Try.func78, Try.ntmps78
  go_wp2_with fail
  refine (rnamed_calls s hs _).mono ?_
  rintro e w2 ⟨rfl, hdr⟩
  have hb2 : Below W.heap.size W w2 := by obtain ⟨nq, rfl⟩ := hdr.out; exact pw_below_drewN (Below.refl _ _) _
  have HB2 := Aside0.mk hb2
  rw [HN.out]
  clear hb2 hdr
  go_wp2_with fail
  refine (rfind_calls s (H.out.below HB2.out) (by have := HL.out; omega)).mono ?_
  rintro e w3 ⟨rfl, rfl⟩
  obtain ⟨i0v, hi0v⟩ : ∃ z, findR s (refL D.files) 0 = z := ⟨_, rfl⟩
  rw [hi0v]
  have HI0V := Aside0.mk hi0v
  clear hi0v
  go_upto_if 26 with (fail)
  go_cut [9, 10] (fun v9 v10 w' => ∃ (i : Int) (bb : Nat) (A2 : Option Addr) (c2 : Nat) (A3 : Option Addr) (c3 : Nat), v9 = .int .i64 i ∧ v10 = .pointer (some ⟨bb, 0, none⟩) ∧ Aside0 (decide (i < 0) = !(aget s.data.toList D.files).isSome) ∧ Aside0 (WrA W w' R r bb F A2 c2 A3 c3))
  case first =>
    cases hg : aget s.data.toList D.files with
    | none =>
      have hi := find_none (i := 0) hg
      obtain rfl : -1 = i0v := hi.symm.trans HI0V.out
      have hFe : F = ⟨s, false, [], []⟩ := by
        rw [← HFR.out, ← HFF.out, hg]
        rfl
      have HFE := Aside0.mk hFe
      have HBN := Aside0.mk (blk_new w2 (.cells #[.string s, .bool false, .slice none 0 0, .slice none 0 0] 144 (0, 0)))
      have HG := Aside0.mk hg
      clear hi hFe hg
      go_wp2_with fail
      go_meet
      case rel => exact ⟨-1, w2.heap.size, none, 0, none, 0, rfl, rfl, ⟨by rw [HG.out]; rfl⟩, ⟨by rw [HFE.out]; exact ⟨below_step HB2.out (below_alloc (Below.refl _ _) _), HBN.out, HB2.out.size, Kd.V_nil _ _ _ _ _, Kd.V_nil _ _ _ _ _⟩⟩⟩
    | some g =>
      obtain ⟨i, hi, i0, i1, hrd⟩ := rd_find hg
      obtain rfl : i = i0v := hi.symm.trans HI0V.out
      have hgf : refF (s.data.toList, g) = F := by
        rw [← HFR.out, ← HFF.out, hg]
        rfl
      rw [hgf] at hrd
      obtain ⟨ad, A2, c2, A3, c3, hr⟩ := filR_of HV.out i0 i1 hrd
      obtain rfl := hr.at_
      have hbA : Below W.heap.size W (w2.alloc (.cells #[.string s, .bool false, .slice none 0 0, .slice none 0 0] 144)) := below_step HB2.out (below_alloc (Below.refl _ _) _)
      have e0 := (hbA.cell (World.block_lt_of_cell? W _ hr.name)).trans hr.name
      have e1 := (hbA.cell (World.block_lt_of_cell? W _ hr.lasts)).trans hr.lasts
      have e2 := (hbA.cell (World.block_lt_of_cell? W _ hr.sure)).trans hr.sure
      have e3 := (hbA.cell (World.block_lt_of_cell? W _ hr.units)).trans hr.units
      have hc2 := (hbA.cell (World.block_lt_of_cell? W _ hc1)).trans hc1
      have cg : decide (i ≥ 0) = true := decide_eq_true i0
      have p0 := eq_true i0
      have p1 := eq_true i1
      have HBN := Aside0.mk (blk_new w2 (.cells #[.string F.f0, .bool F.f1, .slice A2 F.f2.length c2, .slice A3 F.f3.length c3] 144 (0, 0)))
      have HR := Aside0.mk hr
      have HG := Aside0.mk hg
      have HD := Aside0.mk (show decide (i < 0) = false from decide_eq_false (by omega))
      clear hr hrd hgf hi hg hbA
      go_wp2_with fail
      go_meet
      case rel => exact ⟨i, w2.heap.size, A2, c2, A3, c3, rfl, rfl, ⟨by rw [HG.out, HD.out]; rfl⟩, ⟨⟨below_step HB2.out (below_alloc (Below.refl _ _) _), HBN.out, HB2.out.size, Kd.V_below HR.out.vs (below_step HB2.out (below_alloc (Below.refl _ _) _)), Kd.V_below HR.out.vu (below_step HB2.out (below_alloc (Below.refl _ _) _))⟩⟩⟩
  case rest =>
    obtain ⟨i, bb, A2, c2, A3, c3, rfl, rfl, HI0, HW⟩ := hcut
    clear hc1 hc0
    have k0 : wc.cell? ⟨bb, 0, none⟩ = some (.string F.f0) := blk_cell HW.out.bk 0
    have k1 : wc.cell? ⟨bb, 1, none⟩ = some (.bool F.f1) := blk_cell HW.out.bk 1
    have k2 : wc.cell? ⟨bb, 2, none⟩ = some (.slice A2 F.f2.length c2) := blk_cell HW.out.bk 2
    have k3 : wc.cell? ⟨bb, 3, none⟩ = some (.slice A3 F.f3.length c3) := blk_cell HW.out.bk 3
    go_wp2_with fail
    refine (rnow (W := wc) HW.out.vs HW.out.vu HUB.out HUL.out (Below.refl _ _)).mono ?_
    rintro e w4 ⟨A6, c6, rfl, hr6, hb6⟩
    rw [HNW.out]
    have HW4 := Aside0.mk (HW.out.step hb6)
    clear hr6 hb6 k0 k1 k2 k3 HW
    by_cases hbad : at_ < 0 ∨ (f.f0.length : Int) < at_
    · have hx2 : X = (2, D) := by rw [HX1.out]; unfold dW2; rw [if_pos hbad]
      have HX2 := Aside0.mk hx2
      clear hx2
      by_cases hz : at_ < 0
      · have cz : decide (at_ < 0) = true := decide_eq_true hz
        clear hbad
        go_wp2_with fail
        go_ret
        exact ⟨by rw [HX2.out]; rfl, by rw [HX2.out]; exact Rx.still H.out HW4.out.below⟩
      · have cz : decide (at_ < 0) = false := decide_eq_false hz
        have cz2 : decide (at_ > (f.f0.length : Int)) = true := decide_eq_true (by omega)
        clear hbad
        go_wp2_with fail
        go_ret
        exact ⟨by rw [HX2.out]; rfl, by rw [HX2.out]; exact Rx.still H.out HW4.out.below⟩
    have cz : decide (at_ < 0) = false := decide_eq_false (by omega)
    have cz2 : decide (at_ > (f.f0.length : Int)) = false := decide_eq_false (by omega)
    have hsum : IntKind.i64.wrap (at_ + (b.length : Int)) = at_ + b.length := IntWalk.i64_in _ ⟨by omega, by omega⟩
    obtain ⟨E, hE⟩ : ∃ E : Int, (f.f0.length : Int) + moreB f at_ b = E := ⟨_, rfl⟩
    have hE2 : E = if at_ + b.length > f.f0.length then at_ + b.length else f.f0.length := by
      rw [← hE]
      unfold moreB
      split <;> omega
    have HE := Aside0.mk hE
    have HE2 := Aside0.mk hE2
    have HBAD := Aside0.mk hbad
    clear hE hE2 hbad
    go_upto_if 50 with (fail)
    go_cut [12] (fun v12 w' => v12 = .int .i64 E ∧ w4 = w')
    case first =>
      go_wp2_with fail
      all_goals
        go_meet
        case rel => exact ⟨by rw [HE2.out]; first | rw [if_pos (by omega)] | rw [if_neg (by omega)], rfl⟩
    case rest =>
      obtain ⟨rfl, rfl⟩ := hcut
      obtain ⟨lim, hlim⟩ : ∃ lim : Bool, decide (((aget s.data.toList D.files).isSome = false ∧ 16 ≤ D.files.length) ∨ 262144 < E) = lim := ⟨_, rfl⟩
      have HLIM := Aside0.mk hlim
      have q4 : w4.cell? ⟨r, 1, none⟩ = some (.slice Al (refL D.files).length cl) := blk_cell ((HW4.out.below.block r HLT.out).trans HH.out) 1
      have hrl := ref_len D.files
      have HRL := Aside0.mk hrl
      clear hlim hrl
      go_upto_region 15 with (fail)
      go_cut [68] (fun v68 w' => v68 = .bool lim ∧ w4 = w')
      case first =>
        have hI0 := HI0.out
        have hlm := HLIM.out
        cases hsm : (aget s.data.toList D.files).isSome with
        | true =>
          rw [hsm] at hI0 hlm
          have cE : decide (E > 262144) = lim := by rw [← hlm]; simp
          clear hlm hsm
          go_wp2_with fail
          go_meet
          case rel => exact ⟨rfl, rfl⟩
        | false =>
          rw [hsm] at hI0 hlm
          by_cases h16 : (refL D.files).length ≥ 16
          · have c16 : decide (((refL D.files).length : Int) ≥ 16) = true := decide_eq_true (by omega)
            have hl1 : lim = true := by rw [← hlm]; exact decide_eq_true (.inl ⟨rfl, by rw [HRL.out] at h16; exact h16⟩)
            clear hlm hsm h16
            go_wp2_with fail
            go_meet
            case rel => exact ⟨by rw [hl1], rfl⟩
          · have c16 : decide (((refL D.files).length : Int) ≥ 16) = false := decide_eq_false (by omega)
            have cE : decide (E > 262144) = lim := by
              rw [← hlm]
              rw [HRL.out] at h16
              simp [h16]
            clear hlm hsm h16
            go_wp2_with fail
            go_meet
            case rel => exact ⟨rfl, rfl⟩
      case rest =>
        obtain ⟨rfl, rfl⟩ := hcut
        cases lim with
        | true =>
          have hx2 : X = (6, D) := by rw [HX1.out]; unfold dW2; rw [if_neg HBAD.out, HE.out, if_pos (of_decide_eq_true HLIM.out)]
          have HX2 := Aside0.mk hx2
          clear hx2
          go_wp2_with fail
          go_ret
          exact ⟨by rw [HX2.out]; rfl, by rw [HX2.out]; exact Rx.still H.out HW4.out.below⟩
        | false =>
          have hnl := of_decide_eq_false HLIM.out
          have hE3 : 0 ≤ E ∧ E ≤ 262144 := by
            have h1 := HE2.out
            refine ⟨by split at h1 <;> omega, ?_⟩
            by_cases h : 262144 < E
            · exact absurd (.inr h) hnl
            · omega
          obtain ⟨E0, E1⟩ := hE3
          have hus := HI.out.used
          have hmE : (0 : Int) ≤ E - f.f0.length := by have := HE2.out; split at this <;> omega
          have HNL := Aside0.mk hnl
          obtain ⟨u, hu⟩ : ∃ u : Nat, usedB D.files = u := ⟨_, rfl⟩
          rw [hu] at hus
          have HU := Aside0.mk hu
          have hw1 : IntKind.i64.wrap ((u : Int) - (f.f0.length : Int)) = (u : Int) - f.f0.length := IntWalk.i64_in _ ⟨by omega, by omega⟩
          have hw2 : IntKind.i64.wrap ((u : Int) - (f.f0.length : Int) + E) = (u : Int) - f.f0.length + E := IntWalk.i64_in _ ⟨by omega, by omega⟩
          have q5 : w4.cell? ⟨r, 0, none⟩ = some (.int .i64 D.room) := blk_cell ((HW4.out.below.block r HLT.out).trans HH.out) 0
          have HUL2 := Aside0.mk hus
          have HMB := Aside0.mk (show moreB f at_ b = E - f.f0.length by rw [← HE.out]; omega)
          obtain ⟨full, hfull⟩ : ∃ full : Bool, decide (D.room < (u : Int) - f.f0.length + E) = full := ⟨_, rfl⟩
          have HFULL := Aside0.mk hfull
          clear hnl hu hmE hus
          go_upto_region 17 with (fail)
          go_cut [79] (fun v79 w' => v79 = .bool full ∧ Aside0 (WrA W w' R r bb F A2 c2 A3 c3))
          case first =>
            have hfull2 : decide ((u : Int) - f.f0.length + E > D.room) = full := hfull
            go_region_law (first
              | (go_simp; go_at_call 84; refine (rused_calls (H.out.below (below_step HW4.out.below (below_drew1 (Below.refl _ _)))) HI.out hN).mono ?_; rintro e w5 ⟨rfl, hb5⟩; rw [HU.out]; have hB5 := below_step (below_drew1 (Below.refl w4.heap.size w4)) hb5; have q6 : w5.cell? ⟨r, 0, none⟩ = some (.int .i64 D.room) := blk_cell (((below_step HW4.out.below hB5).block r HLT.out).trans HH.out) 0; have HW5 := Aside0.mk (HW4.out.step hB5); clear hb5 hB5)
              | fail)
            all_goals
              go_wp2_with fail
              go_meet
              case rel => exact ⟨rfl, HW5⟩
          case rest =>
            obtain ⟨rfl, HW5⟩ := hcut
            clear q4 q5 hw1 hw2 hfull
            cases full with
            | true =>
              have hx2 : X = (9, D) := by
                rw [HX1.out]; unfold dW2
                rw [if_neg HBAD.out, HE.out, if_neg HNL.out, HU.out, if_pos (by have := of_decide_eq_true HFULL.out; rw [HMB.out]; omega)]
              have HX2 := Aside0.mk hx2
              clear hx2
              go_wp2_with fail
              go_ret
              exact ⟨by rw [HX2.out]; rfl, by rw [HX2.out]; exact Rx.still H.out HW5.out.below⟩
            | false =>
              have hx2 : X = (0, ⟨D.room, aput s.data.toList (wFil f at_ b) D.files⟩) := by
                rw [HX1.out]; unfold dW2
                rw [if_neg HBAD.out, HE.out, if_neg HNL.out, HU.out, if_neg (by have := of_decide_eq_false HFULL.out; rw [HMB.out]; omega)]
              have HX2 := Aside0.mk hx2
              clear hx2
              have k3 : wc.cell? ⟨bb, 3, none⟩ = some (.slice A3 F.f3.length c3) := blk_cell HW5.out.bk 3
              have HUL' := HUL.out
              go_wp2_with (first
                | ((with_reducible refine gate_dst (N := 80) rfl ?_); refine Kd.R_lit k166 _ 166 ?hg (N := 80) ?hd (xs := ([] : List S166)) (inner := []) (ok := fun _ => True) (okp := fun _ => True) ?hr ?hp (fun _ hk => hk) trivial (Below.refl _ _) (Nat.le_refl _) (by simp) ?_; (case hd => rfl); (case hg => rfl); (case hr => first | (go_simp; done) | (go_simp; rfl)); (case hp => exact (Reps.none _ _)); intro v5 w5 ho5 hb5 hg_ hnew_; have HO5 := Aside0.mk ho5; have HB5 := Aside0.mk hb5; have q53 : w5.cell? ⟨bb, 3, none⟩ = some (.slice A3 F.f3.length c3) := blk_cell ((hb5.block bb (blk_lt HW5.out.bk)).trans HW5.out.bk) 3; clear hg_ hnew_ ho5 hb5)
                | ((with_reducible refine gate_dst (N := 83) rfl ?_); refine Kd.R_append_rows k166 (w0 := wc) wc.heap.size (by rfl) (.tmp 80) (.tmp 82) 142 166 (.agg #[.bool false, .int .i64 0, .int .u8 0]) 24 (by rfl) Try.underlying142 info166 (by rfl) (by decide) (by decide) _ [] F.f3 A3 F.f3.length c3 (fun _ => True) (fun _ => False) (by rfl) (by rfl) HO5.out (Kd.C_below (Kd.V_reads' HW5.out.vu).2.2 HB5.out) (fun _ _ h => h) (fun _ h => h.elim) (fun _ _ => trivial) HB5.out HB5.out.size (by rw [List.length_nil]; omega) ?_; intro v6 w6 hR hb6 hg hat; rw [List.nil_append] at hR; have HO6 := Aside0.mk hR; have HB6 := Aside0.mk hb6; clear hR hb6 hg hat q53)
                | fail)
              have hst0 : F.f3 ++ wU at_ (b.take (0 : Int).toNat) = F.f3 := by show F.f3 ++ wU at_ [] = _; simp [wU]
              go_loopg [13, 14] b.length (fun kq v13 v14 w' => ∃ j : Int, v14 = .int .i64 j ∧ 0 ≤ j ∧ j + kq = b.length ∧ Aside0 (k166.R 166 w' wc.heap.size (fun _ => True) v13 (F.f3 ++ wU at_ (b.take j.toNat))) ∧ Aside0 (Below wc.heap.size wc w'))
              case atStart => exact ⟨0, rfl, by omega, by omega, ⟨by rw [hst0]; exact HO6.out⟩, HB6⟩
              case round =>
                clear HO6 HB6 hst0 HO5 HB5 k3
                obtain ⟨j, rfl, j0, j1, HR, HB⟩ := hrel
                by_cases hj : j < (b.length : Int)
                · have c6 : decide (j < (b.length : Int)) = true := decide_eq_true hj
                  obtain ⟨x', hx'⟩ : ∃ x', b.getD j.toNat 0 = x' := ⟨_, rfl⟩
                  have hst := wU_snoc at_ b j0 hj hx'
                  have hne : b ≠ [] := fun e => by subst e; simp at hj; omega
                  obtain ⟨ab, rfl⟩ := C_some HA.out hne
                  have hxc := cellI (Kd.C_below HA.out (below_step HW5.out.below HB.out)) j0 hj hx'
                  have hnj : IntKind.i64.wrap (j + 1) = j + 1 := IntWalk.i64_in _ ⟨by omega, by omega⟩
                  have hatb : 0 ≤ at_ ∧ at_ ≤ 262144 := by have := HBAD.out; omega
                  have hna : IntKind.i64.wrap (at_ + j) = at_ + j := IntWalk.i64_in _ ⟨by omega, by omega⟩
                  have hlen : (F.f3 ++ wU at_ (b.take j.toNat)).length ≤ 1000000004000 := by rw [List.length_append, wU_len, List.length_take]; omega
                  obtain ⟨T, hT⟩ : ∃ T, F.f3 ++ wU at_ (b.take j.toNat) = T := ⟨_, rfl⟩
                  have hst2 : F.f3 ++ wU at_ (b.take (j + 1).toNat) = T ++ [⟨false, at_ + j, x'⟩] := by rw [hst, ← List.append_assoc, hT]
                  rw [hT] at HR hlen
                  have p0 := eq_true j0
                  have p1 := eq_true hj
                  have HST := Aside0.mk hst2
                  have HLE := Aside0.mk hlen
                  clear hst hst2 hne hx' hT hlen
                  go_wp2_with ((with_reducible refine gate_dst (N := 100) rfl ?_); refine Kd.R_append k166 (w0 := wc) wc.heap.size rfl (.tmp 90) (.tmp 99) 142 166 (.agg #[.bool false, .int .i64 0, .int .u8 0]) 24 rfl Try.underlying142 info166 rfl (by decide) (by omega) u13 T ⟨false, at_ + j, x'⟩ [.bool false, .int .i64 (at_ + j), .int .u8 x'] (fun _ => True) (fun _ => False) rfl rfl ?aP (fun _ hk => hk.elim) (fun _ _ => trivial) HR.out HB.out HB.out.size ?aL ?_; (case aP => exact k166_mkM _ _ _ ⟨false, at_ + j, x'⟩); (case aL => have := HLE.out; omega); intro v7 w7 ho hb7 hg hat; have HO7 := Aside0.mk ho; have HB7 := Aside0.mk hb7; clear ho hb7 hg hat)
                  go_roundg (gk - 1)
                  case measure => omega
                  case rel => exact ⟨j + 1, rfl, by omega, by omega, ⟨by rw [HST.out]; exact HO7.out⟩, HB7⟩
                · have c6 : decide (j < (b.length : Int)) = false := decide_eq_false hj
                  have hfull : b.take j.toNat = b := List.take_of_length_le (by omega)
                  rw [hfull] at HR
                  obtain ⟨U, hU⟩ : ∃ U : List S166, F.f3 ++ wU at_ b = U := ⟨_, rfl⟩
                  rw [hU] at HR
                  have HUU := Aside0.mk hU
                  obtain ⟨A7, c7, rfl⟩ := Kd.R_slice HR.out
                  have bk7 := (HB.out.block bb (blk_lt HW5.out.bk)).trans HW5.out.bk
                  have q73 : wr.cell? ⟨bb, 3, none⟩ = some (.slice A3 F.f3.length c3) := blk_cell bk7 3
                  have f73 := blk_frozen bk7 3
                  have BK7 := Aside0.mk bk7
                  clear hfull hU bk7
                  go_wp2_with fail
                  obtain ⟨w8, hw8⟩ : ∃ w8, w8 = wr.setCell ⟨bb, 3, none⟩ (.slice A7 U.length c7) := ⟨_, rfl⟩
                  rw [← hw8]
                  have hnb := HW5.out.nb
                  have hlb := blk_lt HW5.out.bk
                  have hb8 : Below W.heap.size W w8 := by rw [hw8]; exact below_set (below_step HW5.out.below HB.out) hnb
                  have bk8 : w8.heap[bb]? = some (.cells #[.string F.f0, .bool F.f1, .slice A2 F.f2.length c2, .slice A7 U.length c7] 144 (0, 0)) := by rw [hw8]; simpa using blk_set BK7.out 3 (.slice A7 U.length c7)
                  have hnr : bb ≠ r := by have := HLT.out; omega
                  have hv8 : Kd.V k166 166 w8 0 (fun k => (R k ∧ k ≠ r) ∨ W.heap.size ≤ k) (.slice A7 U.length c7) U := by
                    rw [hw8]
                    exact Kd.V_mono (Kd.V_far (Kd.V_mono (Kd.R_V (Kd.R_bound HR.out) (base' := 0)) (fun k hk => hk.2.1)) (p := ⟨bb, 3, none⟩) (fun k hk => by dsimp only; omega) _) (fun k hk => .inr (by omega))
                  have hs8 : Kd.V (Kd.int .u8) 5 w8 0 (fun k => (R k ∧ k ≠ r) ∨ W.heap.size ≤ k) (.slice A2 F.f2.length c2) F.f2 := by
                    rw [hw8]
                    exact Kd.V_mono (Kd.V_far (Kd.V_below HW5.out.vs HB.out) (p := ⟨bb, 3, none⟩) (fun k hk => by have := H.out.lt k hk.1; dsimp only; omega) _) (fun k hk => .inl hk)
                  have k0 : w8.cell? ⟨bb, 0, none⟩ = some (.string F.f0) := blk_cell bk8 0
                  have k1 : w8.cell? ⟨bb, 1, none⟩ = some (.bool F.f1) := blk_cell bk8 1
                  have k2 : w8.cell? ⟨bb, 2, none⟩ = some (.slice A2 F.f2.length c2) := blk_cell bk8 2
                  have k3 : w8.cell? ⟨bb, 3, none⟩ = some (.slice A7 U.length c7) := blk_cell bk8 3
                  have q8 : w8.cell? ⟨r, 1, none⟩ = some (.slice Al (refL D.files).length cl) := blk_cell ((hb8.block r HLT.out).trans HH.out) 1
                  have HB8 := Aside0.mk hb8
                  have HV8 := Aside0.mk hv8
                  have HS8 := Aside0.mk hs8
                  have HL16 := Aside0.mk (show (refL D.files).length ≤ 1000 by have := HL.out; omega)
                  clear hw8 hb8 bk8 hv8 hs8 q73 f73 hnb hlb hnr
                  go_region_law (first
                    | (go_simp; go_at_call 106; refine (rput (f := ⟨F.f0, F.f1, F.f2, U⟩) (P := fun k => (R k ∧ k ≠ r) ∨ W.heap.size ≤ k) HV.out HL16.out (below_step HB8.out (below_drew1 (Below.refl _ _))) (Kd.V_drew HS8.out) (Kd.V_drew HV8.out)).mono ?_; rintro e w9 ⟨A9, c9, rfl, hv9, hb9⟩; have hB9 := below_step HB8.out (below_step (below_drew1 (Below.refl w8.heap.size w8)) hb9); have hq9 := (hB9.block r HLT.out).trans HH.out; have q9 : w9.cell? ⟨r, 1, none⟩ = some (.slice Al (refL D.files).length cl) := blk_cell hq9 1; have f9 := blk_frozen hq9 1; have HB9 := Aside0.mk hB9; have HV9 := Aside0.mk hv9; clear hB9 hq9 hv9 hb9)
                    | fail)
                  all_goals
                    go_wp2_with fail
                    go_ret
                    have hres : putR (refL D.files) ⟨F.f0, F.f1, F.f2, U⟩ = refL (aput s.data.toList (wFil f at_ b) D.files) := by
                      obtain ⟨g0, g1, g2, g3⟩ := HF0.out
                      rw [← put_aput HI.out.srt, ← HUU.out, g0, g1, g2, g3, ← flat_write]
                      rfl
                    exact ⟨by rw [HX2.out]; rfl, by
                      rw [HX2.out]
                      show Rx W _ R r D.room (refL (aput s.data.toList (wFil f at_ b) D.files))
                      rw [← hres]
                      exact Rx.set H.out HB9.out (Kd.V_mono HV9.out (fun k hk => by
                        have := HB8.out.size
                        rcases hk with (h | h | h) | h
                        · exact .inl h
                        · exact .inl h
                        · exact .inr h
                        · have h' : w8.heap.size ≤ k := h
                          exact .inr (by omega)))⟩
end Go.Proofs.Ytmmiipnmimjojaa.PS
