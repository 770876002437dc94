/- disk.Write, walked. -/
import Derived.Test.YtmmiipnmimjojaaD10
import Derived.Test.YtmmiipnmimjojaaD8
namespace Go.Proofs.Ytmmiipnmimjojaa.PS
open Go.RowKit Go.Proofs.YtmmiipnmimjojaaW.PrintWords Go.Proofs.YtmmiipnmimjojaaW.PrintLast Go.Proofs.YtmmiipnmimjojaaW.PrintMore
open Go.Maps Go.Proofs.Ytmmiipnmimjojaa.PD
set_option linter.unusedVariables false
set_option linter.unusedSimpArgs false
set_option maxHeartbeats 1000000 in
set_option maxRecDepth 100000 in
theorem write_calls {W : World} {S : Nat → Prop} {d : Nat} {D : Dsk} {s : ByteArray} {at_ : Int} {A : Option Addr} {c : Nat} {l : List Int} (h : DskAt W S d D) (hs : s.size ≤ maxLen) (ok : DskOk D) (hu : usedB D.files ≤ 1000000000) (hr : k8.C W A l.length l) (hc : l.length ≤ c) (hl : l.length ≤ 140737488355328) (hA : ∀ ad, A = some ad → 0 < l.length → ¬ WR W S ad.block) :
    Calls Try.prog 20 #[.pointer (some ⟨d, 0, none⟩), .string s, .int .i64 at_, .slice A l.length c] W fun e w' => e = .returned (.int .i64 (dWrite D s at_ l).1) ∧ Kp W w' (WR W S) ∧ DskAt w' (Nw W w' S) d (dWrite D s at_ l).2 := by
  have hs' : s.size ≤ 9223372036854775807 := by have e : maxLen = 9223372036854775807 := by decide
                                                omega
  obtain ⟨nb, hnb⟩ : ∃ nb, namedB s = nb := ⟨_, rfl⟩
  cases nb with
  | false =>
    have hD : dWrite D s at_ l = (14, D) := by unfold dWrite; rw [if_pos hnb]
    rw [hD]
    have HF := Aside0.mk (fun k => wr_still h (pw_below_drewN (Below.refl W.heap.size W) k))
    clear h hD hr ok
    go_enter Try.func20, Try.ntmps20
    go_wp2_with fail
    refine (named_calls s hs' W).mono ?_
    rintro e w1 ⟨rfl, hdr⟩
    rw [hnb]
    obtain ⟨k, rfl⟩ := hdr.out
    go_wp2
    go_ret
    exact ⟨rfl, HF.out k⟩
  | true =>
    obtain ⟨m, own, T, hin, hDf, hg⟩ := h.in_ s.data.toList
    have HR := Aside0.mk hr
    have H := Aside0.mk h
    have HOK := Aside0.mk ok
    have HAW := Aside0.mk hA
    clear h hr ok hA
    cases ha : aget s.data.toList T with
    | some e =>
      obtain ⟨g, f⟩ := e
      have hof : aget s.data.toList D.files = some f := hg.trans (by rw [ha]; rfl)
      have hDW : dWrite D s at_ l = dW2 D s true f at_ l := by unfold dWrite; rw [if_neg (by rw [hnb]; decide), hof]; rfl
      rw [hDW]
      have HI := Aside0.mk hin
      have HA := Aside0.mk ha
      have hc1 : W.cell? ⟨d, 1, none⟩ = some (.map (some m)) := blk_cell hin.2.2.1 1
      have hlk : ∀ k, (Instr.lookup 103 (.map (some m)) (.string s) true).run Try.prog (W.drewN k) = .ok (.tuple #[.pointer (some ⟨g, 0, none⟩), .bool true]) (W.drewN k) := fun k =>
        (hin.drewN k).2.2.2.1.look s hs (some g) (by rw [hin.get, ha]; rfl)
      have hfok := mem_ok HOK.out hof
      have HDF1 := Aside0.mk hDf
      clear hin ha hg hof hDW
      go_enter Try.func20, Try.ntmps20
      go_wp2_with fail
      refine (named_calls s hs' W).mono ?_
      rintro e w1 ⟨rfl, hdr⟩
      rw [hnb]
      obtain ⟨k, rfl⟩ := hdr.out
      clear hdr
      have hlk1 := hlk k
      clear hlk
      go_upto_region 8 with (fail)
      have wr := wr_there HI.out HA.out (pw_below_drewN (Below.refl W.heap.size W) k)
      generalize W.drewN k = w1 at *
      clear hlk1 hc1
      obtain ⟨hSb, hob, vn, vs, vc, hh, hn, hs2, hcN, hown⟩ := wr.file
      obtain ⟨An, cn, rfl⟩ := Kd.V_slice hn
      obtain ⟨Ac, cc, rfl⟩ := Kd.N_slice hcN
      have hle := (Kd.V_reads' hn).2.1
      have q0 : w1.cell? ⟨g, 0, none⟩ = some (.slice An f.f0.length cn) := blk_cell hh 0
      have q3 : w1.cell? ⟨g, 3, none⟩ = some (.slice Ac f.f3.length cc) := blk_cell hh 3
      have fz0 := blk_frozen hh 0
      have hd0 : w1.cell? ⟨d, 0, none⟩ = some (.int .i64 D.room) := blk_cell wr.disk.2.2.1 0
      have hd1 : w1.cell? ⟨d, 1, none⟩ = some (.map (some m)) := blk_cell wr.disk.2.2.1 1
      have hmlen : ∀ ty, (Builtin.len_ #[103] ty #[.map (some m)]).run Try.prog w1 = .ok (.int .i64 T.length) w1 := fun ty => by
        have := wr.disk.2.2.2.1.len ty
        unfold tblk at this
        rwa [amap_len] at this
      have hTl : T.length = D.files.length := by rw [← hDf]; unfold tfil; rw [amap_len]
      have HH := Aside0.mk hh
      have HN := Aside0.mk hn
      have HS2 := Aside0.mk hs2
      have HC := Aside0.mk hcN
      have HO := Aside0.mk hown
      have HWR := Aside0.mk wr
      have HTL := Aside0.mk hTl
      have HTLN := Aside0.mk (show T.length ≤ 1000 by have := HOK.out.2.1; omega)
      have HSTILL := Aside0.mk (wr_still H.out wr.below)
      clear hh hn hs2 hcN hown wr hTl
      by_cases hbad : at_ < 0 ∨ (f.f0.length : Int) < at_
      · have hD : dW2 D s true f at_ l = (2, D) := by unfold dW2; rw [if_pos hbad]
        have HDV := Aside0.mk hD
        clear hD
        by_cases h0 : at_ < 0
        · clear hbad
          go_wp2
          go_ret
          rw [HDV.out]
          exact ⟨rfl, HSTILL.out⟩
        · have h1 : (f.f0.length : Int) < at_ := by omega
          clear hbad
          go_wp2
          go_ret
          rw [HDV.out]
          exact ⟨rfl, HSTILL.out⟩
      · have h0 : ¬ at_ < 0 := by omega
        have h1 : ¬ (f.f0.length : Int) < at_ := by omega
        have hb8 : (at_ : Int) ≤ 1000000 := by have := hfok.1; omega
        have hb9 : (f.f0.length : Int) ≤ 1000000 := by have := hfok.1; omega
        have hb10 : 0 ≤ at_ := by omega
        have hb11 : (l.length : Int) ≤ 140737488355328 := by omega
        have HBAD := Aside0.mk hbad
        clear hbad
        go_upto_region 11 with (fail)
        obtain ⟨M, hM⟩ : ∃ M, max 0 (at_ + (l.length : Int) - (f.f0.length : Int)) = M := ⟨_, rfl⟩
        rw [hM]
        have hM0 : 0 ≤ M := by omega
        have hM1 : M ≤ 140737489355328 := by omega
        have HM := Aside0.mk hM
        clear hM
        by_cases hlim : 262144 < (f.f0.length : Int) + M
        · have hD : dW2 D s true f at_ l = (6, D) := by unfold dW2 moreB; rw [if_neg HBAD.out, HM.out, if_pos (.inr hlim)]
          have HDV := Aside0.mk hD
          clear hD
          go_wp2
          go_ret
          rw [HDV.out]
          exact ⟨rfl, HSTILL.out⟩
        · obtain ⟨U, hU⟩ : ∃ U, usedB D.files = U := ⟨_, rfl⟩
          have hDF : dW2 D s true f at_ l = if D.room < (U : Int) + M then (9, D) else (0, ⟨D.room, aput s.data.toList (wFil f at_ l) D.files⟩) := by
            unfold dW2
            rw [if_neg HBAD.out, hU]
            unfold moreB
            rw [HM.out, if_neg (by rintro (⟨h, h'⟩ | h); (first | cases h | omega); exact hlim h)]
          have HDF := Aside0.mk hDF
          have hU1 : (U : Int) ≤ 1000000000 := by omega
          have hused : ∀ W', Below w1.heap.size w1 W' → Calls Try.prog 45 #[.pointer (some ⟨d, 0, none⟩)] W' fun e w' => e = .returned (.int .i64 U) ∧ w'.cell? ⟨d, 0, none⟩ = some (.int .i64 D.room) ∧ Aside0 (Below w1.heap.size w1 w') := fun W' hW => by
            refine (used_calls (HSTILL.out.2.below hW) hu).mono ?_
            rintro e w' ⟨rfl, hb⟩
            have hb2 := below_step hW hb
            exact ⟨by rw [hU], (hb2.cell (World.block_lt_of_cell? w1 _ hd0)).trans hd0, ⟨hb2⟩⟩
          have HU := Aside0.mk hused
          clear hused hDF hU
          have hsum : IntKind.i64.wrap ((U : Int) + M) = (U : Int) + M := IntWalk.i64_in _ ⟨by omega, by omega⟩
          by_cases hfull : D.room < (U : Int) + M
          · have hdc : decide (D.room < (U : Int) + M) = true := decide_eq_true hfull
            go_wp2_with fail
            go_region_held3 (fun w' => w'.cell? ⟨d, 0, none⟩ = some (.int .i64 D.room)) (first | assumption | go_keep)
              ((go_at_call 45; refine (HU.out _ (below_drew1 (Below.refl _ _))).mono ?_; rintro e w2 ⟨rfl, hq, hx⟩))
            go_wp2
            go_ret
            rw [HDF.out, if_pos hfull]
            exact ⟨rfl, wr_still H.out (below_step HWR.out.below hx.out)⟩
          · have hdc : decide (D.room < (U : Int) + M) = false := decide_eq_false hfull
            have HFU := Aside0.mk hfull
            clear hfull
            go_wp2_with fail
            go_region_held3 (fun w' => w'.cell? ⟨d, 0, none⟩ = some (.int .i64 D.room)) (first | assumption | go_keep)
              ((go_at_call 45; refine (HU.out _ (below_drew1 (Below.refl _ _))).mono ?_; rintro e w2 ⟨rfl, hq, hx⟩))
            have wr := HWR.out.step hx.out
            have HWR2 := Aside0.mk wr
            have hlB : (f.f0.length : Int) + l.length ≤ 1262144 := by have := HM.out; omega
            have HLB := Aside0.mk hlB
            clear HN HS2 HC HO HH HWR q0 q3 fz0 hd0 hd1 hmlen hq hle hlB
            obtain ⟨hSb, hob, vn, vs, vc, hh, hn, hs2, hcN, hown⟩ := wr.file
            obtain ⟨An2, cn2, rfl⟩ := Kd.V_slice hn
            obtain ⟨Ac2, cc2, rfl⟩ := Kd.N_slice hcN
            have q0 : w2.cell? ⟨g, 0, none⟩ = some (.slice An2 f.f0.length cn2) := blk_cell hh 0
            have HH := Aside0.mk hh
            have HN := Aside0.mk hn
            have HS2 := Aside0.mk hs2
            have HC := Aside0.mk hcN
            have HO := Aside0.mk hown
            have HR2 := Aside0.mk (Kd.C_below HR.out HWR2.out.below)
            clear hh hn hs2 hcN hown wr
            go_wp2_with fail
            refine (lay_calls An2 cn2 f.f0 at_ A c l w2 (Kd.V_reads' HN.out).2.2 HR2.out hc (by omega) (by omega) (by have := HLB.out; omega)).mono ?_
            rintro e w3 ⟨v3, rfl, hr3, hb3⟩
            obtain ⟨A3, c3, rfl⟩ := Kd.R_slice hr3
            have hh3 : w3.heap[g]? = some (.cells #[.slice An2 f.f0.length cn2, vs, .bool f.f2, .slice Ac2 f.f3.length cc2] 110 (0, 0)) := (hb3.block _ (blk_lt HH.out)).trans HH.out
            have p0 : w3.cell? ⟨g, 0, none⟩ = some (.slice An2 f.f0.length cn2) := blk_cell hh3 0
            have z0 := blk_frozen hh3 0
            have HH3 := Aside0.mk hh3
            have HB3 := Aside0.mk hb3
            have HR3 := Aside0.mk hr3
            clear hh3 hb3 hr3 q0
            go_wp2_with fail
            have hb1 : (w3.setCell ⟨g, 0, none⟩ (.slice A3 (layL f.f0 at_.toNat l).length c3)).heap[g]? = some (.cells #[.slice A3 (layL f.f0 at_.toNat l).length c3, vs, .bool f.f2, .slice Ac2 f.f3.length cc2] 110 (0, 0)) := blk_set HH3.out 0 _
            have hC3 : k8.C (w3.setCell ⟨g, 0, none⟩ (.slice A3 (layL f.f0 at_.toNat l).length c3)) A l.length l :=
              Kd.C_foot_ne (g := g) (fun h => h) (Kd.C_below HR2.out HB3.out) (HWR2.out.ne HR.out HAW.out) _ ((KeepBut.refl w3 g none).set_ 0 _)
            obtain ⟨W1, hW1⟩ : ∃ W1, W1 = w3.setCell ⟨g, 0, none⟩ (.slice A3 (layL f.f0 at_.toNat l).length c3) := ⟨_, rfl⟩
            rw [← hW1] at hb1 hC3 ⊢
            have HW1 := Aside0.mk hW1
            have k1 : Kp w2 W1 (fun k => k = g) := by rw [hW1]; exact (Kp.of_below HB3.out (fun k => k = g)).setCell (p := ⟨g, 0, none⟩) (.inl rfl) _
            clear hW1 p0 z0
            have q3 : W1.cell? ⟨g, 3, none⟩ = some (.slice Ac2 f.f3.length cc2) := blk_cell hb1 3
            have fz3 := blk_frozen hb1 3
            obtain ⟨rows, hlr, hR, hfk⟩ := N_parts HC.out
            have hLn : (rows.length + 1) * 48 ≤ 140737488355328 := by have := hfok.2.2.1; omega
            have HLN := Aside0.mk hLn
            have hHCL : ∀ W', Below W1.heap.size W1 W' → Calls Try.prog 59 #[.slice A l.length c] W' fun e w' => ∃ A5 c5, e = .returned (.slice A5 l.length c5) ∧ w'.cell? ⟨g, 3, none⟩ = some (.slice Ac2 f.f3.length cc2) ∧ w'.frozen? ⟨g, 3, none⟩ = false ∧
                (w'.alloc (.cells #[.bool false, .int .i64 0, .int .i64 at_, .slice A5 l.length c5] 114 (0, 0))).cell? ⟨g, 3, none⟩ = some (.slice Ac2 f.f3.length cc2) ∧
                Aside0 (k8.R 5 w' W1.heap.size (fun _ => True) (.slice A5 l.length c5) l ∧ Below W1.heap.size W1 w' ∧
                  (Kd.raw 4).R 114 w' 0 (fun _ => True) (.slice Ac2 f.f3.length cc2) rows ∧
                  (∀ w1, w'.grownBy w1 (Value.slice Ac2 f.f3.length cc2).ownBlock → w1.heap[g]? = some (.cells #[.slice A3 (layL f.f0 at_.toNat l).length c3, vs, .bool f.f2, .slice Ac2 f.f3.length cc2] 110 (0, 0)))) := fun W' hW => by
              refine (clone8 A c l W' (Kd.C_below hC3 hW) hl).mono ?_
              rintro e w' ⟨v1, rfl, hr, hb⟩
              obtain ⟨A5, c5, rfl⟩ := Kd.R_slice hr
              have hb2 := below_step hW hb
              have hbg := (hb2.block g (blk_lt hb1)).trans hb1
              have hr' : k8.R 5 w' W1.heap.size (fun _ => True) (.slice A5 l.length c5) l := Kd.R_lower hr hW.size
              refine ⟨A5, c5, rfl, blk_cell hbg 3, blk_frozen hbg 3, blk_cell (((below_alloc (Below.refl _ w') _).block g (blk_lt hbg)).trans hbg) 3, ⟨hr', hb2, ?_, fun w1 hg => (hg.block g (blk_lt hbg) (fun e => ?_)).trans hbg⟩⟩
              · refine Kd.R_mono (Kd.R_step (Kd.raw_tight hR) (fun k hk hlt => (hb2.block k (by have := k1.size; omega)).trans (k1.block k hlt (fun e => ?_)))) (fun _ _ => trivial)
                obtain ⟨cells, hcl⟩ := Kd.N_typed HC.out k hk.symm
                rw [e, HH.out] at hcl; cases hcl
              · obtain ⟨cells, hcl⟩ := Kd.N_typed HC.out g e.symm
                rw [HH.out] at hcl; cases hcl
            have HCL := Aside0.mk hHCL
            have hM : ∀ W A5 c5, (Kd.raw 4).M W 0 (fun _ => False) [.bool false, .int .i64 0, .int .i64 at_, .slice A5 l.length c5] [.bool false, .int .i64 0, .int .i64 at_, .slice A5 l.length c5] := fun W A5 c5 => ⟨rfl, rfl, fun u hu => by
              simp only [List.mem_cons, List.not_mem_nil, or_false] at hu
              rcases hu with rfl | rfl | rfl | rfl <;> rfl⟩
            have HM4 := Aside0.mk hM
            have HB1 := Aside0.mk hb1
            have HC3 := Aside0.mk hC3
            have HK1 := Aside0.mk k1
            have HLR := Aside0.mk hlr
            have HRW := Aside0.mk hR
            have HFK := Aside0.mk hfk
            clear hHCL hM hb1 hC3 k1 hlr hR hfk hLn
            go_region_law (first
              | (go_simp; go_at_call 59; refine (HCL.out _ (below_drew1 (Below.refl _ _))).mono ?_; rintro e w4 ⟨A5, c5, rfl, hq3, hz3, hqa, hx4⟩)
              | (refine Kd.R_append_step (Kd.raw 4) (w0 := w4) 0 (by rfl) (.tmp 95) (.tmp 100) 108 114 (.agg #[.bool false, .int .i64 0, .int .i64 0, .slice none 0 0]) 48 (by rfl) Try.underlying108 info114 (by rfl) (by decide) (by decide) (.slice Ac2 f.f3.length cc2) rows [.bool false, .int .i64 0, .int .i64 at_, .slice A5 l.length c5] [.bool false, .int .i64 0, .int .i64 at_, .slice A5 l.length c5] (fun _ => True) (fun _ => False) (by rfl) (by rfl) (HM4.out _ _ _) (fun _ hk => hk.elim) (fun _ _ => trivial) hx4.out.2.2.1 ((Below.refl 0 w4).mono (Nat.zero_le _)) (Nat.zero_le _) HLN.out ?_; intro v1 w1 hr hb2 hg hat; obtain ⟨A1, c1, rfl⟩ := Kd.R_slice hr; have hbw := Aside0.mk (hx4.out.2.2.2 _ hg); have c3w : w1.cell? ⟨g, 3, none⟩ = some (.slice Ac2 f.f3.length cc2) := blk_cell hbw.out 3; have f3w := blk_frozen hbw.out 3)
              | fail)
            all_goals
              rw [show (rows ++ [[Value.bool false, Value.int .i64 0, Value.int .i64 at_, Value.slice A5 l.length c5]]).length = rows.length + 1 from by simp] at hat hr
              have hmid := write_mid (wf := w1.setCell ⟨g, 3, none⟩ (.slice A1 (rows.length + 1) c1)) HWR2.out HH.out (Kd.N_typed HC.out) (write_kf (W1 := w4) (HK1.out.then_below hx4.out.2.1) hg ((OnlyB.refl _ _).set 3 _))
              obtain ⟨hmp, hcd⟩ := hmid
              obtain ⟨w6, hrun, hm6, htn⟩ := World.ownsMap.store (w := w1.setCell ⟨g, 3, none⟩ (.slice A1 (rows.length + 1) c1)) hmp law9 Try.underlying103 (by have := HTLN.out; unfold tblk; rw [amap_len]; unfold maxLen; omega) (key_str s hs) (val := .pointer (some ⟨g, 0, none⟩)) (d := .lit (.int .i64 g)) (ps := []) rfl
              have HM6 := Aside0.mk hm6
              have HT6 := Aside0.mk htn
              have HG := Aside0.mk hg
              have HAT := Aside0.mk hat
              have HR1 := Aside0.mk hr
              clear hm6 htn hg hat hr hmp
              go_wp2
              go_ret
              rw [HDF.out, if_neg (by have := HFU.out; omega)]
              refine ⟨rfl, ?_⟩
              rw [← HDF1.out]
              exact write_end HWR2.out HH.out HS2.out HO.out HC.out HLR.out HFK.out HB3.out HR3.out HW1.out hx4.out.2.1 hx4.out.1 HG.out HAT.out HR1.out HM6.out (Kp.turned HT6.out)
    | none =>
      obtain ⟨f, hf⟩ : ∃ f, z110 = f := ⟨_, rfl⟩
      have hof : aget s.data.toList D.files = none := hg.trans (by rw [ha]; rfl)
      have hDW : dWrite D s at_ l = dW2 D s false f at_ l := by unfold dWrite; rw [if_neg (by rw [hnb]; decide), hof, ← hf]; rfl
      rw [hDW]
      have HI := Aside0.mk hin
      have HA := Aside0.mk ha
      have HF0 := Aside0.mk hf
      have hc1 : W.cell? ⟨d, 1, none⟩ = some (.map (some m)) := blk_cell hin.2.2.1 1
      have hlk : ∀ k, (Instr.lookup 103 (.map (some m)) (.string s) true).run Try.prog (W.drewN k) = .ok (.tuple #[.pointer none, .bool false]) (W.drewN k) := fun k =>
        (hin.drewN k).2.2.2.1.look s hs none (by rw [hin.get, ha]; rfl)
      have HDF1 := Aside0.mk hDf
      have hfok : FilOk f := by rw [← hf]; exact ⟨by decide, by decide, by decide, fun c hc => by cases hc⟩
      clear hin ha hg hof hDW hf
      go_enter Try.func20, Try.ntmps20
      go_wp2_with fail
      refine (named_calls s hs' W).mono ?_
      rintro e w1 ⟨rfl, hdr⟩
      rw [hnb]
      obtain ⟨k, rfl⟩ := hdr.out
      clear hdr
      have hlk1 := hlk k
      clear hlk
      go_upto_region 8 with (fail)
      have hbb := below_alloc (pw_below_drewN (Below.refl W.heap.size W) k) (.cells #[.slice none 0 0, .slice none 0 0, .bool false, .slice none 0 0] 110 (0, 0))
      have wr := wr_new HI.out HA.out hbb (blk_new (W.drewN k) _)
      generalize (W.drewN k).alloc (.cells #[.slice none 0 0, .slice none 0 0, .bool false, .slice none 0 0] 110 (0, 0)) = w1 at *
      rw [HF0.out] at wr
      clear hlk1 hc1 hbb
      obtain ⟨g, hgW⟩ : ∃ g, W.heap.size = g := ⟨_, rfl⟩
      rw [hgW] at wr ⊢
      have HGW := Aside0.mk hgW
      clear hgW
      obtain ⟨hSb, hob, vn, vs, vc, hh, hn, hs2, hcN, hown⟩ := wr.file
      obtain ⟨An, cn, rfl⟩ := Kd.V_slice hn
      obtain ⟨Ac, cc, rfl⟩ := Kd.N_slice hcN
      have hle := (Kd.V_reads' hn).2.1
      have q0 : w1.cell? ⟨g, 0, none⟩ = some (.slice An f.f0.length cn) := blk_cell hh 0
      have q3 : w1.cell? ⟨g, 3, none⟩ = some (.slice Ac f.f3.length cc) := blk_cell hh 3
      have fz0 := blk_frozen hh 0
      have hd0 : w1.cell? ⟨d, 0, none⟩ = some (.int .i64 D.room) := blk_cell wr.disk.2.2.1 0
      have hd1 : w1.cell? ⟨d, 1, none⟩ = some (.map (some m)) := blk_cell wr.disk.2.2.1 1
      have hmlen : ∀ ty, (Builtin.len_ #[103] ty #[.map (some m)]).run Try.prog w1 = .ok (.int .i64 T.length) w1 := fun ty => by
        have := wr.disk.2.2.2.1.len ty
        unfold tblk at this
        rwa [amap_len] at this
      have hTl : T.length = D.files.length := by rw [← hDf]; unfold tfil; rw [amap_len]
      have HH := Aside0.mk hh
      have HN := Aside0.mk hn
      have HS2 := Aside0.mk hs2
      have HC := Aside0.mk hcN
      have HO := Aside0.mk hown
      have HWR := Aside0.mk wr
      have HTL := Aside0.mk hTl
      have HTLN := Aside0.mk (show T.length ≤ 1000 by have := HOK.out.2.1; omega)
      have HSTILL := Aside0.mk (wr_still H.out wr.below)
      clear hh hn hs2 hcN hown wr hTl
      by_cases hbad : at_ < 0 ∨ (f.f0.length : Int) < at_
      · have hD : dW2 D s false f at_ l = (2, D) := by unfold dW2; rw [if_pos hbad]
        have HDV := Aside0.mk hD
        clear hD
        by_cases h0 : at_ < 0
        · clear hbad
          go_wp2
          go_ret
          rw [HDV.out]
          exact ⟨rfl, HSTILL.out⟩
        · have h1 : (f.f0.length : Int) < at_ := by omega
          clear hbad
          go_wp2
          go_ret
          rw [HDV.out]
          exact ⟨rfl, HSTILL.out⟩
      · have h0 : ¬ at_ < 0 := by omega
        have h1 : ¬ (f.f0.length : Int) < at_ := by omega
        have hb8 : (at_ : Int) ≤ 1000000 := by have := hfok.1; omega
        have hb9 : (f.f0.length : Int) ≤ 1000000 := by have := hfok.1; omega
        have hb10 : 0 ≤ at_ := by omega
        have hb11 : (l.length : Int) ≤ 140737488355328 := by omega
        have HBAD := Aside0.mk hbad
        clear hbad
        go_upto_region 11 with (fail)
        obtain ⟨M, hM⟩ : ∃ M, max 0 (at_ + (l.length : Int) - (f.f0.length : Int)) = M := ⟨_, rfl⟩
        rw [hM]
        have hM0 : 0 ≤ M := by omega
        have hM1 : M ≤ 140737489355328 := by omega
        have HM := Aside0.mk hM
        clear hM
        by_cases hlim : 262144 < (f.f0.length : Int) + M
        · have hD : dW2 D s false f at_ l = (6, D) := by unfold dW2 moreB; rw [if_neg HBAD.out, HM.out, if_pos (.inr hlim)]
          have HDV := Aside0.mk hD
          clear hD
          by_cases h16 : (16 : Int) ≤ (T.length : Int)
          · go_wp2
            go_ret
            rw [HDV.out]
            exact ⟨rfl, HSTILL.out⟩
          · go_wp2
            go_ret
            rw [HDV.out]
            exact ⟨rfl, HSTILL.out⟩
        · by_cases h16 : (16 : Int) ≤ (T.length : Int)
          · have hD : dW2 D s false f at_ l = (6, D) := by unfold dW2 moreB; rw [if_neg HBAD.out, HM.out, if_pos (.inl ⟨rfl, by have := HTL.out; omega⟩)]
            have HDV := Aside0.mk hD
            clear hD
            go_wp2
            go_ret
            rw [HDV.out]
            exact ⟨rfl, HSTILL.out⟩
          · obtain ⟨U, hU⟩ : ∃ U, usedB D.files = U := ⟨_, rfl⟩
            have hDF : dW2 D s false f at_ l = if D.room < (U : Int) + M then (9, D) else (0, ⟨D.room, aput s.data.toList (wFil f at_ l) D.files⟩) := by
              unfold dW2
              rw [if_neg HBAD.out, hU]
              unfold moreB
              rw [HM.out, if_neg (by rintro (⟨h, h'⟩ | h); (have := HTL.out; omega); exact hlim h)]
            have HDF := Aside0.mk hDF
            have hU1 : (U : Int) ≤ 1000000000 := by omega
            have hused : ∀ W', Below w1.heap.size w1 W' → Calls Try.prog 45 #[.pointer (some ⟨d, 0, none⟩)] W' fun e w' => e = .returned (.int .i64 U) ∧ w'.cell? ⟨d, 0, none⟩ = some (.int .i64 D.room) ∧ Aside0 (Below w1.heap.size w1 w') := fun W' hW => by
              refine (used_calls (HSTILL.out.2.below hW) hu).mono ?_
              rintro e w' ⟨rfl, hb⟩
              have hb2 := below_step hW hb
              exact ⟨by rw [hU], (hb2.cell (World.block_lt_of_cell? w1 _ hd0)).trans hd0, ⟨hb2⟩⟩
            have HU := Aside0.mk hused
            clear hused hDF hU
            have hsum : IntKind.i64.wrap ((U : Int) + M) = (U : Int) + M := IntWalk.i64_in _ ⟨by omega, by omega⟩
            by_cases hfull : D.room < (U : Int) + M
            · have hdc : decide (D.room < (U : Int) + M) = true := decide_eq_true hfull
              go_wp2_with fail
              go_region_held3 (fun w' => w'.cell? ⟨d, 0, none⟩ = some (.int .i64 D.room)) (first | assumption | go_keep)
                ((go_at_call 45; refine (HU.out _ (below_drew1 (Below.refl _ _))).mono ?_; rintro e w2 ⟨rfl, hq, hx⟩))
              go_wp2
              go_ret
              rw [HDF.out, if_pos hfull]
              exact ⟨rfl, wr_still H.out (below_step HWR.out.below hx.out)⟩
            · have hdc : decide (D.room < (U : Int) + M) = false := decide_eq_false hfull
              have HFU := Aside0.mk hfull
              clear hfull
              go_wp2_with fail
              go_region_held3 (fun w' => w'.cell? ⟨d, 0, none⟩ = some (.int .i64 D.room)) (first | assumption | go_keep)
                ((go_at_call 45; refine (HU.out _ (below_drew1 (Below.refl _ _))).mono ?_; rintro e w2 ⟨rfl, hq, hx⟩))
              have wr := HWR.out.step hx.out
              have HWR2 := Aside0.mk wr
              have hlB : (f.f0.length : Int) + l.length ≤ 1262144 := by have := HM.out; omega
              have HLB := Aside0.mk hlB
              clear HN HS2 HC HO HH HWR q0 q3 fz0 hd0 hd1 hmlen hq hle hlB
              obtain ⟨hSb, hob, vn, vs, vc, hh, hn, hs2, hcN, hown⟩ := wr.file
              obtain ⟨An2, cn2, rfl⟩ := Kd.V_slice hn
              obtain ⟨Ac2, cc2, rfl⟩ := Kd.N_slice hcN
              have q0 : w2.cell? ⟨g, 0, none⟩ = some (.slice An2 f.f0.length cn2) := blk_cell hh 0
              have HH := Aside0.mk hh
              have HN := Aside0.mk hn
              have HS2 := Aside0.mk hs2
              have HC := Aside0.mk hcN
              have HO := Aside0.mk hown
              have HR2 := Aside0.mk (Kd.C_below HR.out HWR2.out.below)
              clear hh hn hs2 hcN hown wr
              go_wp2_with fail
              refine (lay_calls An2 cn2 f.f0 at_ A c l w2 (Kd.V_reads' HN.out).2.2 HR2.out hc (by omega) (by omega) (by have := HLB.out; omega)).mono ?_
              rintro e w3 ⟨v3, rfl, hr3, hb3⟩
              obtain ⟨A3, c3, rfl⟩ := Kd.R_slice hr3
              have hh3 : w3.heap[g]? = some (.cells #[.slice An2 f.f0.length cn2, vs, .bool f.f2, .slice Ac2 f.f3.length cc2] 110 (0, 0)) := (hb3.block _ (blk_lt HH.out)).trans HH.out
              have p0 : w3.cell? ⟨g, 0, none⟩ = some (.slice An2 f.f0.length cn2) := blk_cell hh3 0
              have z0 := blk_frozen hh3 0
              have HH3 := Aside0.mk hh3
              have HB3 := Aside0.mk hb3
              have HR3 := Aside0.mk hr3
              clear hh3 hb3 hr3 q0
              go_wp2_with fail
              have hb1 : (w3.setCell ⟨g, 0, none⟩ (.slice A3 (layL f.f0 at_.toNat l).length c3)).heap[g]? = some (.cells #[.slice A3 (layL f.f0 at_.toNat l).length c3, vs, .bool f.f2, .slice Ac2 f.f3.length cc2] 110 (0, 0)) := blk_set HH3.out 0 _
              have hC3 : k8.C (w3.setCell ⟨g, 0, none⟩ (.slice A3 (layL f.f0 at_.toNat l).length c3)) A l.length l :=
                Kd.C_foot_ne (g := g) (fun h => h) (Kd.C_below HR2.out HB3.out) (HWR2.out.ne HR.out HAW.out) _ ((KeepBut.refl w3 g none).set_ 0 _)
              obtain ⟨W1, hW1⟩ : ∃ W1, W1 = w3.setCell ⟨g, 0, none⟩ (.slice A3 (layL f.f0 at_.toNat l).length c3) := ⟨_, rfl⟩
              rw [← hW1] at hb1 hC3 ⊢
              have HW1 := Aside0.mk hW1
              have k1 : Kp w2 W1 (fun k => k = g) := by rw [hW1]; exact (Kp.of_below HB3.out (fun k => k = g)).setCell (p := ⟨g, 0, none⟩) (.inl rfl) _
              clear hW1 p0 z0
              have q3 : W1.cell? ⟨g, 3, none⟩ = some (.slice Ac2 f.f3.length cc2) := blk_cell hb1 3
              have fz3 := blk_frozen hb1 3
              obtain ⟨rows, hlr, hR, hfk⟩ := N_parts HC.out
              have hLn : (rows.length + 1) * 48 ≤ 140737488355328 := by have := hfok.2.2.1; omega
              have HLN := Aside0.mk hLn
              have hHCL : ∀ W', Below W1.heap.size W1 W' → Calls Try.prog 59 #[.slice A l.length c] W' fun e w' => ∃ A5 c5, e = .returned (.slice A5 l.length c5) ∧ w'.cell? ⟨g, 3, none⟩ = some (.slice Ac2 f.f3.length cc2) ∧ w'.frozen? ⟨g, 3, none⟩ = false ∧
                  (w'.alloc (.cells #[.bool false, .int .i64 0, .int .i64 at_, .slice A5 l.length c5] 114 (0, 0))).cell? ⟨g, 3, none⟩ = some (.slice Ac2 f.f3.length cc2) ∧
                  Aside0 (k8.R 5 w' W1.heap.size (fun _ => True) (.slice A5 l.length c5) l ∧ Below W1.heap.size W1 w' ∧
                    (Kd.raw 4).R 114 w' 0 (fun _ => True) (.slice Ac2 f.f3.length cc2) rows ∧
                    (∀ w1, w'.grownBy w1 (Value.slice Ac2 f.f3.length cc2).ownBlock → w1.heap[g]? = some (.cells #[.slice A3 (layL f.f0 at_.toNat l).length c3, vs, .bool f.f2, .slice Ac2 f.f3.length cc2] 110 (0, 0)))) := fun W' hW => by
                refine (clone8 A c l W' (Kd.C_below hC3 hW) hl).mono ?_
                rintro e w' ⟨v1, rfl, hr, hb⟩
                obtain ⟨A5, c5, rfl⟩ := Kd.R_slice hr
                have hb2 := below_step hW hb
                have hbg := (hb2.block g (blk_lt hb1)).trans hb1
                have hr' : k8.R 5 w' W1.heap.size (fun _ => True) (.slice A5 l.length c5) l := Kd.R_lower hr hW.size
                refine ⟨A5, c5, rfl, blk_cell hbg 3, blk_frozen hbg 3, blk_cell (((below_alloc (Below.refl _ w') _).block g (blk_lt hbg)).trans hbg) 3, ⟨hr', hb2, ?_, fun w1 hg => (hg.block g (blk_lt hbg) (fun e => ?_)).trans hbg⟩⟩
                · refine Kd.R_mono (Kd.R_step (Kd.raw_tight hR) (fun k hk hlt => (hb2.block k (by have := k1.size; omega)).trans (k1.block k hlt (fun e => ?_)))) (fun _ _ => trivial)
                  obtain ⟨cells, hcl⟩ := Kd.N_typed HC.out k hk.symm
                  rw [e, HH.out] at hcl; cases hcl
                · obtain ⟨cells, hcl⟩ := Kd.N_typed HC.out g e.symm
                  rw [HH.out] at hcl; cases hcl
              have HCL := Aside0.mk hHCL
              have hM : ∀ W A5 c5, (Kd.raw 4).M W 0 (fun _ => False) [.bool false, .int .i64 0, .int .i64 at_, .slice A5 l.length c5] [.bool false, .int .i64 0, .int .i64 at_, .slice A5 l.length c5] := fun W A5 c5 => ⟨rfl, rfl, fun u hu => by
                simp only [List.mem_cons, List.not_mem_nil, or_false] at hu
                rcases hu with rfl | rfl | rfl | rfl <;> rfl⟩
              have HM4 := Aside0.mk hM
              have HB1 := Aside0.mk hb1
              have HC3 := Aside0.mk hC3
              have HK1 := Aside0.mk k1
              have HLR := Aside0.mk hlr
              have HRW := Aside0.mk hR
              have HFK := Aside0.mk hfk
              clear hHCL hM hb1 hC3 k1 hlr hR hfk hLn
              go_region_law (first
                | (go_simp; go_at_call 59; refine (HCL.out _ (below_drew1 (Below.refl _ _))).mono ?_; rintro e w4 ⟨A5, c5, rfl, hq3, hz3, hqa, hx4⟩)
                | (refine Kd.R_append_step (Kd.raw 4) (w0 := w4) 0 (by rfl) (.tmp 95) (.tmp 100) 108 114 (.agg #[.bool false, .int .i64 0, .int .i64 0, .slice none 0 0]) 48 (by rfl) Try.underlying108 info114 (by rfl) (by decide) (by decide) (.slice Ac2 f.f3.length cc2) rows [.bool false, .int .i64 0, .int .i64 at_, .slice A5 l.length c5] [.bool false, .int .i64 0, .int .i64 at_, .slice A5 l.length c5] (fun _ => True) (fun _ => False) (by rfl) (by rfl) (HM4.out _ _ _) (fun _ hk => hk.elim) (fun _ _ => trivial) hx4.out.2.2.1 ((Below.refl 0 w4).mono (Nat.zero_le _)) (Nat.zero_le _) HLN.out ?_; intro v1 w1 hr hb2 hg hat; obtain ⟨A1, c1, rfl⟩ := Kd.R_slice hr; have hbw := Aside0.mk (hx4.out.2.2.2 _ hg); have c3w : w1.cell? ⟨g, 3, none⟩ = some (.slice Ac2 f.f3.length cc2) := blk_cell hbw.out 3; have f3w := blk_frozen hbw.out 3)
                | fail)
              all_goals
                rw [show (rows ++ [[Value.bool false, Value.int .i64 0, Value.int .i64 at_, Value.slice A5 l.length c5]]).length = rows.length + 1 from by simp] at hat hr
                have hmid := write_mid (wf := w1.setCell ⟨g, 3, none⟩ (.slice A1 (rows.length + 1) c1)) HWR2.out HH.out (Kd.N_typed HC.out) (write_kf (W1 := w4) (HK1.out.then_below hx4.out.2.1) hg ((OnlyB.refl _ _).set 3 _))
                obtain ⟨hmp, hcd⟩ := hmid
                obtain ⟨w6, hrun, hm6, htn⟩ := World.ownsMap.store (w := w1.setCell ⟨g, 3, none⟩ (.slice A1 (rows.length + 1) c1)) hmp law9 Try.underlying103 (by have := HTLN.out; unfold tblk; rw [amap_len]; unfold maxLen; omega) (key_str s hs) (val := .pointer (some ⟨g, 0, none⟩)) (d := .lit (.int .i64 g)) (ps := []) rfl
                have HM6 := Aside0.mk hm6
                have HT6 := Aside0.mk htn
                have HG := Aside0.mk hg
                have HAT := Aside0.mk hat
                have HR1 := Aside0.mk hr
                clear hm6 htn hg hat hr hmp
                go_wp2
                go_ret
                rw [HDF.out, if_neg (by have := HFU.out; omega)]
                refine ⟨rfl, ?_⟩
                rw [← HDF1.out]
                exact write_end HWR2.out HH.out HS2.out HO.out HC.out HLR.out HFK.out HB3.out HR3.out HW1.out hx4.out.2.1 hx4.out.1 HG.out HAT.out HR1.out HM6.out (Kp.turned HT6.out)
end Go.Proofs.Ytmmiipnmimjojaa.PS
