/- The law's texts and its row. -/
import Derived.Test.YtmmiipnmimjojaaJ23
import Derived.Test.YtmmiipnmimjojaaRows
import Derived.WalkKit
import Derived.ProofKit
import Derived.OpenShut
import Derived.ShutString
import Derived.ChangeOld
import Derived.Below
import Derived.SizedLaws
section
namespace Go.Proofs.Ytmmiipnmimjojaa.PS
open Go.RowKit Go.Proofs.YtmmiipnmimjojaaW.PrintWords Go.Proofs.YtmmiipnmimjojaaW.PrintLast Go.Proofs.YtmmiipnmimjojaaW.PrintMore
open Go.Maps Go.Proofs.Ytmmiipnmimjojaa.PD
set_option linter.unusedVariables false
set_option linter.unusedSimpArgs false
set_option maxHeartbeats 8000000 in
set_option maxRecDepth 100000 in
theorem walLasts_calls {W : World} {A Ak : Option Addr} {c ck : Nat} {l : List S85} {keep : List Int} (h : k85.C W A l.length l) (hc : l.length ≤ c) (hk : (Kd.int .i64).C W Ak keep.length keep) (hck : keep.length ≤ ck) (hl : l.length ≤ 140737488355328) (hkl : keep.length ≤ 140737488355328) (hkb : ∀ z ∈ keep, z ≤ 9223372036854775807) (hd : ∀ x ∈ l, DOk x) :
    Calls Try.prog 15 #[.slice A l.length c, .slice Ak keep.length ck] W fun e w' => e = .returned (.bool true) ∧ Below W.heap.size W w' := by
  have HC := Aside0.mk h
  have HK := Aside0.mk hk
  have HD := Aside0.mk hd
  have HKB := Aside0.mk hkb
  clear h hk hd hkb
  go_enter Try.func15, Try.ntmps15
  go_wp2_with fail
  refine (dk_new 20000 (by decide) W).mono ?_
  rintro e w1 ⟨g, S1, rfl, hd1⟩
  have HD1 := Aside0.mk (show Dk W w1 S1 g 0 ⟨20000, []⟩ from hd1)
  clear hd1
  go_wp2_with fail
  refine (lg_begin HD1.out (by decide)).mono ?_
  rintro e w2 ⟨S2, Q2, L, D2, M2, rfl, hl2, hn2, hs2, hr2, hB2, hL2, hq2⟩
  have HL2 := Aside0.mk hl2
  clear hl2 hn2 hs2 hr2 hB2 hL2 hq2
  by_cases hk50 : (keep.length : Int) > 50
  · have c0 : decide ((keep.length : Int) > 50) = true := decide_eq_true hk50
    go_wp2_with fail
    refine (wlive_calls _).mono ?_
    rintro e w3 ⟨rfl, hb3⟩
    have HB3 := Aside0.mk (below_step HL2.out.wl.dk.1 hb3)
    clear hb3
    go_wp2_with fail
    go_ret
    exact ⟨rfl, HB3.out⟩
  · have c0 : decide ((keep.length : Int) > 50) = false := decide_eq_false hk50
    go_wp2_with fail
    refine (lg_state HL2.out).mono ?_
    rintro e w3 ⟨v, rfl, hn3, hb3⟩
    obtain ⟨A3, c3, rfl⟩ := Kd.N_slice hn3
    have HL3 := Aside0.mk (HL2.out.below hb3)
    have HFK := Aside0.mk (told_FK hn3)
    have HOK := Aside0.mk (fun k (hk : w2.heap.size ≤ k) => okQ_new HL2.out.wl k hk)
    have hsz := hb3.size
    have HSE := Aside0.mk (Seen.one HL2.out.li rfl)
    clear hn3 hb3
    go_upto_block 0 with ((with_reducible refine gate_dst (N := 40) rfl ?_); refine Kd.N_lit k87 (w0 := W) W.heap.size 87 ?hg (N' := 40) ?hd (xs := [M2.st.s87]) (inner := [.int .i64 M2.st.bi, .int .i64 M2.st.bt, .int .i64 M2.st.ht, .int .i64 M2.st.hv, .slice A3 M2.st.es.length c3]) (ok := okQ S2 Q2 L) (okp := fun k => w2.heap.size ≤ k) ?hr ?hp (fun k hk => HOK.out k hk) (HOK.out _ hsz) HL3.out.wl.dk.1 HL3.out.wl.dk.1.size (by simp) ?_; (case hd => rfl); (case hg => rfl); (case hr => first | (go_simp; done) | (go_simp; rfl)); (case hp => exact Reps.snoc (Reps.none _ _) HFK.out rfl); intro v5 w5 hN5 hb5 hg5 hat5; have HI5 := Aside0.mk (show LsI W w5 S2 Q2 g 2 L D2 M2 WS.zero.recs 2 v5 [M2.st] from ⟨HL3.out.grown hg5 hb5 (fun k hk _ => by cases hk), HSE.out, hN5, fun s hs => by rw [List.mem_singleton.1 hs]; exact HL3.out.few⟩); clear hN5 hb5 hg5 hat5)
    clear hsz
    go_cut [8] (fun v8 w' => ∃ v : Value, v = v8 ∧ Aside0 (∃ S Q N D M recs p ls, LsI W w' S Q g N L D M recs p v ls ∧ (N : Int) ≤ 40000 ∧ (ls.length : Int) ≤ 20000))
    case first =>
      go_wp2_with fail
      go_loopg [8, 9] 60 (fun kq v8 v9 w' => ∃ (i : Int) (v : Value), v9 = .int .i64 i ∧ v = v8 ∧ 0 ≤ i ∧ i + kq = 60 ∧ i ≤ l.length ∧ Aside0 (∃ S Q N D M recs p ls, LsI W w' S Q g N L D M recs p v ls ∧ (N : Int) ≤ 2 + 604 * i ∧ (ls.length : Int) ≤ 1 + 303 * i))
      case atStart => exact ⟨0, _, rfl, rfl, by omega, by omega, by omega, ⟨_, _, _, _, _, _, _, _, HI5.out, by omega, by simp⟩⟩
      case round =>
        obtain ⟨i, v, rfl, rfl, i0, i1, i2, HREL⟩ := hrel
        obtain ⟨S, Q, N, D, M, recs, p, ls, hlg, hN, hls⟩ := HREL.out
        have HLG := Aside0.mk hlg
        clear hlg HREL HI5
        by_cases hi : i < (l.length : Int)
        · by_cases hi2 : i < 60
          · have c6 : decide (i < (l.length : Int)) = true := decide_eq_true hi
            have c7 : decide (i < 60) = true := decide_eq_true hi2
            obtain ⟨ad, x, A1, c1, A6, c6', rfl, hxl, hx, hxf⟩ := deedW_of HC.out i0 hi
            have hxo := HD.out x hxl
            have hx' := hx.below HLG.out.lg.wl.dk.1
            obtain ⟨n0, n1, n2, n3, n4, n5, n6⟩ := hx'
            have p0 := eq_true i0
            have p1 := eq_true hi
            have hni : IntKind.i64.wrap (i + 1) = i + 1 := IntWalk.i64_in _ ⟨by omega, by omega⟩
            have HXF := Aside0.mk hxf
            have HXO := Aside0.mk hxo
            clear hx hxl hxf hxo
            go_upto_region 10 with (fail)
            obtain ⟨T, hT⟩ : ∃ T, wr.heap.size = T := ⟨_, rfl⟩
            obtain ⟨wa, hwa⟩ : ∃ wa, wa = wr.alloc (.cells #[.int .i64 x.f0, .slice A1 x.f1.length c1, .int .i64 x.f2.f0, .int .i64 x.f2.f1, .int .i64 x.f3.f0, .int .i64 x.f3.f1, .slice A6 x.f4.length c6'] 85) := ⟨_, rfl⟩
            have hba : Below wr.heap.size wr wa := by rw [hwa]; exact below_alloc (Below.refl _ _) _
            have hka : wa.heap[T]? = some (.cells #[.int .i64 x.f0, .slice A1 x.f1.length c1, .int .i64 x.f2.f0, .int .i64 x.f2.f1, .int .i64 x.f3.f0, .int .i64 x.f3.f1, .slice A6 x.f4.length c6'] 85 (0, 0)) := by rw [hwa, ← hT]; exact blk_new wr _
            have HTT := Aside0.mk hT
            have HLA := Aside0.mk (HLG.out.below hba)
            have HKA := Aside0.mk (show By wa S L T (.cells #[.int .i64 x.f0, .slice A1 x.f1.length c1, .int .i64 x.f2.f0, .int .i64 x.f2.f1, .int .i64 x.f3.f0, .int .i64 x.f3.f1, .slice A6 x.f4.length c6'] 85 (0, 0)) from ⟨hka, fun hS => by have := (HLG.out.lg.wl.dk.2.1 T hS).2; have := HTT.out; omega, fun e => by have := (HLG.out.lg.wl.q L HLG.out.lg.wl.lg.1).2.1; have := HTT.out; omega⟩)
            clear hba hka n0 n1 n2 n3 n4 n5 n6 hT
            rw [HTT.out, ← hwa]
            clear hwa
            go_upto_block 2 with (fail)
            obtain ⟨b, hbt, hsc⟩ := short_calls6 (W := wa) (x := x) (Kd.C_below HXF.out.C1 HLA.out.lg.wl.dk.1) HXF.out.l1 (Kd.C_below HXF.out.C6 HLA.out.lg.wl.dk.1) HXF.out.l6 HXO.out.len
            have HBT := Aside0.mk hbt
            have HSC := Aside0.mk hsc
            have k0 : wa.cell? ⟨T, 0, none⟩ = some (.int .i64 x.f0) := blk_cell HKA.out.at_ 0
            have k1 : wa.cell? ⟨T, 1, none⟩ = some (.slice A1 x.f1.length c1) := blk_cell HKA.out.at_ 1
            have k2 : wa.cell? ⟨T, 2, none⟩ = some (.int .i64 x.f2.f0) := blk_cell HKA.out.at_ 2
            have k3 : wa.cell? ⟨T, 3, none⟩ = some (.int .i64 x.f2.f1) := blk_cell HKA.out.at_ 3
            have k4 : wa.cell? ⟨T, 4, none⟩ = some (.int .i64 x.f3.f0) := blk_cell HKA.out.at_ 4
            have k5 : wa.cell? ⟨T, 5, none⟩ = some (.int .i64 x.f3.f1) := blk_cell HKA.out.at_ 5
            have k6 : wa.cell? ⟨T, 6, none⟩ = some (.slice A6 x.f4.length c6') := blk_cell HKA.out.at_ 6
            clear hbt hsc
            go_cut [8, 11] (fun v8 v11 w' => ∃ (b : Bool) (v' : Value), v' = v8 ∧ v11 = .bool b ∧ Aside0 (∃ S Q N' D M recs p ls', LsP W w' S Q g N' L D M recs p (if b then .slice none 0 0 else v') (if b then [] else ls') ∧ (N' : Int) ≤ N + 602 ∧ (ls'.length : Int) ≤ ls.length + 301))
            case first =>
              go_wp2_with fail
              refine HSC.out.mono ?_
              rintro e wd ⟨rfl, hbd⟩
              have HLD := Aside0.mk (HLA.out.below hbd)
              have HKD := Aside0.mk ((Bys.of_below (S := S) (L := L) hbd).keep _ _ HKA.out)
              have k0 : wd.cell? ⟨T, 0, none⟩ = some (.int .i64 x.f0) := blk_cell HKD.out.at_ 0
              have k2 : wd.cell? ⟨T, 2, none⟩ = some (.int .i64 x.f2.f0) := blk_cell HKD.out.at_ 2
              have k3 : wd.cell? ⟨T, 3, none⟩ = some (.int .i64 x.f2.f1) := blk_cell HKD.out.at_ 3
              have k4 : wd.cell? ⟨T, 4, none⟩ = some (.int .i64 x.f3.f0) := blk_cell HKD.out.at_ 4
              have k5 : wd.cell? ⟨T, 5, none⟩ = some (.int .i64 x.f3.f1) := blk_cell HKD.out.at_ 5
              clear hbd
              have HID := Aside0.mk (show ∃ S Q N' D M recs p ls', LsP W wd S Q g N' L D M recs p (if false then .slice none 0 0 else v) (if false then [] else ls') ∧ (N' : Int) ≤ N + 602 ∧ (ls'.length : Int) ≤ ls.length + 301 from ⟨S, Q, N, D, M, recs, p, ls, HLD.out.toP, by omega, by omega⟩)
              cases hbb : b with
              | false =>
                subst hbb
                go_wp2_with fail
                go_meet
                case rel => exact ⟨false, v, rfl, rfl, HID⟩
              | true =>
                subst hbb
                have hsh := HBT.out rfl
                obtain ⟨x0, hx0⟩ : ∃ x0, x.f0 = x0 := ⟨_, rfl⟩
                rw [hx0] at k0
                clear hx0
                by_cases q0 : x0 = 0
                · subst q0
                  clear k2 k3 k4 k5
                  go_wp2_with fail
                  go_loopg [8, 12] x.f1.length (fun kq v8 v12 w' => ∃ (k : Nat) (v' : Value), v12 = .int .i64 (k : Int) ∧ v' = v8 ∧ k + kq = x.f1.length ∧ Aside0 (∃ S Q N' D M recs p ls', LsI W w' S Q g N' L D M recs p v' ls' ∧ (N' : Int) ≤ N + 2 * k ∧ (ls'.length : Int) ≤ ls.length + k ∧ By w' S L T (.cells #[.int .i64 x.f0, .slice A1 x.f1.length c1, .int .i64 x.f2.f0, .int .i64 x.f2.f1, .int .i64 x.f3.f0, .int .i64 x.f3.f1, .slice A6 x.f4.length c6'] 85 (0, 0))))
                  case atStart => exact ⟨0, v, rfl, rfl, by omega, ⟨S, Q, N, D, M, recs, p, ls, HLD.out, by omega, by omega, HKD.out⟩⟩
                  case round =>
                    obtain ⟨k, v', rfl, rfl, hkq, HRL2⟩ := hrel
                    obtain ⟨S2, Q2, N2, D2, M2, recs2, p2, ls2, hli, hN2, hls2, hT2⟩ := HRL2.out
                    have HLI := Aside0.mk hli
                    have HT2 := Aside0.mk hT2
                    clear hli hT2 HRL2
                    have k1 := blk_cell HT2.out.at_ 1
                    by_cases hk : (k : Int) < (x.f1.length : Int)
                    · have c8 : decide ((k : Int) < (x.f1.length : Int)) = true := decide_eq_true hk
                      have hnk : IntKind.i64.wrap ((k : Int) + 1) = (k : Int) + 1 := IntWalk.i64_in _ ⟨by omega, by omega⟩
                      obtain ⟨ad3, A3, c3, e3, y0, y1, y2, y3, l3, C3⟩ := at_T48 HXF.out.C1 (k : Int) (by omega) hk
                      rw [e3] at k1
                      obtain ⟨y, hy⟩ : ∃ y, rd_T48 x.f1 (k : Int) = y := ⟨_, rfl⟩
                      have hyx : y ∈ x.f1 := by rw [← hy]; unfold rd_T48; rw [List.getD_eq_getElem?_getD, List.getElem?_eq_getElem (by omega)]; exact List.getElem_mem _
                      have HYB := Aside0.mk (HXO.out.es y hyx)
                      rw [hy] at y0 y1 y2 y3 l3 C3
                      rw [Int.toNat_natCast] at y0 y1 y2 y3
                      have HC3 := Aside0.mk C3
                      have HB0 := HLI.out.lg.wl.dk.1
                      have y0 := (HB0.cell (World.block_lt_of_cell? W _ y0)).trans y0
                      have y1 := (HB0.cell (World.block_lt_of_cell? W _ y1)).trans y1
                      have y2 := (HB0.cell (World.block_lt_of_cell? W _ y2)).trans y2
                      have y3 := (HB0.cell (World.block_lt_of_cell? W _ y3)).trans y3
                      have hsize0 := HB0.size
                      clear hy hyx C3 HB0 e3
                      have p2 := eq_true (show (0 : Int) ≤ (k : Int) by omega)
                      have p3 := eq_true hk
                      skip
                      have hba := below_alloc (Below.refl wr.heap.size wr) (.cells #[.int .i64 y.f0, .int .i64 y.f1, .int .i64 y.f2, .slice A3 y.f3.length c3] 48)
                      have HIA := Aside0.mk (HLI.out.below hba)
                      have HTA := Aside0.mk ((Bys.of_below (S := S2) (L := L) hba).keep _ _ HT2.out)
                      have hbk := blk_new wr (.cells #[.int .i64 y.f0, .int .i64 y.f1, .int .i64 y.f2, .slice A3 y.f3.length c3] 48)
                      have HF1 := Aside0.mk (Kd.F_mono (F_one (x := y) (Ax := A3) (cx := c3) (ok := fun k => k < W.heap.size) hbk l3 (Kd.F_below (Kd.F_below (Kd.C_F (Kd.heap_int .u8) HC3.out) HLI.out.lg.wl.dk.1) hba)) (ok' := fun k => (¬ S2 k ∧ k ≠ L) ∧ k < (wr.alloc (.cells #[.int .i64 y.f0, .int .i64 y.f1, .int .i64 y.f2, .slice A3 y.f3.length c3] 48)).heap.size) (fun k hk => by
                        rw [World.size_alloc]
                        rcases hk with hk | hk
                        · exact ⟨⟨fun hS => by have := (HLI.out.lg.wl.dk.2.1 k hS).1; omega, fun e => by have := (HLI.out.lg.wl.q L HLI.out.lg.wl.lg.1).1; omega⟩, by omega⟩
                        · exact ⟨⟨fun hS => by have := (HLI.out.lg.wl.dk.2.1 k hS).2; omega, fun e => by have := (HLI.out.lg.wl.q L HLI.out.lg.wl.lg.1).2.1; omega⟩, by omega⟩))
                      clear hba hbk
                      have HCA := Aside0.mk (lg_append (es := [y]) (ce := 1) HIA.out.lg (by omega) HF1.out (Nat.le_refl _) (by simp) (fun z hz => by rw [List.mem_singleton.1 hz]; exact HYB.out))
                      go_wp2_with fail
                      refine HCA.out.mono ?_
                      rintro e w5 ⟨rfl, haf⟩
                      have HP : Aside0 (∃ S Q D M recs p, LsP W w5 S Q g (N2 + 2) L D M recs p v' ls2 ∧ By w5 S L T (.cells #[.int .i64 x.f0, .slice A1 x.f1.length c1, .int .i64 x.f2.f0, .int .i64 x.f2.f1, .int .i64 x.f3.f0, .int .i64 x.f3.f1, .slice A6 x.f4.length c6'] 85 (0, 0))) := ⟨by
                        obtain ⟨S', Q', recs', p', hl', ⟨hc1, hc2⟩, hB', hq'⟩ := haf
                        by_cases hz : (lgAppend D2 M2 [y]).1 = 0
                        · obtain ⟨_, _, hcs⟩ := hc1 hz
                          exact ⟨S', Q', _, _, recs', p', HIA.out.deed hl' (rs := [.ent y]) (by simp) hcs hB' hq', hB'.keep _ _ HTA.out⟩
                        · obtain ⟨_, hcs⟩ := hc2 hz
                          exact ⟨S', Q', _, _, recs', p', HIA.out.deed hl' (rs := []) (by simp) (by simpa using hcs) hB' hq', hB'.keep _ _ HTA.out⟩⟩
                      clear haf y0 y1 y2 y3 k1
                      obtain ⟨S3, Q3, D3, M3, recs3, p3', hp3, ht3⟩ := HP.out
                      have HP3 := Aside0.mk hp3
                      have HT3 := Aside0.mk ht3
                      clear hp3 ht3 HP
                      go_wp2_with fail
                      refine (lg_state HP3.out.lg).mono ?_
                      rintro e w6 ⟨v6, rfl, hn6, hb6⟩
                      obtain ⟨A6', c6x, rfl⟩ := Kd.N_slice hn6
                      have HP6 := Aside0.mk (HP3.out.below hb6)
                      have HT6 := Aside0.mk ((Bys.of_below (S := S3) (L := L) hb6).keep _ _ HT3.out)
                      have HFK6 := Aside0.mk (told_FK hn6)
                      have HOK6 := Aside0.mk (fun k (hk : w5.heap.size ≤ k) => (⟨okQ_new HP3.out.lg.wl k hk, fun e => by have := Kd.N_lt HP3.out.row k e.symm; omega⟩ : okQ S3 Q3 L k ∧ some k ≠ v'.ownBlock))
                      have hsz6 := hb6.size
                      clear hn6 hb6
                      go_wp2_with ((with_reducible refine gate_dst (N := 82) rfl ?_); refine Kd.N_append k87 (w0 := W) W.heap.size rfl (.tmp 78) (.tmp 81) 94 87 _ 56 rfl Try.underlying94 info87 rfl (by decide) (by decide) v' (ls2.map WS.s87) M3.st.s87 [.int .i64 M3.st.bi, .int .i64 M3.st.bt, .int .i64 M3.st.ht, .int .i64 M3.st.hv, .slice A6' M3.st.es.length c6x] (okQ S3 Q3 L) (fun k => w5.heap.size ≤ k) rfl rfl HFK6.out (fun k hk => HOK6.out k hk) (fun k hk => (HOK6.out k (Nat.le_trans hsz6 hk)).1) HP6.out.row HP6.out.lg.wl.dk.1 HP6.out.lg.wl.dk.1.size (by rw [List.length_map]; omega) ?_; intro v7 w7 hN7 hb7 hg7 hat7; have HI7 := Aside0.mk (HP6.out.more rfl hg7 hb7 hN7); have HT7 := Aside0.mk (show By w7 S3 L T (.cells #[.int .i64 x.f0, .slice A1 x.f1.length c1, .int .i64 x.f2.f0, .int .i64 x.f2.f1, .int .i64 x.f3.f0, .int .i64 x.f3.f1, .slice A6 x.f4.length c6'] 85 (0, 0)) from ⟨(hg7.block T (blk_lt HT6.out.at_) (Kd.N_ne HP6.out.row HT6.out.at_ (by decide))).trans HT6.out.at_, HT6.out.ns, HT6.out.nl⟩); clear hN7 hb7 hg7 hat7)
                      go_roundg (gk - 1)
                      case measure => omega
                      case rel => exact ⟨k + 1, v7, rfl, rfl, by omega, ⟨S3, Q3, N2 + 2, D3, M3, recs3, p3', _, HI7.out, by omega, by rw [List.length_append]; simp; omega, HT7.out⟩⟩
                    · have c8 : decide ((k : Int) < (x.f1.length : Int)) = false := decide_eq_false hk
                      go_wp2_with fail
                      go_meet
                      case rel => exact ⟨false, v', rfl, rfl, ⟨S2, Q2, N2, D2, M2, recs2, p2, ls2, HLI.out.toP, by omega, by omega⟩⟩
                · have b0 : (x0 == 0) = false := beq_eq_false_iff_ne.mpr q0
                  by_cases q1 : x0 = 1
                  · subst q1
                    obtain ⟨rr, hrr⟩ : ∃ rr, lgHard D M x.f2.f0 x.f2.f1 = rr := ⟨_, rfl⟩
                    have HCL := Aside0.mk (lg_hard (t := x.f2.f0) (u := x.f2.f1) HLD.out.lg (by omega))
                    rw [hrr] at HCL
                    clear hrr
                    go_wp2_with fail
                    refine HCL.out.mono ?_
                    rintro e we ⟨rfl, haf⟩
                    have HAF := Aside0.mk haf
                    clear haf
                    go_wp2_with fail
                    go_meet
                    case rel =>
                      obtain ⟨S', Q', recs', p', hl', ⟨hst, hcs⟩, hB', hq'⟩ := HAF.out
                      refine ⟨false, v, rfl, rfl, ⟨S', Q', N + 2, rr.2.1, rr.2.2, recs', p', ls, ?_, by omega, by omega⟩⟩
                      rcases hcs with hcs | hcs | ⟨hcs, _⟩
                      · exact HLD.out.deed hl' (rs := []) (by simp) (.inl ⟨by simp [hcs.1], hcs.2⟩) hB' hq'
                      · exact HLD.out.deed hl' (rs := []) (by simp) (.inr ⟨by simp [hcs.1], hcs.2⟩) hB' hq'
                      · exact HLD.out.deed hl' (rs := [.hard x.f2.f0 x.f2.f1]) (by simp) hcs hB' hq'
                  · have b1 : (x0 == 1) = false := beq_eq_false_iff_ne.mpr q1
                    by_cases q2 : x0 = 2
                    · subst q2
                      have HCL := Aside0.mk (lg_sync HLD.out.lg (by omega))
                      go_wp2_with fail
                      refine HCL.out.mono ?_
                      rintro e we ⟨rfl, haf⟩
                      have HAF := Aside0.mk haf
                      clear haf
                      go_wp2_with fail
                      go_meet
                      case rel =>
                        obtain ⟨S', Q', recs', p', hl', ⟨hr', hp'⟩, hB', hq'⟩ := HAF.out
                        exact ⟨true, v, rfl, rfl, ⟨S', Q', N, _, _, recs', p', ls, LsP.sure hl' (by rw [hr', hp']), by omega, by omega⟩⟩
                    · have b2 : (x0 == 2) = false := beq_eq_false_iff_ne.mpr q2
                      by_cases q3 : x0 = 3
                      · subst q3
                        obtain ⟨rr, hrr⟩ : ∃ rr, lgCompact D M x.f3.f0 = rr := ⟨_, rfl⟩
                        have hcl := fun X (hX : Below wd.heap.size wd X) => lg_compact (i := x.f3.f0) (HLD.out.lg.below hX) (by omega) HXO.out.mark
                        rw [hrr] at hcl
                        clear hrr
                        obtain ⟨l0, hl0⟩ := HLD.out.seen.last
                        have hll : ls.length = l0.length + 1 := by rw [hl0]; simp
                        have hlj : ls[l0.length]? = some M.st := by rw [hl0]; simp
                        obtain ⟨adv, cv, A4, c4, ev, z0, _, _⟩ := HLD.out.row.at_ hlj
                        subst ev
                        obtain ⟨m5, hm5⟩ : ∃ m5, ls.length = m5 := ⟨_, rfl⟩
                        have h15 : 1 ≤ m5 := by omega
                        have hn5b : (m5 : Int) ≤ 20000 := by omega
                        rw [show l0.length = m5 - 1 by omega] at z0 hlj
                        have HHJ := Aside0.mk hlj
                        have HLL := Aside0.mk hm5
                        rw [hm5]
                        clear hm5 hl0 hll hlj
                        have HCL := Aside0.mk (show ∀ X, Below wd.heap.size wd X → Calls Try.prog 51 #[.pointer (some ⟨L, 0, none⟩), .int .i64 x.f3.f0] X fun e w' => e = .returned (.int .i64 rr.1) ∧ (w'.cell? ⟨T, 4, none⟩ = some (.int .i64 x.f3.f0) ∧ w'.cell? (adv.add ((m5 - 1) * 5)) = some (.int .i64 M.st.bi)) ∧ Aside0 ((rr.1 = 0 ∧ M.st.bi < x.f3.f0 → ∃ S Q D M recs p, LsP W w' S Q g (N + 1) L D M recs p (.slice none 0 0) []) ∧ (¬ (rr.1 = 0 ∧ M.st.bi < x.f3.f0) → ∃ S Q D M recs p, LsP W w' S Q g (N + 1) L D M recs p (.slice (some adv) m5 cv) ls)) from fun X hX => (hcl X hX).mono (by
                          rintro e w' ⟨he, S', Q', recs', p', hl', hcs, hB', hq'⟩
                          refine ⟨he, ⟨blk_cell (hB'.keep _ _ ((Bys.of_below (S := S) (L := L) hX).keep _ _ HKD.out)).at_ 4, ?_⟩, ⟨fun hh => ?_, fun hh => ?_⟩⟩
                          · obtain ⟨_, _, _, _, ev2, z2, _, _⟩ := ((HLD.out.row.below hX).bys hB' hq').at_ HHJ.out
                            injection ev2 with ev2 _ _
                            injection ev2 with ev2
                            rw [ev2]; exact z2
                          · rcases hcs with hcs | hcs
                            · exact absurd hh (fun hh => by rcases hcs.1 with h1 | h1; · exact h1 hh.1
                                                            · have := hh.2; omega)
                            · exact ⟨S', Q', _, _, recs', p', LsP.sure hl' hcs.2.2.1⟩
                          · rcases hcs with hcs | hcs
                            · exact ⟨S', Q', _, _, recs', p', by have h5 := (HLD.out.below hX).deed hl' (rs := []) (by simp) (.inl ⟨by simp [hcs.2.2.1], hcs.2.2.2⟩) hB' hq'; rw [HLL.out] at h5; exact h5⟩
                            · exact absurd ⟨hcs.1, hcs.2.1⟩ hh))
                        clear hcl
                        go_upto_region 23 with (fail)
                        by_cases hz : rr.1 = 0
                        · have cz : (rr.1 == 0) = true := by rw [hz]; rfl
                          by_cases hgt : M.st.bi < x.f3.f0
                          · have cg : decide (x.f3.f0 > M.st.bi) = true := decide_eq_true hgt
                            have hw1 : IntKind.i64.wrap ((m5 : Int) - 1) = (m5 : Int) - 1 := IntWalk.i64_in _ ⟨by omega, by omega⟩
                            have p2 := eq_true (show (0 : Int) ≤ (m5 : Int) - 1 by omega)
                            have p3 := eq_true (show (m5 : Int) - 1 < (m5 : Int) by omega)
                            have p4 := eq_true (show (1 : Int) ≤ (m5 : Int) by omega)
                            have p5 : 0 < m5 := h15
                            go_region_held3 (fun w' => w'.cell? ⟨T, 4, none⟩ = some (.int .i64 x.f3.f0) ∧ w'.cell? (adv.add ((m5 - 1) * 5)) = some (.int .i64 M.st.bi)) (first | assumption | go_keep) (first | (go_at_call 51; refine (HCL.out _ (by first | exact Below.refl _ _ | exact below_drew1 (Below.refl _ _))).mono ?_; rintro e1 we ⟨rfl, hq, hx⟩))
                            go_wp2_with fail
                            go_meet
                            case rel =>
                              obtain ⟨S', Q', D', M', recs', p', hp'⟩ := hx.out.1 ⟨hz, hgt⟩
                              exact ⟨true, _, rfl, rfl, ⟨S', Q', N + 1, D', M', recs', p', ls, (by first | exact hp' | exact hp'.below (pw_below_drewN (Below.refl _ _) _)), by omega, by omega⟩⟩
                          · have cg : decide (x.f3.f0 > M.st.bi) = false := decide_eq_false hgt
                            have hw1 : IntKind.i64.wrap ((m5 : Int) - 1) = (m5 : Int) - 1 := IntWalk.i64_in _ ⟨by omega, by omega⟩
                            have p2 := eq_true (show (0 : Int) ≤ (m5 : Int) - 1 by omega)
                            have p3 := eq_true (show (m5 : Int) - 1 < (m5 : Int) by omega)
                            have p4 := eq_true (show (1 : Int) ≤ (m5 : Int) by omega)
                            have p5 : 0 < m5 := h15
                            go_region_held3 (fun w' => w'.cell? ⟨T, 4, none⟩ = some (.int .i64 x.f3.f0) ∧ w'.cell? (adv.add ((m5 - 1) * 5)) = some (.int .i64 M.st.bi)) (first | assumption | go_keep) (first | (go_at_call 51; refine (HCL.out _ (by first | exact Below.refl _ _ | exact below_drew1 (Below.refl _ _))).mono ?_; rintro e1 we ⟨rfl, hq, hx⟩))
                            go_wp2_with fail
                            go_meet
                            case rel =>
                              obtain ⟨S', Q', D', M', recs', p', hp'⟩ := hx.out.2 (fun hh => by have := hh.2; omega)
                              exact ⟨false, _, rfl, rfl, ⟨S', Q', N + 1, D', M', recs', p', ls, (by first | exact hp' | exact hp'.below (pw_below_drewN (Below.refl _ _) _)), by omega, by have := HLL.out; omega⟩⟩
                        · have cz : (rr.1 == 0) = false := beq_eq_false_iff_ne.mpr hz
                          have cz2 : decide (rr.1 = 0) = false := decide_eq_false hz
                          have cz3 : (rr.1 = 0) = False := eq_false hz
                          refine wp_region_held_drew (S := (fun w' => w'.cell? ⟨T, 4, none⟩ = some (.int .i64 x.f3.f0) ∧ w'.cell? (adv.add ((m5 - 1) * 5)) = some (.int .i64 M.st.bi))) (by kernel_rfl) ⟨k4, z0⟩ (fun hHeld => ?_)
                          refine wpAnyH_take (i := 0) (oi := ?oia0) (v := .pointer (some ⟨L, 0, none⟩)) ?hia0 (by kernel_rfl) (by kernel_rfl) (by kernel_rfl) ?hqa0 (Or.inl ⟨?hwa0, ?hya0⟩) (by assumption) ?_
                          case hia0 => (simp only [List.getElem?_toArray, List.getElem?_cons_zero, List.getElem?_cons_succ]; rfl)
                          case hqa0 => exact fun _ _ _ h => h
                          case hwa0 => rfl
                          case hya0 => (intro w hSw; (try dsimp only at hSw); go_simp; try (with_reducible rfl))
                          try simp only [Act.put, List.setIfInBounds_toArray, List.set_cons_zero, List.set_cons_succ]
                          refine wpAnyH_take (i := 1) (oi := ?oia1) (v := .pointer (some ⟨T, 4, none⟩)) ?hia1 (by kernel_rfl) (by kernel_rfl) (by kernel_rfl) ?hqa1 (Or.inl ⟨?hwa1, ?hya1⟩) (by assumption) ?_
                          case hia1 => (simp only [List.getElem?_toArray, List.getElem?_cons_zero, List.getElem?_cons_succ]; rfl)
                          case hqa1 => exact fun _ _ _ h => h
                          case hwa1 => rfl
                          case hya1 => (intro w hSw; (try dsimp only at hSw); go_simp; try (with_reducible rfl))
                          try simp only [Act.put, List.setIfInBounds_toArray, List.set_cons_zero, List.set_cons_succ]
                          refine wpAnyH_take (i := 2) (oi := ?oia2) (v := .pointer (some ⟨T, 4, none⟩)) ?hia2 (by kernel_rfl) (by kernel_rfl) (by kernel_rfl) ?hqa2 (Or.inl ⟨?hwa2, ?hya2⟩) (by assumption) ?_
                          case hia2 => (simp only [List.getElem?_toArray, List.getElem?_cons_zero, List.getElem?_cons_succ]; rfl)
                          case hqa2 => exact fun _ _ _ h => h
                          case hwa2 => rfl
                          case hya2 => (intro w hSw; (try dsimp only at hSw); go_simp; try (with_reducible rfl))
                          try simp only [Act.put, List.setIfInBounds_toArray, List.set_cons_zero, List.set_cons_succ]
                          refine wpAnyH_take (i := 3) (oi := ?oia3) (v := .int .i64 x.f3.f0) ?hia3 (by kernel_rfl) (by kernel_rfl) (by kernel_rfl) ?hqa3 (Or.inl ⟨?hwa3, ?hya3⟩) (by assumption) ?_
                          case hia3 => (simp only [List.getElem?_toArray, List.getElem?_cons_zero, List.getElem?_cons_succ]; rfl)
                          case hqa3 => exact fun _ _ _ h => h
                          case hwa3 => rfl
                          case hya3 => (intro w hSw; (try dsimp only at hSw); go_simp; try (with_reducible rfl))
                          try simp only [Act.put, List.setIfInBounds_toArray, List.set_cons_zero, List.set_cons_succ]
                          refine wpAnyH_ready (rs := [4]) (by kernel_rfl) (by simp) ?_
                          refine AllReadyH.cons (o := ?oia4) ?hia4 (fun K hK => ?_) AllReadyH.nil
                          case hia4 => (simp only [List.getElem?_toArray, List.getElem?_cons_zero, List.getElem?_cons_succ]; rfl)
                          go_simp
                          go_at_call 51
                          refine (HCL.out _ (by first | exact Below.refl _ _ | exact below_drew1 (Below.refl _ _))).mono ?_
                          rintro e1 we ⟨rfl, hq, hx⟩
                          go_wp2_with fail
                          refine hK.out _ _ hq (fun hHeld2 => ?_)
                          clear hK K hHeld
                          try simp only [Act.put, List.setIfInBounds_toArray, List.set_cons_zero, List.set_cons_succ]
                          refine wpAnyH_take (i := 5) (oi := ?oia5) (v := .bool false) ?hia5 (by kernel_rfl) (by kernel_rfl) (by kernel_rfl) ?hqa5 (Or.inl ⟨?hwa5, ?hya5⟩) (by assumption) ?_
                          case hia5 => (simp only [List.getElem?_toArray, List.getElem?_cons_zero, List.getElem?_cons_succ]; rfl)
                          case hqa5 => exact fun _ _ _ h => h
                          case hwa5 => rfl
                          case hya5 => (intro w hSw; (try dsimp only at hSw); go_simp; try (with_reducible rfl))
                          try simp only [Act.put, List.setIfInBounds_toArray, List.set_cons_zero, List.set_cons_succ]
                          refine wpAnyH_take (i := 6) (oi := ?oia6) (v := .bool false) ?hia6 (by kernel_rfl) (by kernel_rfl) (by kernel_rfl) ?hqa6 (Or.inl ⟨?hwa6, ?hya6⟩) (by assumption) ?_
                          case hia6 => (simp only [List.getElem?_toArray, List.getElem?_cons_zero, List.getElem?_cons_succ]; rfl)
                          case hqa6 => exact fun _ _ _ h => h
                          case hwa6 => rfl
                          case hya6 => (intro w hSw; (try dsimp only at hSw); go_simp; try (with_reducible rfl))
                          try simp only [Act.put, List.setIfInBounds_toArray, List.set_cons_zero, List.set_cons_succ]
                          refine wpAnyH_take (i := 7) (oi := ?oia7) (v := undef) ?hia7 (by kernel_rfl) (by kernel_rfl) (by kernel_rfl) ?hqa7 (Or.inr ⟨?hwa7, rfl⟩) (by assumption) ?_
                          case hia7 => (simp only [List.getElem?_toArray, List.getElem?_cons_zero, List.getElem?_cons_succ]; rfl)
                          case hqa7 => exact fun _ _ _ h => h
                          case hwa7 => rfl
                          try simp only [Act.put, List.setIfInBounds_toArray, List.set_cons_zero, List.set_cons_succ]
                          refine wpAnyH_take (i := 8) (oi := ?oia8) (v := undef) ?hia8 (by kernel_rfl) (by kernel_rfl) (by kernel_rfl) ?hqa8 (Or.inr ⟨?hwa8, rfl⟩) (by assumption) ?_
                          case hia8 => (simp only [List.getElem?_toArray, List.getElem?_cons_zero, List.getElem?_cons_succ]; rfl)
                          case hqa8 => exact fun _ _ _ h => h
                          case hwa8 => rfl
                          try simp only [Act.put, List.setIfInBounds_toArray, List.set_cons_zero, List.set_cons_succ]
                          refine wpAnyH_take (i := 9) (oi := ?oia9) (v := undef) ?hia9 (by kernel_rfl) (by kernel_rfl) (by kernel_rfl) ?hqa9 (Or.inr ⟨?hwa9, rfl⟩) (by assumption) ?_
                          case hia9 => (simp only [List.getElem?_toArray, List.getElem?_cons_zero, List.getElem?_cons_succ]; rfl)
                          case hqa9 => exact fun _ _ _ h => h
                          case hwa9 => rfl
                          try simp only [Act.put, List.setIfInBounds_toArray, List.set_cons_zero, List.set_cons_succ]
                          refine wpAnyH_take (i := 10) (oi := ?oia10) (v := undef) ?hia10 (by kernel_rfl) (by kernel_rfl) (by kernel_rfl) ?hqa10 (Or.inr ⟨?hwa10, rfl⟩) (by assumption) ?_
                          case hia10 => (simp only [List.getElem?_toArray, List.getElem?_cons_zero, List.getElem?_cons_succ]; rfl)
                          case hqa10 => exact fun _ _ _ h => h
                          case hwa10 => rfl
                          try simp only [Act.put, List.setIfInBounds_toArray, List.set_cons_zero, List.set_cons_succ]
                          refine wpAnyH_take (i := 11) (oi := ?oia11) (v := undef) ?hia11 (by kernel_rfl) (by kernel_rfl) (by kernel_rfl) ?hqa11 (Or.inr ⟨?hwa11, rfl⟩) (by assumption) ?_
                          case hia11 => (simp only [List.getElem?_toArray, List.getElem?_cons_zero, List.getElem?_cons_succ]; rfl)
                          case hqa11 => exact fun _ _ _ h => h
                          case hwa11 => rfl
                          try simp only [Act.put, List.setIfInBounds_toArray, List.set_cons_zero, List.set_cons_succ]
                          refine wpAnyH_take (i := 12) (oi := ?oia12) (v := undef) ?hia12 (by kernel_rfl) (by kernel_rfl) (by kernel_rfl) ?hqa12 (Or.inr ⟨?hwa12, rfl⟩) (by assumption) ?_
                          case hia12 => (simp only [List.getElem?_toArray, List.getElem?_cons_zero, List.getElem?_cons_succ]; rfl)
                          case hqa12 => exact fun _ _ _ h => h
                          case hwa12 => rfl
                          try simp only [Act.put, List.setIfInBounds_toArray, List.set_cons_zero, List.set_cons_succ]
                          refine wpAnyH_take (i := 13) (oi := ?oia13) (v := undef) ?hia13 (by kernel_rfl) (by kernel_rfl) (by kernel_rfl) ?hqa13 (Or.inr ⟨?hwa13, rfl⟩) (by assumption) ?_
                          case hia13 => (simp only [List.getElem?_toArray, List.getElem?_cons_zero, List.getElem?_cons_succ]; rfl)
                          case hqa13 => exact fun _ _ _ h => h
                          case hwa13 => rfl
                          try simp only [Act.put, List.setIfInBounds_toArray, List.set_cons_zero, List.set_cons_succ]
                          refine wpAnyH_take (i := 14) (oi := ?oia14) (v := undef) ?hia14 (by kernel_rfl) (by kernel_rfl) (by kernel_rfl) ?hqa14 (Or.inr ⟨?hwa14, rfl⟩) (by assumption) ?_
                          case hia14 => (simp only [List.getElem?_toArray, List.getElem?_cons_zero, List.getElem?_cons_succ]; rfl)
                          case hqa14 => exact fun _ _ _ h => h
                          case hwa14 => rfl
                          try simp only [Act.put, List.setIfInBounds_toArray, List.set_cons_zero, List.set_cons_succ]
                          refine wpAnyH_take (i := 15) (oi := ?oia15) (v := undef) ?hia15 (by kernel_rfl) (by kernel_rfl) (by kernel_rfl) ?hqa15 (Or.inr ⟨?hwa15, rfl⟩) (by assumption) ?_
                          case hia15 => (simp only [List.getElem?_toArray, List.getElem?_cons_zero, List.getElem?_cons_succ]; rfl)
                          case hqa15 => exact fun _ _ _ h => h
                          case hwa15 => rfl
                          try simp only [Act.put, List.setIfInBounds_toArray, List.set_cons_zero, List.set_cons_succ]
                          refine wpAnyH_take (i := 16) (oi := ?oia16) (v := undef) ?hia16 (by kernel_rfl) (by kernel_rfl) (by kernel_rfl) ?hqa16 (Or.inr ⟨?hwa16, rfl⟩) (by assumption) ?_
                          case hia16 => (simp only [List.getElem?_toArray, List.getElem?_cons_zero, List.getElem?_cons_succ]; rfl)
                          case hqa16 => exact fun _ _ _ h => h
                          case hwa16 => rfl
                          try simp only [Act.put, List.setIfInBounds_toArray, List.set_cons_zero, List.set_cons_succ]
                          refine wpAnyH_take (i := 17) (oi := ?oia17) (v := undef) ?hia17 (by kernel_rfl) (by kernel_rfl) (by kernel_rfl) ?hqa17 (Or.inr ⟨?hwa17, rfl⟩) (by assumption) ?_
                          case hia17 => (simp only [List.getElem?_toArray, List.getElem?_cons_zero, List.getElem?_cons_succ]; rfl)
                          case hqa17 => exact fun _ _ _ h => h
                          case hwa17 => rfl
                          try simp only [Act.put, List.setIfInBounds_toArray, List.set_cons_zero, List.set_cons_succ]
                          refine wpAnyH_take (i := 18) (oi := ?oia18) (v := undef) ?hia18 (by kernel_rfl) (by kernel_rfl) (by kernel_rfl) ?hqa18 (Or.inr ⟨?hwa18, rfl⟩) (by assumption) ?_
                          case hia18 => (simp only [List.getElem?_toArray, List.getElem?_cons_zero, List.getElem?_cons_succ]; rfl)
                          case hqa18 => exact fun _ _ _ h => h
                          case hwa18 => rfl
                          try simp only [Act.put, List.setIfInBounds_toArray, List.set_cons_zero, List.set_cons_succ]
                          refine wpAnyH_take (i := 19) (oi := ?oia19) (v := .bool false) ?hia19 (by kernel_rfl) (by kernel_rfl) (by kernel_rfl) ?hqa19 (Or.inl ⟨?hwa19, ?hya19⟩) (by assumption) ?_
                          case hia19 => (simp only [List.getElem?_toArray, List.getElem?_cons_zero, List.getElem?_cons_succ]; rfl)
                          case hqa19 => exact fun _ _ _ h => h
                          case hwa19 => rfl
                          case hya19 => (intro w hSw; (try dsimp only at hSw); go_simp; try (with_reducible rfl))
                          try simp only [Act.put, List.setIfInBounds_toArray, List.set_cons_zero, List.set_cons_succ]
                          refine wpAnyH_take (i := 20) (oi := ?oia20) (v := .bool false) ?hia20 (by kernel_rfl) (by kernel_rfl) (by kernel_rfl) ?hqa20 (Or.inl ⟨?hwa20, ?hya20⟩) (by assumption) ?_
                          case hia20 => (simp only [List.getElem?_toArray, List.getElem?_cons_zero, List.getElem?_cons_succ]; rfl)
                          case hqa20 => exact fun _ _ _ h => h
                          case hwa20 => rfl
                          case hya20 => (intro w hSw; (try dsimp only at hSw); go_simp; try (with_reducible rfl))
                          try simp only [Act.put, List.setIfInBounds_toArray, List.set_cons_zero, List.set_cons_succ]
                          refine wpAnyH_done (by kernel_rfl) ?_ _
                          go_wp2_with fail
                          go_meet
                          case rel =>
                            obtain ⟨S', Q', D', M', recs', p', hp'⟩ := hx.out.2 (fun hh => hz hh.1)
                            exact ⟨false, _, rfl, rfl, ⟨S', Q', N + 1, D', M', recs', p', ls, (by first | exact hp' | exact hp'.below (pw_below_drewN (Below.refl _ _) _)), by omega, by have := HLL.out; omega⟩⟩
                      · have b3 : (x0 == 3) = false := beq_eq_false_iff_ne.mpr q3
                        by_cases q4 : x0 = 4
                        · subst q4
                          obtain ⟨rr, hrr⟩ : ∃ rr, lgReset D M x.f3.f0 x.f3.f1 = rr := ⟨_, rfl⟩
                          have HCL := Aside0.mk (lg_reset (i := x.f3.f0) (t := x.f3.f1) HLD.out.lg (by omega))
                          rw [hrr] at HCL
                          clear hrr
                          go_wp2_with fail
                          refine HCL.out.mono ?_
                          rintro e we ⟨rfl, haf⟩
                          have HAF := Aside0.mk haf
                          clear haf
                          by_cases hz : rr.1 = 0
                          · have cz : (rr.1 == 0) = true := by rw [hz]; rfl
                            go_wp2_with fail
                            go_meet
                            case rel =>
                              obtain ⟨S', Q', recs', p', hl', hcs, hB', hq'⟩ := HAF.out
                              have hp' : p' = recs'.length := hcs.elim (fun h => absurd hz h.1) (fun h => h.2)
                              exact ⟨true, v, rfl, rfl, ⟨S', Q', N + 1, rr.2.1, rr.2.2, recs', p', ls, LsP.sure hl' hp', by omega, by omega⟩⟩
                          · have cz : (rr.1 == 0) = false := beq_eq_false_iff_ne.mpr hz
                            go_wp2_with fail
                            go_meet
                            case rel =>
                              obtain ⟨S', Q', recs', p', hl', hcs, hB', hq'⟩ := HAF.out
                              have hcs' := hcs.elim (fun h => h.2) (fun h => absurd h.1 hz)
                              exact ⟨false, v, rfl, rfl, ⟨S', Q', N + 1, rr.2.1, rr.2.2, recs', p', ls, HLD.out.deed hl' (rs := []) (by simp) (.inl ⟨by simp [hcs'.2.1], hcs'.2.2⟩) hB' hq', by omega, by omega⟩⟩
                        · have b4 : (x0 == 4) = false := beq_eq_false_iff_ne.mpr q4
                          go_wp2_with fail
                          go_meet
                          case rel => exact ⟨false, v, rfl, rfl, HID⟩
            case rest =>
              obtain ⟨b, v2, rfl, rfl, HRL2⟩ := hcut
              clear k0 k1 k2 k3 k4 k5 k6
              go_upto_if 131 with (fail)
              go_cut [8] (fun v8 w' => ∃ v' : Value, v' = v8 ∧ Aside0 (∃ S Q N' D M recs p ls', LsP W w' S Q g N' L D M recs p v' ls' ∧ (N' : Int) ≤ N + 602 ∧ (ls'.length : Int) ≤ ls.length + 301))
              case first =>
                cases b with
                | false =>
                  go_wp2_with fail
                  go_meet
                  case rel => exact ⟨_, rfl, HRL2⟩
                | true =>
                  go_wp2_with fail
                  go_meet
                  case rel =>
                    obtain ⟨S', Q', N', D', M', recs', p', ls', h1, h2, h3⟩ := HRL2.out
                    exact ⟨_, rfl, ⟨S', Q', N', D', M', recs', p', [], h1, h2, by simp; omega⟩⟩
              case rest =>
                obtain ⟨v3, rfl, HP⟩ := hcut
                obtain ⟨S3, Q3, N3, D3, M3, recs3, p3, ls3, hp3, hN3, hls3⟩ := HP.out
                have HP3 := Aside0.mk hp3
                clear hp3 HP HRL2
                go_wp2_with fail
                refine (lg_state HP3.out.lg).mono ?_
                rintro e w6 ⟨v6, rfl, hn6, hb6⟩
                obtain ⟨A6', c6x, rfl⟩ := Kd.N_slice hn6
                have HP6 := Aside0.mk (HP3.out.below hb6)
                have HFK6 := Aside0.mk (told_FK hn6)
                have HOK6 := Aside0.mk (fun k (hk : wc.heap.size ≤ k) => (⟨okQ_new HP3.out.lg.wl k hk, fun e => by have := Kd.N_lt HP3.out.row k e.symm; omega⟩ : okQ S3 Q3 L k ∧ some k ≠ v3.ownBlock))
                have hsz6 := hb6.size
                clear hn6 hb6
                go_wp2_with ((with_reducible refine gate_dst (N := 136) rfl ?_); refine Kd.N_append k87 (w0 := W) W.heap.size rfl (.tmp 132) (.tmp 135) 94 87 _ 56 rfl Try.underlying94 info87 rfl (by decide) (by decide) v3 (ls3.map WS.s87) M3.st.s87 [.int .i64 M3.st.bi, .int .i64 M3.st.bt, .int .i64 M3.st.ht, .int .i64 M3.st.hv, .slice A6' M3.st.es.length c6x] (okQ S3 Q3 L) (fun k => wc.heap.size ≤ k) rfl rfl HFK6.out (fun k hk => HOK6.out k hk) (fun k hk => (HOK6.out k (Nat.le_trans hsz6 hk)).1) HP6.out.row HP6.out.lg.wl.dk.1 HP6.out.lg.wl.dk.1.size (by rw [List.length_map]; omega) ?_; intro v7 w7 hN7 hb7 hg7 hat7; have HI7 := Aside0.mk (HP6.out.more rfl hg7 hb7 hN7); clear hN7 hb7 hg7 hat7)
                go_roundg (gk - 1)
                case measure => omega
                case rel => exact ⟨i + 1, v7, rfl, rfl, by omega, by omega, by omega, ⟨S3, Q3, N3, D3, M3, recs3, p3, _, HI7.out, by omega, by rw [List.length_append]; simp; omega⟩⟩
          · have c6 : decide (i < (l.length : Int)) = true := decide_eq_true hi
            have c7 : decide (i < 60) = false := decide_eq_false hi2
            go_wp2_with fail
            go_meet
            case rel => exact ⟨v, rfl, ⟨S, Q, N, D, M, recs, p, ls, HLG.out, by omega, by omega⟩⟩
        · have c6 : decide (i < (l.length : Int)) = false := decide_eq_false hi
          go_wp2_with fail
          go_meet
          case rel => exact ⟨v, rfl, ⟨S, Q, N, D, M, recs, p, ls, HLG.out, by omega, by omega⟩⟩
    case rest =>
      obtain ⟨v, rfl, HREL⟩ := hcut
      obtain ⟨S, Q, N, D, M, recs, p, ls, hlg, hN, hls⟩ := HREL.out
      have HLG := Aside0.mk hlg
      clear hlg HREL HI5
      have HKC := Aside0.mk (Kd.C_below HK.out HLG.out.lg.wl.dk.1)
      have HCR := Aside0.mk (dk_crash (c := ck) HLG.out.lg.wl.dk (by omega) HKC.out (fun ad e hn hS => by
        subst e
        have h1 := Kd.C_lt HK.out hn (by show 0 < 1; decide)
        have h2 := (HLG.out.lg.wl.dk.2.1 _ hS).1
        omega) HKB.out)
      go_wp2_with fail
      refine HCR.out.mono ?_
      rintro e w6 ⟨rfl, hnx⟩
      obtain ⟨S6, hd6, hB6, hs6, hz6⟩ := Bys.of_nx (L := L) hnx
      obtain ⟨q, t, st, hq1, hq2, hrun, hop⟩ := HLG.out.lg.li.crash_open keep
      have HST := Aside0.mk (HLG.out.seen.all q st hq1 hq2 hrun)
      have HRW := Aside0.mk (HLG.out.row.bys hB6 (fun k _ h => h))
      have HOP := Aside0.mk (lg_open hd6 (by omega) hop HLG.out.lg.n)
      clear hnx hd6 hB6 hs6 hrun hop hq1 hq2
      go_wp2_with fail
      refine HOP.out.mono ?_
      rintro e w7 ⟨S7, Q7, L7, D7, M7, rfl, hl7, hn7, hst7, hr7, hB7, hL7, hq7⟩
      subst hst7
      have HL7 := Aside0.mk hl7
      have HRW7 := Aside0.mk (show Kd.N k87 87 w7 W.heap.size (fun _ => True) v (ls.map WS.s87) from Kd.N_mono (Kd.N_step (Kd.N_bound HRW.out) (fun k hk hlt => (hB7.step hlt hk.1.1 (by omega)).1)) (fun _ _ => trivial))
      clear hl7 hn7 hr7 hB7 hL7 hq7
      go_wp2_with fail
      refine (lg_state HL7.out).mono ?_
      rintro e w8 ⟨v8, rfl, hn8, hb8⟩
      obtain ⟨A8, c8, rfl⟩ := Kd.N_slice hn8
      have HN8 := Aside0.mk hn8
      have HB8 := Aside0.mk (below_step HL7.out.wl.dk.1 hb8)
      have HRW8 := Aside0.mk (Kd.N_below HRW7.out hb8)
      clear hn8 hb8
      go_upto_region 34 with (fail)
      obtain ⟨U, hU⟩ : ∃ U, w8.heap.size = U := ⟨_, rfl⟩
      obtain ⟨wy, hwy⟩ : ∃ wy, wy = w8.alloc (.cells #[.int .i64 M7.st.bi, .int .i64 M7.st.bt, .int .i64 M7.st.ht, .int .i64 M7.st.hv, .slice A8 M7.st.es.length c8] 87) := ⟨_, rfl⟩
      have hby : Below w8.heap.size w8 wy := by rw [hwy]; exact below_alloc (Below.refl _ _) _
      have hky : wy.heap[U]? = some (.cells #[.int .i64 M7.st.bi, .int .i64 M7.st.bt, .int .i64 M7.st.ht, .int .i64 M7.st.hv, .slice A8 M7.st.es.length c8] 87 (0, 0)) := by rw [hwy, ← hU]; exact blk_new w8 _
      have HOC := Aside0.mk (ownC_of (s := M7.st) hky)
      have HBY := Aside0.mk (below_step HB8.out hby)
      have HRY := Aside0.mk (Kd.N_below HRW8.out hby)
      have HNY := Aside0.mk (Kd.N_reads' (Kd.N_below HN8.out hby))
      obtain ⟨idx, hidx⟩ := List.getElem?_of_mem HST.out
      have hil : idx < ls.length := by
        rcases Nat.lt_or_ge idx ls.length with h1 | h1
        · exact h1
        · rw [List.getElem?_eq_none h1] at hidx; cases hidx
      have HIX := Aside0.mk hidx
      obtain ⟨Av, cv, rfl⟩ := Kd.N_slice HRY.out
      rw [List.length_map]
      rw [List.length_map] at HRY
      rw [hU, ← hwy]
      clear hU hwy hby hky hidx HRW HRW7 HRW8 HCR HOP
      go_wp2_with fail
      go_loopg [15] (idx + 1) (fun kq v15 w' => ∃ j : Nat, v15 = .int .i64 (j : Int) ∧ j + kq = idx + 1 ∧ j ≤ idx ∧ Aside0 (Below wy.heap.size wy w'))
      case atStart => exact ⟨0, rfl, by omega, by omega, ⟨Below.refl _ _⟩⟩
      case round =>
        obtain ⟨j, rfl, hjk, hji, HBj⟩ := hrel
        have c9 : decide ((j : Int) < (ls.length : Int)) = true := decide_eq_true (by omega)
        have p2 := eq_true (show (0 : Int) ≤ (j : Int) by omega)
        have p3 := eq_true (show (j : Int) < (ls.length : Int) by omega)
        have hnj : IntKind.i64.wrap ((j : Int) + 1) = (j : Int) + 1 := IntWalk.i64_in _ ⟨by omega, by omega⟩
        obtain ⟨s2, hs2⟩ : ∃ s2, ls[j]? = some s2 := ⟨_, List.getElem?_eq_getElem (by omega)⟩
        obtain ⟨ad, c9x, A4, c4, ev, z0, z1, z2, z3, z4, l4, C4⟩ := row87_at (Kd.N_below HRY.out HBj.out) hs2
        injection ev with ev _ ev2
        subst ev
        subst ev2
        obtain ⟨y0, y1, y2, y3, y4⟩ := HOC.out.below HBj.out
        obtain ⟨r, hr, hsm⟩ := same_at (HOC.out.below HBj.out) (show RowC wr ad j s2 A4 c4 from ⟨z0, z1, z2, z3, z4⟩) C4 l4 (Kd.C_below HNY.out.2.2 HBj.out) HNY.out.2.1 (HLG.out.few s2 (List.mem_of_getElem? hs2))
        have HSM := Aside0.mk hsm
        have HRT := Aside0.mk (show r = false → j < idx from fun e => by
          rcases Nat.lt_or_ge j idx with h1 | h1
          · exact h1
          · have : j = idx := by omega
            subst this
            have h2 := HIX.out
            rw [hs2] at h2
            rw [hr (Option.some.inj h2)] at e
            cases e)
        clear hs2 hsm hr l4 C4
        unfold RowC OwnC at HSM
        go_wp2_with fail
        go_region_held3 (fun w' => (w'.cell? (ad.add (j * 5)) = some (.int .i64 s2.bi) ∧ w'.cell? ⟨(ad.add (j * 5)).block, (ad.add (j * 5)).off + 1, none⟩ = some (.int .i64 s2.bt) ∧ w'.cell? ⟨(ad.add (j * 5)).block, (ad.add (j * 5)).off + 2, none⟩ = some (.int .i64 s2.ht) ∧ w'.cell? ⟨(ad.add (j * 5)).block, (ad.add (j * 5)).off + 3, none⟩ = some (.int .i64 s2.hv) ∧ w'.cell? ⟨(ad.add (j * 5)).block, (ad.add (j * 5)).off + 4, none⟩ = some (.slice A4 s2.es.length c4)) ∧ w'.cell? ⟨U, 0, none⟩ = some (.int .i64 M7.st.bi) ∧ w'.cell? ⟨U, 1, none⟩ = some (.int .i64 M7.st.bt) ∧ w'.cell? ⟨U, 2, none⟩ = some (.int .i64 M7.st.ht) ∧ w'.cell? ⟨U, 3, none⟩ = some (.int .i64 M7.st.hv) ∧ w'.cell? ⟨U, 4, none⟩ = some (.slice A8 M7.st.es.length c8)) (first | assumption | go_keep) (first | (go_at_call 52; refine (HSM.out _ (by first | exact Below.refl _ _ | exact below_drew1 (Below.refl _ _))).mono ?_; rintro e1 w9 ⟨rfl, hq, hx⟩))
        cases r with
        | true =>
          have HB9 := Aside0.mk (below_step (below_step HBY.out HBj.out) hx.out)
          go_wp2_with fail
          refine (wlive_calls _).mono ?_
          rintro e w10 ⟨rfl, hb10⟩
          have HB10 := Aside0.mk (below_step HB9.out hb10)
          clear hb10
          go_wp2_with fail
          go_ret
          exact ⟨rfl, HB10.out⟩
        | false =>
          have hlt9 := HRT.out rfl
          go_wp2_with fail
          go_roundg (gk - 1)
          case measure => omega
          case rel => exact ⟨j + 1, rfl, by omega, by omega, ⟨below_step HBj.out hx.out⟩⟩
end Go.Proofs.Ytmmiipnmimjojaa.PS
end
section
namespace Go.Proofs.Ytmmiipnmimjojaa.PS
open Go.RowKit Go.Proofs.YtmmiipnmimjojaaW.PrintWords Go.Proofs.Ytmmiipnmimjojaa.OpenK
set_option linter.unusedVariables false
theorem okb_ofL {y : S48} (h : Good48 y) : okBytes y.f3 = true := by
  unfold okBytes
  rw [List.all_eq_true]
  intro b hb
  have := u8_of (h.2.2.2.2.2 b hb)
  simp
  omega
theorem dok_ofL {x : S85} (h : Good85 x) : DOk x := ⟨fun y hy => okb_ofL (h.2.1.2.2 y hy), i64_of h.2.2.2.1.1, by have h1 : x.f1.length * 48 ≤ 140737488351232 := h.2.1.1; omega⟩
theorem tollgatelaw06_WalLasts.calls (A0 : Option Addr) (c0 : Nat) (x0 : List S85) (A1 : Option Addr) (c1 : Nat) (x1 : List Int) (r : Bool) (W : World) (h0 : k85.C W A0 x0.length x0) (l0 : x0.length ≤ c0) (h1 : (Kd.int .i64).C W A1 x1.length x1) (l1 : x1.length ≤ c1) (hp : r = true ∧ x0.length ≤ 140737488355328 ∧ (∀ x ∈ x0, DOk x) ∧ Nums x1) :
    Calls Try.prog 15 #[.slice A0 x0.length c0, .slice A1 x1.length c1] W fun e w' => e = .returned (.bool r) ∧ Below W.heap.size W w' := by
  obtain ⟨rfl, h2, h3, h4⟩ := hp
  exact walLasts_calls h0 l0 h1 l1 h2 (by have := h4.1; omega) (fun z hz => (h4.2 z hz).2) h3
end Go.Proofs.Ytmmiipnmimjojaa.PS
namespace Go.Proofs.Ytmmiipnmimjojaa.Pure
open Go.RowKit Go.Proofs.YtmmiipnmimjojaaW.PrintWords Go.Proofs.Ytmmiipnmimjojaa.OpenK Go.Proofs.Ytmmiipnmimjojaa.PS
theorem WalLasts_pure (x0 : List S85) (x1 : List Int) (g0 : x0.length * 88 ≤ reachBytes ∧ x0.length ≤ maxLen ∧ ∀ y ∈ x0, Good85 y) (g1 : x1.length * 8 ≤ reachBytes ∧ x1.length ≤ maxLen ∧ ∀ y ∈ x1, (Lit.int .i64 y).wf = true) : true = true ∧ x0.length ≤ 140737488355328 ∧ (∀ x ∈ x0, DOk x) ∧ Nums x1 :=
  ⟨rfl, by have h1 : x0.length * 88 ≤ 140737488351232 := g0.1; omega, fun x hx => dok_ofL (g0.2.2 x hx), nums_of g1⟩
end Go.Proofs.Ytmmiipnmimjojaa.Pure
end
section
namespace Go.Proofs.Ytmmiipnmimjojaa.walLasts
open Go.ChangeShapes Go.WideShapes Go.ChangeAt Go.RowKit Go.Proofs.YtmmiipnmimjojaaW.PrintWords Go.Proofs.Ytmmiipnmimjojaa.OpenK Go.Proofs.Ytmmiipnmimjojaa.PS
open Go.ChangeMaps (open_string shut_string)
set_option linter.unusedVariables false
theorem own : ownKnob Try.prog.godebug = none := by kernel_rfl
theorem laidOut : laidOutB Try.prog = true := by kernel_rfl
set_option maxRecDepth 1000000 in
set_option maxHeartbeats 1000000 in
theorem contract (H : Type) (enc : TypeId × Value → H) (W : World) (base : Nat) (args : Array Value) (ds gs : List (DataW H)) (before : List MemPlace)
    (hval0 : ∀ (j : Nat) t v, Try.f15.params[j]? = some t → args[j]? = some v → Value.okWide Try.prog W .any base t v)
    (hW : DataW.Whole enc Try.prog Try.f15.params.toList Rows.walLastsSpec.vars false W args.toList ds gs before)
    (hsz0 : (DataW.weightsEach Try.prog (Try.f15.params.toList ++ Rows.walLastsSpec.plain.varTypes Try.prog) (ds ++ gs)).all (· ≤ reachBytes) = true) :
    Calls Try.prog 15 args W fun e W' => ∃ v, e = .returned v ∧ Rows.walLastsSpec.post enc Try.prog Try.f15 false true false false W args v W' := by
  have hsz : (DataW.weightsEach Try.prog (Try.f15.params.toList ++ Rows.walLastsSpec.plain.varTypes Try.prog) (ds ++ gs)).all (· ≤ reachBytes) = true := hsz0
  have hval : ∀ (j : Nat) t v, Try.f15.params[j]? = some t → args[j]? = some v → Value.okWide Try.prog W .any base t v := hval0
  have hW' := hW
  obtain ⟨p, q, hA0, hV, rfl, hfz, hnd⟩ := hW
  have hA : DataW.TrodAll enc Try.prog W 0 (fun _ => true) true Try.f15.params.toList args.toList ds p := hA0
  rw [Try.params15] at hA hval hsz
  obtain ⟨v0, vs0, d0, ds0, p0, q0, hargs, rfl, rfl, h0, r0⟩ := trodAll_cons hA
  obtain ⟨v1, vs1, d1, ds1, p1, q1, rfl, rfl, rfl, h1, r1⟩ := trodAll_cons r0
  obtain ⟨rfl, rfl, rfl⟩ := trodAll_nil r1
  obtain rfl : args = #[v0, v1] := by cases args; simp_all
  obtain ⟨rfl, rfl⟩ := trodVars_none hV
  have k0 := h0
  have lt0 : ∀ x ∈ p0, x.block < W.heap.size := by obtain ⟨m, hm⟩ := k0; exact DataW.trod_lt m _ _ _ hm
  have z0 := arg_sized hsz (j := 0) (t := 93) rfl rfl
  obtain ⟨a0, len0, cap0, rfl⟩ := okWide_slice Try.underlying93 (hval 0 93 v0 rfl rfl)
  obtain ⟨fuel0, hf0⟩ := h0
  obtain ⟨x0, ⟨A0, c0, e0, l0, C0⟩, g0, s0⟩ := (opens_slice (B := 88) Try.underlying93 opens85 (by kernel_rfl) (by kernel_rfl)).open_ hf0 z0
  have e0' : Value.slice a0 len0 cap0 = .slice A0 x0.length c0 := by simpa [Value.cells] using e0
  rw [e0']
  have k1 := h1
  have lt1 : ∀ x ∈ p1, x.block < W.heap.size := by obtain ⟨m, hm⟩ := k1; exact DataW.trod_lt m _ _ _ hm
  have z1 := arg_sized hsz (j := 1) (t := 32) rfl rfl
  obtain ⟨a1, len1, cap1, rfl⟩ := okWide_slice Try.underlying32 (hval 1 32 v1 rfl rfl)
  obtain ⟨fuel1, hf1⟩ := h1
  obtain ⟨x1, ⟨A1, c1, e1, l1, C1⟩, g1, s1⟩ := (opens_slice (B := 8) Try.underlying32 (opens_int Try.underlying3) (by kernel_rfl) (by kernel_rfl)).open_ hf1 z1
  have e1' : Value.slice a1 len1 cap1 = .slice A1 x1.length c1 := by simpa [Value.cells] using e1
  rw [e1']
  clear hA0 hval0 hsz0 hsz
  have hp := Pure.WalLasts_pure x0 x1 g0 g1
  refine (PS.tollgatelaw06_WalLasts.calls A0 c0 x0 A1 c1 x1 true W C0 l0 C1 l1 hp).mono ?_
  rintro e W' ⟨rfl, hd⟩
  have bel : Below W.heap.size W W' := hd
  rw [← e0', ← e1']
  exact ⟨_, rfl, _, _, _, [], _, [], hW', trodAll_mk1 (shut_bool Try.underlying4 _), (trodAll_cons_mk (Below.trod laidOut (by kernel_rfl) (of_decide_eq_true (by kernel_rfl)) k0 bel lt0) (trodAll_cons_mk (Below.trod laidOut (by kernel_rfl) (of_decide_eq_true (by kernel_rfl)) k1 bel lt1) trodAll_mk0)), rfl, bel.frame _, fun h => by cases h⟩
set_option maxRecDepth 100000 in
theorem lifted (os : Os) (started : os.Started) (H : Type) (enc : TypeId × Value → H) :
    ReturnsInHanded {} Try.checked os 15 .any (Rows.walLastsSpec.pre6 enc Try.prog Try.f15 Rows.walLastsRow.domain false) (Rows.walLastsSpec.post enc Try.prog Try.f15 false true false false) := by
  refine returnsInHanded_of_change_sized (C := Try.checked) own started (by kernel_rfl) Try.func15
    (ChangeSpec.witness6 (enc := enc) (C := Try.checked) false ⟨#[], #[.slice none 0 0, .slice none 0 0], []⟩ 8 (by kernel_rfl) (by kernel_rfl) (by kernel_rfl) (by kernel_rfl)) ?_
  intro W base args ds gs before hval0 hW hcnd hsz0 _
  exact contract H enc W base args ds gs before hval0 hW hsz0
theorem over : Rows.walLastsRow.holds Try.pinned (OpenSpec.ofChange Rows.walLastsSpec) :=
  OpenClaim.holds_of_wide 15 Try.f15 rfl rfl rfl rfl rfl rfl rfl ⟨rfl, rfl, rfl, rfl, rfl⟩ rfl rfl rfl rfl rfl (by kernel_rfl) Try.func15 (by kernel_rfl)
    (of_decide_eq_true (by kernel_rfl)) (by unfold Func.isWrapper; first | (rw [if_pos (by decide +kernel)]; kernel_rfl) | (rw [if_neg (by decide +kernel)]; exact ⟨rfl, rfl⟩))
    (fun os started H enc _ => lifted os started H enc)
end Go.Proofs.Ytmmiipnmimjojaa.walLasts
namespace Go.Proofs.Ytmmiipnmimjojaa
theorem walLasts_holds : Rows.WalLastsSaid := walLasts.over
end Go.Proofs.Ytmmiipnmimjojaa
end
