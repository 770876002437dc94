/- The law's texts and its row. -/
import Derived.Test.YtmmiipnmimjojaaJ26
import Derived.Test.YtmmiipnmimjojaaRows
import Derived.WalkKit
import Derived.ProofKit
import Derived.OpenShut
import Derived.ShutString
import Derived.ChangeOld
import Derived.Below
import Derived.SizedLaws
section
/- WalFull. -/
namespace Go.Proofs.Ytmmiipnmimjojaa.PS
open Go.RowKit Go.Proofs.YtmmiipnmimjojaaW.PrintWords Go.Proofs.YtmmiipnmimjojaaW.PrintLast Go.Proofs.YtmmiipnmimjojaaW.PrintMore
open Go.Maps Go.Proofs.Ytmmiipnmimjojaa.PD
set_option linter.unusedVariables false
set_option linter.unusedSimpArgs false
theorem DidA.pre {W0 W w1 w' : World} {S Q : Nat → Prop} {g N L : Nat} {M : LM} {r : Int} (hb : Bys W S w1 S L) (h : DidA W0 w1 S Q g N L M r w') : DidA W0 W S Q g N L M r w' := by
  obtain ⟨S', Q', D', M', recs', p', hl, hr, hB⟩ := h
  exact ⟨S', Q', D', M', recs', p', hl, hr, hb.trans hB⟩
theorem same_calls {W : World} {s : WS} {A1 A2 : Option Addr} {c1 c2 : Nat} (h1 : k48.C W A1 s.es.length s.es) (l1 : s.es.length ≤ c1) (h2 : k48.C W A2 s.es.length s.es) (l2 : s.es.length ≤ c2) (hb : s.es.length ≤ 1000000000) :
    Calls Try.prog 52 #[.agg #[.int .i64 s.bi, .int .i64 s.bt, .int .i64 s.ht, .int .i64 s.hv, .slice A1 s.es.length c1], .agg #[.int .i64 s.bi, .int .i64 s.bt, .int .i64 s.ht, .int .i64 s.hv, .slice A2 s.es.length c2]] W fun e w' => e = .returned (.bool true) ∧ Below W.heap.size W w' := by
  obtain ⟨r, hr, h⟩ := sameState_calls (s1 := s) (s2 := s) h1 l1 h2 l2 hb
  rw [hr rfl] at h
  exact h
/-- A told state stands in a block of its own. -/
def Cells5 (w : World) (U : Nat) (s : WS) (A : Option Addr) (c : Nat) : Prop := w.cell? ⟨U, 0, none⟩ = some (.int .i64 s.bi) ∧ w.cell? ⟨U, 1, none⟩ = some (.int .i64 s.bt) ∧ w.cell? ⟨U, 2, none⟩ = some (.int .i64 s.ht) ∧ w.cell? ⟨U, 3, none⟩ = some (.int .i64 s.hv) ∧ w.cell? ⟨U, 4, none⟩ = some (.slice A s.es.length c)
theorem cells5_of {w : World} {U : Nat} {s : WS} {A : Option Addr} {c : Nat} (h : w.heap[U]? = some (.cells #[.int .i64 s.bi, .int .i64 s.bt, .int .i64 s.ht, .int .i64 s.hv, .slice A s.es.length c] 87 (0, 0))) : Cells5 w U s A c := ⟨blk_cell h 0, blk_cell h 1, blk_cell h 2, blk_cell h 3, blk_cell h 4⟩
theorem Cells5.below {w w' : World} {U : Nat} {s : WS} {A : Option Addr} {c : Nat} (h : Cells5 w U s A c) (hb : Below w.heap.size w w') : Cells5 w' U s A c :=
  ⟨(hb.cell (World.block_lt_of_cell? w _ h.1)).trans h.1, (hb.cell (World.block_lt_of_cell? w _ h.2.1)).trans h.2.1, (hb.cell (World.block_lt_of_cell? w _ h.2.2.1)).trans h.2.2.1, (hb.cell (World.block_lt_of_cell? w _ h.2.2.2.1)).trans h.2.2.2.1, (hb.cell (World.block_lt_of_cell? w _ h.2.2.2.2)).trans h.2.2.2.2⟩
theorem WasF.to {w : World} {S : Nat → Prop} {L L2 : Nat} {s : WS} {A : Option Addr} {c : Nat} (h : WasF w S L s A c) (hL : w.heap.size ≤ L2) : WasF w S L2 s A c := ⟨h.1, Kd.F_mono h.2 (fun k hk => ⟨⟨hk.1.1, by have := hk.2; omega⟩, hk.2⟩)⟩
theorem live_beside {w : World} {U : Nat} {s : WS} {A : Option Addr} {c : Nat} (h : Cells5 w U s A c) (X : World) (hX : Below w.heap.size w X) :
    Calls Try.prog 47 #[] X fun e w' => e = .returned (.bool true) ∧ Cells5 w' U s A c ∧ Aside0 (Below w.heap.size w w') := by
  refine (wlive_calls X).mono ?_
  rintro e w' ⟨rfl, hb⟩
  have hb' := below_step hX hb
  exact ⟨rfl, h.below hb', ⟨hb'⟩⟩
/-- A state is asked for beside one that was told. -/
theorem state_beside {W0 w : World} {S Q : Nat → Prop} {g N L p : Nat} {D : Dsk} {M : LM} {recs : List Rc} {s : WS} {U : Nat} {A : Option Addr} {c : Nat} (hl : LG W0 w S Q g N L D M recs p) (hs : M.st = s) (hw : WasF w S L s A c) (hk : w.heap[U]? = some (.cells #[.int .i64 s.bi, .int .i64 s.bt, .int .i64 s.ht, .int .i64 s.hv, .slice A s.es.length c] 87 (0, 0))) (X : World) (hX : Below w.heap.size w X) :
    Calls Try.prog 49 #[.pointer (some ⟨L, 0, none⟩)] X fun e w' => ∃ A2 c2, e = .returned (.agg #[.int .i64 s.bi, .int .i64 s.bt, .int .i64 s.ht, .int .i64 s.hv, .slice A2 s.es.length c2]) ∧ Cells5 w' U s A c ∧ Aside0 (k48.C w' A2 s.es.length s.es ∧ s.es.length ≤ c2 ∧ k48.C w' A s.es.length s.es ∧ s.es.length ≤ c ∧ s.es.length ≤ 1000000000 ∧ Below w.heap.size w w') := by
  have hf := hl.few
  have h1 := lg_state (hl.below hX)
  rw [hs] at h1 hf
  refine h1.mono ?_
  rintro e w' ⟨v, rfl, hn, hb⟩
  obtain ⟨A2, c2, rfl⟩ := Kd.N_slice hn
  have hb' := below_step hX hb
  exact ⟨A2, c2, rfl, cells5_of ((hb'.block _ (blk_lt hk)).trans hk), ⟨(Kd.N_reads' hn).2.2, (Kd.N_reads' hn).2.1, Kd.F_now (Kd.F_below hw.2 hb'), hw.1, hf, hb'⟩⟩
set_option maxHeartbeats 8000000 in
set_option maxRecDepth 100000 in
theorem walFull_calls {W : World} {r : Int} {A : Option Addr} {c : Nat} {l : List S85} (h : k85.C W A l.length l) (hc : l.length ≤ c) (hr : 0 ≤ r ∧ r ≤ 65535) (hl : l.length ≤ 140737488355328) (hd : ∀ x ∈ l, DOk x) :
    Calls Try.prog 16 #[.int .u16 r, .slice A l.length c] W fun e w' => e = .returned (.bool true) ∧ Below W.heap.size W w' := by
  have HC := Aside0.mk h
  have HD := Aside0.mk hd
  obtain ⟨z, hz⟩ : ∃ z, r.tmod 600 = z := ⟨_, rfl⟩
  have hz0 : 0 ≤ z ∧ z < 600 := by rw [← hz, Int.tmod_eq_emod_of_nonneg hr.1]; omega
  have hw : IntKind.i64.wrap r = r := IntWalk.i64_in _ ⟨by omega, by omega⟩
  have hw2 : IntKind.i64.wrap z = z := IntWalk.i64_in _ ⟨by omega, by omega⟩
  have hmx : max 0 z = z := by omega
  have HMX := Aside0.mk hmx
  clear h hd hmx
  go_enter Try.func16, Try.ntmps16
  go_wp2_with fail
  have HN := Aside0.mk (dk_new z (by omega) W)
  rw [HMX.out] at HN
  refine HN.out.mono ?_
  rintro e w1 ⟨g, S1, rfl, d1⟩
  have D1 := Aside0.mk d1
  clear d1
  by_cases h22 : z < 22
  · have HLF := Aside0.mk (lg_full D1.out h22)
    go_wp2_with fail
    refine HLF.out.mono ?_
    rintro e w2 ⟨rfl, hb2⟩
    have HB2 := Aside0.mk hb2
    clear hb2
    go_wp2_with fail
    refine (wlive_calls _).mono ?_
    rintro e w3 ⟨rfl, hb3⟩
    have HB3 := Aside0.mk (below_step HB2.out hb3)
    clear hb3
    go_wp2_with fail
    go_ret
    exact ⟨rfl, HB3.out⟩
  · have HLB := Aside0.mk (lg_begin D1.out (by omega))
    go_wp2_with fail
    refine HLB.out.mono ?_
    rintro e w2 ⟨S2, Q2, L, D2, M2, rfl, hl2, _, _, _, _, _, _⟩
    have HL2 := Aside0.mk hl2
    clear hl2
    go_wp2_with fail
    go_loopg [8] 60 (fun kq v8 w' => ∃ i : Int, v8 = .int .i64 i ∧ 0 ≤ i ∧ i + kq = 60 ∧ i ≤ l.length ∧ Aside0 (∃ S Q N D M recs p, LG W w' S Q g N L D M recs p ∧ (N : Int) ≤ 2 + 2 * i))
    case atStart => exact ⟨0, rfl, by omega, by omega, by omega, ⟨_, _, _, _, _, _, _, HL2.out, by omega⟩⟩
    case round =>
      obtain ⟨i, rfl, i0, i1, i2, HREL⟩ := hrel
      obtain ⟨S, Q, N, D, M, recs, p, hlg, hN⟩ := HREL.out
      have HLG := Aside0.mk hlg
      clear hlg HREL HL2
      by_cases hi : i < (l.length : Int)
      · by_cases hi2 : i < 60
        · have c6 : decide (i < (l.length : Int)) = true := decide_eq_true hi
          have c7 : decide (i < 60) = true := decide_eq_true hi2
          obtain ⟨ad, x, A1, c1, A6, c6', rfl, hxl, hx, hxf⟩ := deedW_of HC.out i0 hi
          have hxo := HD.out x hxl
          have hx' := hx.below HLG.out.wl.dk.1
          obtain ⟨n0, n1, n2, n3, n4, n5, n6⟩ := hx'
          have p0 := eq_true i0
          have p1 := eq_true hi
          have hni : IntKind.i64.wrap (i + 1) = i + 1 := IntWalk.i64_in _ ⟨by omega, by omega⟩
          have HXF := Aside0.mk hxf
          have HXO := Aside0.mk hxo
          clear hx hxl hxf hxo
          go_upto_region 9 with (fail)
          obtain ⟨T, hT⟩ : ∃ T, wr.heap.size = T := ⟨_, rfl⟩
          obtain ⟨wa, hwa⟩ : ∃ wa, wa = wr.alloc (.cells #[.int .i64 x.f0, .slice A1 x.f1.length c1, .int .i64 x.f2.f0, .int .i64 x.f2.f1, .int .i64 x.f3.f0, .int .i64 x.f3.f1, .slice A6 x.f4.length c6'] 85) := ⟨_, rfl⟩
          have hba : Below wr.heap.size wr wa := by rw [hwa]; exact below_alloc (Below.refl _ _) _
          have hka : wa.heap[T]? = some (.cells #[.int .i64 x.f0, .slice A1 x.f1.length c1, .int .i64 x.f2.f0, .int .i64 x.f2.f1, .int .i64 x.f3.f0, .int .i64 x.f3.f1, .slice A6 x.f4.length c6'] 85 (0, 0)) := by rw [hwa, ← hT]; exact blk_new wr _
          have HTT := Aside0.mk hT
          have HLA := Aside0.mk (HLG.out.below hba)
          have HKA := Aside0.mk hka
          have HTN := Aside0.mk (show ¬ S T ∧ T ≠ L from ⟨fun hS => by have := (HLG.out.wl.dk.2.1 T hS).2; have := HTT.out; omega, fun e => by have := (HLG.out.wl.q L HLG.out.wl.lg.1).2.1; have := HTT.out; omega⟩)
          clear hba hka n0 n1 n2 n3 n4 n5 n6 hT
          rw [HTT.out, ← hwa]
          clear hwa
          go_wp2_with fail
          refine (lg_state HLA.out).mono ?_
          rintro e wb ⟨v, rfl, hnv, hbb⟩
          obtain ⟨Av, cv, rfl⟩ := Kd.N_slice hnv
          have HLB' := Aside0.mk (HLA.out.below hbb)
          have HWS := Aside0.mk (was_of HLA.out.wl hnv)
          have HKB := Aside0.mk ((hbb.block _ (blk_lt HKA.out)).trans HKA.out)
          clear hnv hbb
          go_upto_block 2 with (fail)
          obtain ⟨U, hU⟩ : ∃ U, wb.heap.size = U := ⟨_, rfl⟩
          obtain ⟨wy, hwc⟩ : ∃ wy, wy = wb.alloc (.cells #[.int .i64 M.st.bi, .int .i64 M.st.bt, .int .i64 M.st.ht, .int .i64 M.st.hv, .slice Av M.st.es.length cv] 87) := ⟨_, rfl⟩
          have hbc : Below wb.heap.size wb wy := by rw [hwc]; exact below_alloc (Below.refl _ _) _
          have hkc : wy.heap[U]? = some (.cells #[.int .i64 M.st.bi, .int .i64 M.st.bt, .int .i64 M.st.ht, .int .i64 M.st.hv, .slice Av M.st.es.length cv] 87 (0, 0)) := by rw [hwc, ← hU]; exact blk_new wb _
          have HUU := Aside0.mk hU
          have HLC := Aside0.mk (HLB'.out.below hbc)
          have HKC := Aside0.mk hkc
          have HKT := Aside0.mk ((hbc.block _ (blk_lt HKB.out)).trans HKB.out)
          have HWC := Aside0.mk (HWS.out.below hbc)
          have HUN := Aside0.mk (show ¬ S U ∧ U ≠ L from ⟨fun hS => by have := (HLB'.out.wl.dk.2.1 U hS).2; have := HUU.out; omega, fun e => by have := (HLB'.out.wl.q L HLB'.out.wl.lg.1).2.1; have := HUU.out; omega⟩)
          clear hbc hkc hU
          rw [HUU.out, ← hwc]
          clear hwc
          obtain ⟨b, hbt, hsc⟩ := short_calls6 (W := wy) (x := x) (Kd.C_below HXF.out.C1 HLC.out.wl.dk.1) HXF.out.l1 (Kd.C_below HXF.out.C6 HLC.out.wl.dk.1) HXF.out.l6 HXO.out.len
          have HBT := Aside0.mk hbt
          have HSC := Aside0.mk hsc
          have k0 : wy.cell? ⟨T, 0, none⟩ = some (.int .i64 x.f0) := blk_cell HKT.out 0
          have k1 : wy.cell? ⟨T, 1, none⟩ = some (.slice A1 x.f1.length c1) := blk_cell HKT.out 1
          have k2 : wy.cell? ⟨T, 2, none⟩ = some (.int .i64 x.f2.f0) := blk_cell HKT.out 2
          have k3 : wy.cell? ⟨T, 3, none⟩ = some (.int .i64 x.f2.f1) := blk_cell HKT.out 3
          have k4 : wy.cell? ⟨T, 4, none⟩ = some (.int .i64 x.f3.f0) := blk_cell HKT.out 4
          have k5 : wy.cell? ⟨T, 5, none⟩ = some (.int .i64 x.f3.f1) := blk_cell HKT.out 5
          have k6 : wy.cell? ⟨T, 6, none⟩ = some (.slice A6 x.f4.length c6') := blk_cell HKT.out 6
          clear hbt hsc
          go_cut [11] (fun v11 w' => ∃ e : Int, v11 = .int .i64 e ∧ Aside0 (DidA W wy S Q g N L M e w'))
          case first =>
            go_wp2_with fail
            refine HSC.out.mono ?_
            rintro e wd ⟨rfl, hbd⟩
            have HLD := Aside0.mk (HLC.out.below hbd)
            have HBD := Aside0.mk (Bys.of_below (S := S) (L := L) hbd)
            have HKD := (hbd.block _ (blk_lt HKT.out)).trans HKT.out
            have k0 : wd.cell? ⟨T, 0, none⟩ = some (.int .i64 x.f0) := blk_cell HKD 0
            have k1 : wd.cell? ⟨T, 1, none⟩ = some (.slice A1 x.f1.length c1) := blk_cell HKD 1
            have k2 : wd.cell? ⟨T, 2, none⟩ = some (.int .i64 x.f2.f0) := blk_cell HKD 2
            have k3 : wd.cell? ⟨T, 3, none⟩ = some (.int .i64 x.f2.f1) := blk_cell HKD 3
            have k4 : wd.cell? ⟨T, 4, none⟩ = some (.int .i64 x.f3.f0) := blk_cell HKD 4
            have k5 : wd.cell? ⟨T, 5, none⟩ = some (.int .i64 x.f3.f1) := blk_cell HKD 5
            clear hbd HKD
            cases hbb : b with
            | false =>
              subst hbb
              go_wp2_with fail
              go_meet
              case rel => exact ⟨0, rfl, ⟨S, Q, D, M, recs, p, ⟨HLD.out.wl.mono (by omega), HLD.out.li, by have := HLD.out.n; omega⟩, fun h => absurd rfl h, HBD.out⟩⟩
            | true =>
              subst hbb
              have hsh := HBT.out rfl
              obtain ⟨x0, hx0⟩ : ∃ x0, x.f0 = x0 := ⟨_, rfl⟩
              rw [hx0] at k0
              clear hx0
              by_cases q0 : x0 = 0
              ·
                subst q0
                obtain ⟨rr, hrr⟩ : ∃ rr, lgAppend D M x.f1 = rr := ⟨_, rfl⟩
                have HCL := Aside0.mk (lg_append HLD.out (by omega) (HXF.out.ents HLD.out.wl) HXF.out.l1 (by omega) HXO.out.es)
                rw [hrr] at HCL
                clear hrr
                go_wp2_with fail
                refine HCL.out.mono ?_
                rintro e we ⟨rfl, haf⟩
                have HAF := Aside0.mk (DidA.pre HBD.out (DidA.of (N := N) (M := M) haf (by omega) (fun recs' p' hp hne => (hp.2 hne).1)))
                clear haf
                go_wp2_with fail
                go_meet
                case rel => exact ⟨_, rfl, HAF⟩
              ·
                have b0 : (x0 == 0) = false := beq_eq_false_iff_ne.mpr q0
                by_cases q1 : x0 = 1
                ·
                  subst q1
                  obtain ⟨rr, hrr⟩ : ∃ rr, lgHard D M x.f2.f0 x.f2.f1 = rr := ⟨_, rfl⟩
                  have HCL := Aside0.mk (lg_hard (t := x.f2.f0) (u := x.f2.f1) HLD.out (by omega))
                  rw [hrr] at HCL
                  clear hrr
                  go_wp2_with fail
                  refine HCL.out.mono ?_
                  rintro e we ⟨rfl, haf⟩
                  have HAF := Aside0.mk (DidA.pre HBD.out (DidA.of (N := N) (M := M) haf (by omega) (fun recs' p' hp hne => hp.1.elim id (fun h => absurd h.1 hne))))
                  clear haf
                  go_wp2_with fail
                  go_meet
                  case rel => exact ⟨_, rfl, HAF⟩
                ·
                  have b1 : (x0 == 1) = false := beq_eq_false_iff_ne.mpr q1
                  by_cases q2 : x0 = 2
                  ·
                    subst q2
                    skip
                    have HCL := Aside0.mk (lg_sync HLD.out (by omega))
                    skip
                    skip
                    go_wp2_with fail
                    refine HCL.out.mono ?_
                    rintro e we ⟨rfl, haf⟩
                    have HAF := Aside0.mk (DidA.pre HBD.out (DidA.of (N := N) (M := M) haf (by omega) (fun recs' p' hp hne => absurd rfl hne)))
                    clear haf
                    go_wp2_with fail
                    go_meet
                    case rel => exact ⟨_, rfl, HAF⟩
                  ·
                    have b2 : (x0 == 2) = false := beq_eq_false_iff_ne.mpr q2
                    by_cases q3 : x0 = 3
                    ·
                      subst q3
                      obtain ⟨rr, hrr⟩ : ∃ rr, lgCompact D M x.f3.f0 = rr := ⟨_, rfl⟩
                      have HCL := Aside0.mk (lg_compact (i := x.f3.f0) HLD.out (by omega) HXO.out.mark)
                      rw [hrr] at HCL
                      clear hrr
                      go_wp2_with fail
                      refine HCL.out.mono ?_
                      rintro e we ⟨rfl, haf⟩
                      have HAF := Aside0.mk (DidA.pre HBD.out (DidA.of (N := N) (M := M) haf (by omega) (fun recs' p' hp hne => hp.elim (fun h => h.2.1) (fun h => absurd h.1 hne))))
                      clear haf
                      go_wp2_with fail
                      go_meet
                      case rel => exact ⟨_, rfl, HAF⟩
                    ·
                      have b3 : (x0 == 3) = false := beq_eq_false_iff_ne.mpr q3
                      by_cases q4 : x0 = 4
                      ·
                        subst q4
                        obtain ⟨rr, hrr⟩ : ∃ rr, lgReset D M x.f3.f0 x.f3.f1 = rr := ⟨_, rfl⟩
                        have HCL := Aside0.mk (lg_reset (i := x.f3.f0) (t := x.f3.f1) HLD.out (by omega))
                        rw [hrr] at HCL
                        clear hrr
                        go_wp2_with fail
                        refine HCL.out.mono ?_
                        rintro e we ⟨rfl, haf⟩
                        have HAF := Aside0.mk (DidA.pre HBD.out (DidA.of (N := N) (M := M) haf (by omega) (fun recs' p' hp hne => hp.elim (fun h => h.2.1) (fun h => absurd h.1 hne))))
                        clear haf
                        go_wp2_with fail
                        go_meet
                        case rel => exact ⟨_, rfl, HAF⟩
                      ·
                        have b4 : (x0 == 4) = false := beq_eq_false_iff_ne.mpr q4
                        go_wp2_with fail
                        go_meet
                        case rel => exact ⟨0, rfl, ⟨S, Q, D, M, recs, p, ⟨HLD.out.wl.mono (by omega), HLD.out.li, by have := HLD.out.n; omega⟩, fun h => absurd rfl h, HBD.out⟩⟩
          case rest =>
            obtain ⟨e, rfl, HDA⟩ := hcut
            have HBK := Aside0.mk (show wc.heap[U]? = some (.cells #[.int .i64 M.st.bi, .int .i64 M.st.bt, .int .i64 M.st.ht, .int .i64 M.st.hv, .slice Av M.st.es.length cv] 87 (0, 0)) from by
              obtain ⟨S', Q', D', M', recs', p', hl', hr', hB'⟩ := HDA.out
              exact (hB'.keep U _ ⟨HKC.out, HUN.out.1, HUN.out.2⟩).at_)
            by_cases he : e = 0
            · subst he
              clear k0 k1 k2 k3 k4 k5 k6
              go_upto_region 22 with (fail)
              go_quiet (fail)
              go_wp2_with fail
              go_roundg (gk - 1)
              case measure => omega
              case rel =>
                obtain ⟨S', Q', D', M', recs', p', hl', hr', hB'⟩ := HDA.out
                exact ⟨i + 1, rfl, by omega, by omega, by omega, ⟨S', Q', N + 2, D', M', recs', p', hl'.below (pw_below_drewN (Below.refl _ _) _), by omega⟩⟩
            · have ce : (e != 0) = true := by simp [he]
              clear k0 k1 k2 k3 k4 k5 k6
              obtain ⟨S', Q', D', M', recs', p', hl', hr', hB'⟩ := HDA.out
              have HST := Aside0.mk (state_beside hl' (hr' he) (HWC.out.bys hB') HBK.out)
              have HL' := Aside0.mk hl'
              have hc5 := cells5_of HBK.out
              clear hl' hr' hB'
              unfold Cells5 at HST hc5
              go_upto_region 22 with (fail)
              go_region_held3 (fun w' => w'.cell? ⟨U, 0, none⟩ = some (.int .i64 M.st.bi) ∧ w'.cell? ⟨U, 1, none⟩ = some (.int .i64 M.st.bt) ∧ w'.cell? ⟨U, 2, none⟩ = some (.int .i64 M.st.ht) ∧ w'.cell? ⟨U, 3, none⟩ = some (.int .i64 M.st.hv) ∧ w'.cell? ⟨U, 4, none⟩ = some (.slice Av M.st.es.length cv)) (first | assumption | go_keep) (first
                | (go_at_call 49; refine (HST.out _ (by first | exact Below.refl _ _ | exact below_drew1 (Below.refl _ _))).mono ?_; rintro e1 w1 ⟨A2, c2, rfl, hq, hx⟩)
                | (go_at_call 52; refine (same_calls hx.out.1 hx.out.2.1 hx.out.2.2.1 hx.out.2.2.2.1 hx.out.2.2.2.2.1).mono ?_; rintro e1 w2 ⟨rfl, hb2⟩; have hq2 := Cells5.below (s := M.st) (A := Av) (c := cv) (U := U) hq hb2))
              go_wp2_with fail
              go_roundg (gk - 1)
              case measure => omega
              case rel =>
                have hbz := below_step hx.out.2.2.2.2.2 hb2
                exact ⟨i + 1, rfl, by omega, by omega, by omega, ⟨S', Q', N + 2, D', M', recs', p', HL'.out.below hbz, by omega⟩⟩
        · have c6 : decide (i < (l.length : Int)) = true := decide_eq_true hi
          have c7 : decide (i < 60) = false := decide_eq_false hi2
          clear hi hi2
          go_wp2_with fail
          refine (lg_state HLG.out).mono ?_
          rintro e wb ⟨v, rfl, hnv, hbb⟩
          obtain ⟨Av, cv, rfl⟩ := Kd.N_slice hnv
          have HLB' := Aside0.mk (HLG.out.below hbb)
          have HWS := Aside0.mk (was_of HLG.out.wl hnv)
          clear hnv hbb
          go_upto_region 24 with (fail)
          obtain ⟨U, hU⟩ : ∃ U, wb.heap.size = U := ⟨_, rfl⟩
          obtain ⟨wy, hwy⟩ : ∃ wy, wy = wb.alloc (.cells #[.int .i64 M.st.bi, .int .i64 M.st.bt, .int .i64 M.st.ht, .int .i64 M.st.hv, .slice Av M.st.es.length cv] 87) := ⟨_, rfl⟩
          have hby : Below wb.heap.size wb wy := by rw [hwy]; exact below_alloc (Below.refl _ _) _
          have hky : wy.heap[U]? = some (.cells #[.int .i64 M.st.bi, .int .i64 M.st.bt, .int .i64 M.st.ht, .int .i64 M.st.hv, .slice Av M.st.es.length cv] 87 (0, 0)) := by rw [hwy, ← hU]; exact blk_new wb _
          have HUU := Aside0.mk hU
          have HLC := Aside0.mk (HLB'.out.below hby)
          have HKY := Aside0.mk hky
          have HWC := Aside0.mk (HWS.out.below hby)
          have HUN := Aside0.mk (show ¬ S U from fun hS => by have := (HLB'.out.wl.dk.2.1 U hS).2; have := HUU.out; omega)
          clear hby hky hU
          rw [HUU.out, ← hwy]
          clear hwy
          have HOP := Aside0.mk (lg_open HLC.out.wl.dk (by omega) (OpenOk.of_li HLC.out.li) HLC.out.n)
          go_wp2_with fail
          refine HOP.out.mono ?_
          rintro e wz ⟨S', Q', L2, D', M2, rfl, hl2, _, hst2, _, hB, hL2, _⟩
          have hbk := (hB.keep U _ ⟨HKY.out, HUN.out, fun e => by have := blk_lt HKY.out; omega⟩).at_
          have HST := Aside0.mk (state_beside hl2 hst2 ((HWC.out.to hL2).bys hB) hbk)
          have hc5 := cells5_of hbk
          have HL2' := Aside0.mk hl2
          clear hl2 hst2 hB hL2 hbk
          unfold Cells5 at HST hc5
          go_wp2_with fail
          go_upto_region 26 with (fail)
          have HLV := Aside0.mk (live_beside (s := M.st) (A := Av) (c := cv) hc5)
          unfold Cells5 at HLV
          go_region_held3 (fun w' => w'.cell? ⟨U, 0, none⟩ = some (.int .i64 M.st.bi) ∧ w'.cell? ⟨U, 1, none⟩ = some (.int .i64 M.st.bt) ∧ w'.cell? ⟨U, 2, none⟩ = some (.int .i64 M.st.ht) ∧ w'.cell? ⟨U, 3, none⟩ = some (.int .i64 M.st.hv) ∧ w'.cell? ⟨U, 4, none⟩ = some (.slice Av M.st.es.length cv)) (first | assumption | go_keep) (first
            | (go_at_call 47; refine (HLV.out _ (by first | exact Below.refl _ _ | exact below_drew1 (Below.refl _ _) | exact pw_below_drewN (Below.refl _ _) _)).mono ?_; rintro e1 w1 ⟨rfl, hq1, hv1⟩)
            | (go_at_call 49; refine (HST.out _ (by first | exact hv1.out | exact below_drew1 hv1.out)).mono ?_; rintro e1 w2 ⟨A2, c2, rfl, hq, hx⟩)
            | (go_at_call 52; refine (same_calls hx.out.1 hx.out.2.1 hx.out.2.2.1 hx.out.2.2.2.1 hx.out.2.2.2.2.1).mono ?_; rintro e1 w3 ⟨rfl, hb2⟩; have hq2 := Cells5.below (s := M.st) (A := Av) (c := cv) (U := U) hq hb2))
          go_wp2_with fail
          go_ret
          exact ⟨rfl, below_step (below_step HL2'.out.wl.dk.1 hx.out.2.2.2.2.2) hb2⟩
      · have c6 : decide (i < (l.length : Int)) = false := decide_eq_false hi
        clear hi
        go_wp2_with fail
        refine (lg_state HLG.out).mono ?_
        rintro e wb ⟨v, rfl, hnv, hbb⟩
        obtain ⟨Av, cv, rfl⟩ := Kd.N_slice hnv
        have HLB' := Aside0.mk (HLG.out.below hbb)
        have HWS := Aside0.mk (was_of HLG.out.wl hnv)
        clear hnv hbb
        go_upto_region 24 with (fail)
        obtain ⟨U, hU⟩ : ∃ U, wb.heap.size = U := ⟨_, rfl⟩
        obtain ⟨wy, hwy⟩ : ∃ wy, wy = wb.alloc (.cells #[.int .i64 M.st.bi, .int .i64 M.st.bt, .int .i64 M.st.ht, .int .i64 M.st.hv, .slice Av M.st.es.length cv] 87) := ⟨_, rfl⟩
        have hby : Below wb.heap.size wb wy := by rw [hwy]; exact below_alloc (Below.refl _ _) _
        have hky : wy.heap[U]? = some (.cells #[.int .i64 M.st.bi, .int .i64 M.st.bt, .int .i64 M.st.ht, .int .i64 M.st.hv, .slice Av M.st.es.length cv] 87 (0, 0)) := by rw [hwy, ← hU]; exact blk_new wb _
        have HUU := Aside0.mk hU
        have HLC := Aside0.mk (HLB'.out.below hby)
        have HKY := Aside0.mk hky
        have HWC := Aside0.mk (HWS.out.below hby)
        have HUN := Aside0.mk (show ¬ S U from fun hS => by have := (HLB'.out.wl.dk.2.1 U hS).2; have := HUU.out; omega)
        clear hby hky hU
        rw [HUU.out, ← hwy]
        clear hwy
        have HOP := Aside0.mk (lg_open HLC.out.wl.dk (by omega) (OpenOk.of_li HLC.out.li) HLC.out.n)
        go_wp2_with fail
        refine HOP.out.mono ?_
        rintro e wz ⟨S', Q', L2, D', M2, rfl, hl2, _, hst2, _, hB, hL2, _⟩
        have hbk := (hB.keep U _ ⟨HKY.out, HUN.out, fun e => by have := blk_lt HKY.out; omega⟩).at_
        have HST := Aside0.mk (state_beside hl2 hst2 ((HWC.out.to hL2).bys hB) hbk)
        have hc5 := cells5_of hbk
        have HL2' := Aside0.mk hl2
        clear hl2 hst2 hB hL2 hbk
        unfold Cells5 at HST hc5
        go_wp2_with fail
        go_upto_region 26 with (fail)
        have HLV := Aside0.mk (live_beside (s := M.st) (A := Av) (c := cv) hc5)
        unfold Cells5 at HLV
        go_region_held3 (fun w' => w'.cell? ⟨U, 0, none⟩ = some (.int .i64 M.st.bi) ∧ w'.cell? ⟨U, 1, none⟩ = some (.int .i64 M.st.bt) ∧ w'.cell? ⟨U, 2, none⟩ = some (.int .i64 M.st.ht) ∧ w'.cell? ⟨U, 3, none⟩ = some (.int .i64 M.st.hv) ∧ w'.cell? ⟨U, 4, none⟩ = some (.slice Av M.st.es.length cv)) (first | assumption | go_keep) (first
          | (go_at_call 47; refine (HLV.out _ (by first | exact Below.refl _ _ | exact below_drew1 (Below.refl _ _) | exact pw_below_drewN (Below.refl _ _) _)).mono ?_; rintro e1 w1 ⟨rfl, hq1, hv1⟩)
          | (go_at_call 49; refine (HST.out _ (by first | exact hv1.out | exact below_drew1 hv1.out)).mono ?_; rintro e1 w2 ⟨A2, c2, rfl, hq, hx⟩)
          | (go_at_call 52; refine (same_calls hx.out.1 hx.out.2.1 hx.out.2.2.1 hx.out.2.2.2.1 hx.out.2.2.2.2.1).mono ?_; rintro e1 w3 ⟨rfl, hb2⟩; have hq2 := Cells5.below (s := M.st) (A := Av) (c := cv) (U := U) hq hb2))
        go_wp2_with fail
        go_ret
        exact ⟨rfl, below_step (below_step HL2'.out.wl.dk.1 hx.out.2.2.2.2.2) hb2⟩
end Go.Proofs.Ytmmiipnmimjojaa.PS
end
section
/- WalFull: what the row takes. -/
namespace Go.Proofs.Ytmmiipnmimjojaa.PS
open Go.RowKit Go.Proofs.YtmmiipnmimjojaaW.PrintWords Go.Proofs.Ytmmiipnmimjojaa.OpenK
set_option linter.unusedVariables false
theorem u16_of {y : Int} (h : (Lit.int .u16 y).wf = true) : 0 ≤ y ∧ y ≤ 65535 := by
  simp [Lit.wf, IntKind.min, IntKind.max, IntKind.signed, IntKind.bits] at h
  omega
theorem okb_of {y : S48} (h : Good48 y) : okBytes y.f3 = true := by
  unfold okBytes
  rw [List.all_eq_true]
  intro b hb
  have := u8_of (h.2.2.2.2.2 b hb)
  simp
  omega
theorem dok_of {x : S85} (h : Good85 x) : DOk x := ⟨fun y hy => okb_of (h.2.1.2.2 y hy), i64_of h.2.2.2.1.1, by have h1 : x.f1.length * 48 ≤ 140737488351232 := h.2.1.1; omega⟩
theorem tollgatelaw06_WalFull.calls (x0 : Int) (A1 : Option Addr) (c1 : Nat) (x1 : List S85) (r : Bool) (W : World) (h1 : k85.C W A1 x1.length x1) (l1 : x1.length ≤ c1) (hp : r = true ∧ (0 ≤ x0 ∧ x0 ≤ 65535) ∧ x1.length ≤ 140737488355328 ∧ ∀ x ∈ x1, DOk x) :
    Calls Try.prog 16 #[.int .u16 x0, .slice A1 x1.length c1] W fun e w' => e = .returned (.bool r) ∧ Below W.heap.size W w' := by
  obtain ⟨rfl, h2, h3, h4⟩ := hp
  exact walFull_calls h1 l1 h2 h3 h4
end Go.Proofs.Ytmmiipnmimjojaa.PS
namespace Go.Proofs.Ytmmiipnmimjojaa.Pure
open Go.RowKit Go.Proofs.YtmmiipnmimjojaaW.PrintWords Go.Proofs.Ytmmiipnmimjojaa.OpenK Go.Proofs.Ytmmiipnmimjojaa.PS
theorem WalFull_pure (x0 : Int) (x1 : List S85) (g0 : (Lit.int .u16 x0).wf = true) (g1 : x1.length * 88 ≤ reachBytes ∧ x1.length ≤ maxLen ∧ ∀ y ∈ x1, Good85 y) : true = true ∧ (0 ≤ x0 ∧ x0 ≤ 65535) ∧ x1.length ≤ 140737488355328 ∧ ∀ x ∈ x1, DOk x :=
  ⟨rfl, u16_of g0, by have h1 : x1.length * 88 ≤ 140737488351232 := g1.1; omega, fun x hx => dok_of (g1.2.2 x hx)⟩
end Go.Proofs.Ytmmiipnmimjojaa.Pure
end
section
/- WalFull: the row, out of what the law's functions compute. -/
namespace Go.Proofs.Ytmmiipnmimjojaa.walFull
open Go.ChangeShapes Go.WideShapes Go.ChangeAt Go.RowKit Go.Proofs.YtmmiipnmimjojaaW.PrintWords Go.Proofs.Ytmmiipnmimjojaa.OpenK Go.Proofs.Ytmmiipnmimjojaa.PS
open Go.ChangeMaps (open_string shut_string)
set_option linter.unusedVariables false
theorem own : ownKnob Try.prog.godebug = none := by kernel_rfl
theorem laidOut : laidOutB Try.prog = true := by kernel_rfl
set_option maxRecDepth 1000000 in
set_option maxHeartbeats 1000000 in
theorem contract (H : Type) (enc : TypeId × Value → H) (W : World) (base : Nat) (args : Array Value) (ds gs : List (DataW H)) (before : List MemPlace)
    (hval0 : ∀ (j : Nat) t v, Try.f16.params[j]? = some t → args[j]? = some v → Value.okWide Try.prog W .any base t v)
    (hW : DataW.Whole enc Try.prog Try.f16.params.toList Rows.walFullSpec.vars false W args.toList ds gs before)
    (hsz0 : (DataW.weightsEach Try.prog (Try.f16.params.toList ++ Rows.walFullSpec.plain.varTypes Try.prog) (ds ++ gs)).all (· ≤ reachBytes) = true) :
    Calls Try.prog 16 args W fun e W' => ∃ v, e = .returned v ∧ Rows.walFullSpec.post enc Try.prog Try.f16 false true false false W args v W' := by
  have hsz : (DataW.weightsEach Try.prog (Try.f16.params.toList ++ Rows.walFullSpec.plain.varTypes Try.prog) (ds ++ gs)).all (· ≤ reachBytes) = true := hsz0
  have hval : ∀ (j : Nat) t v, Try.f16.params[j]? = some t → args[j]? = some v → Value.okWide Try.prog W .any base t v := hval0
  have hW' := hW
  obtain ⟨p, q, hA0, hV, rfl, hfz, hnd⟩ := hW
  have hA : DataW.TrodAll enc Try.prog W 0 (fun _ => true) true Try.f16.params.toList args.toList ds p := hA0
  rw [Try.params16] at hA hval hsz
  obtain ⟨v0, vs0, d0, ds0, p0, q0, hargs, rfl, rfl, h0, r0⟩ := trodAll_cons hA
  obtain ⟨v1, vs1, d1, ds1, p1, q1, rfl, rfl, rfl, h1, r1⟩ := trodAll_cons r0
  obtain ⟨rfl, rfl, rfl⟩ := trodAll_nil r1
  obtain rfl : args = #[v0, v1] := by cases args; simp_all
  obtain ⟨rfl, rfl⟩ := trodVars_none hV
  have k0 := h0
  have lt0 : ∀ x ∈ p0, x.block < W.heap.size := by obtain ⟨m, hm⟩ := k0; exact DataW.trod_lt m _ _ _ hm
  have z0 := arg_sized hsz (j := 0) (t := 98) rfl rfl
  obtain ⟨x0, rfl, _, _, g0⟩ := open_int Try.underlying98 (hval 0 98 v0 rfl rfl) h0
  have k1 := h1
  have lt1 : ∀ x ∈ p1, x.block < W.heap.size := by obtain ⟨m, hm⟩ := k1; exact DataW.trod_lt m _ _ _ hm
  have z1 := arg_sized hsz (j := 1) (t := 93) rfl rfl
  obtain ⟨a1, len1, cap1, rfl⟩ := okWide_slice Try.underlying93 (hval 1 93 v1 rfl rfl)
  obtain ⟨fuel1, hf1⟩ := h1
  obtain ⟨x1, ⟨A1, c1, e1, l1, C1⟩, g1, s1⟩ := (opens_slice (B := 88) Try.underlying93 opens85 (by kernel_rfl) (by kernel_rfl)).open_ hf1 z1
  have e1' : Value.slice a1 len1 cap1 = .slice A1 x1.length c1 := by simpa [Value.cells] using e1
  rw [e1']
  clear hA0 hval0 hsz0 hsz
  have hp := Pure.WalFull_pure x0 x1 g0 g1
  refine (PS.tollgatelaw06_WalFull.calls x0 A1 c1 x1 true W C1 l1 hp).mono ?_
  rintro e W' ⟨rfl, hd⟩
  have bel : Below W.heap.size W W' := hd
  rw [← e1']
  exact ⟨_, rfl, _, _, _, [], _, [], hW', trodAll_mk1 (shut_bool Try.underlying4 _), (trodAll_cons_mk (Below.trod laidOut (by kernel_rfl) (of_decide_eq_true (by kernel_rfl)) k0 bel lt0) (trodAll_cons_mk (Below.trod laidOut (by kernel_rfl) (of_decide_eq_true (by kernel_rfl)) k1 bel lt1) trodAll_mk0)), rfl, bel.frame _, fun h => by cases h⟩
set_option maxRecDepth 100000 in
theorem lifted (os : Os) (started : os.Started) (H : Type) (enc : TypeId × Value → H) :
    ReturnsInHanded {} Try.checked os 16 .any (Rows.walFullSpec.pre6 enc Try.prog Try.f16 Rows.walFullRow.domain false) (Rows.walFullSpec.post enc Try.prog Try.f16 false true false false) := by
  refine returnsInHanded_of_change_sized (C := Try.checked) own started (by kernel_rfl) Try.func16
    (ChangeSpec.witness6 (enc := enc) (C := Try.checked) false ⟨#[], #[.int .u16 0, .slice none 0 0], []⟩ 8 (by kernel_rfl) (by kernel_rfl) (by kernel_rfl) (by kernel_rfl)) ?_
  intro W base args ds gs before hval0 hW hcnd hsz0 _
  exact contract H enc W base args ds gs before hval0 hW hsz0
theorem over : Rows.walFullRow.holds Try.pinned (OpenSpec.ofChange Rows.walFullSpec) :=
  OpenClaim.holds_of_wide 16 Try.f16 rfl rfl rfl rfl rfl rfl rfl ⟨rfl, rfl, rfl, rfl, rfl⟩ rfl rfl rfl rfl rfl (by kernel_rfl) Try.func16 (by kernel_rfl)
    (of_decide_eq_true (by kernel_rfl)) (by unfold Func.isWrapper; first | (rw [if_pos (by decide +kernel)]; kernel_rfl) | (rw [if_neg (by decide +kernel)]; exact ⟨rfl, rfl⟩))
    (fun os started H enc _ => lifted os started H enc)
end Go.Proofs.Ytmmiipnmimjojaa.walFull
namespace Go.Proofs.Ytmmiipnmimjojaa
theorem walFull_holds : Rows.WalFullSaid := walFull.over
end Go.Proofs.Ytmmiipnmimjojaa
end
