/- The law's texts and its row. -/
import Derived.Test.YtmmiipnmimjojaaJ24
import Derived.Test.YtmmiipnmimjojaaRows
import Derived.WalkKit
import Derived.ProofKit
import Derived.OpenShut
import Derived.ShutString
import Derived.ChangeOld
import Derived.Below
import Derived.SizedLaws
section
namespace Go.Proofs.Ytmmiipnmimjojaa.PS
open Go.RowKit Go.Proofs.YtmmiipnmimjojaaW.PrintWords Go.Proofs.YtmmiipnmimjojaaW.PrintLast Go.Proofs.YtmmiipnmimjojaaW.PrintMore
open Go.Maps Go.Proofs.Ytmmiipnmimjojaa.PD
set_option linter.unusedVariables false
set_option linter.unusedSimpArgs false
theorem LI.read {D : Dsk} {M : LM} {recs : List Rc} {p : Nat} (h : LI D M recs p) : (dRead D (nameB M.n)).1 = recsB recs := by
  obtain ⟨f, hg, hf, hf0, _⟩ := h.get
  unfold dRead
  rw [nm_name, hg]
  exact hf0
theorem name1_size : (nameB 1).size ≤ maxLen := by decide
theorem name2_size : (nameB 2).size ≤ maxLen := by decide
/-- Bytes that were read, beside a log. -/
theorem read_F {W0 w w' : World} {S Q : Nat → Prop} {g N L : Nat} {D : Dsk} {M : LM} {A : Option Addr} {c : Nat} {b : List Int} (h : Wl W0 w S Q g N L D M) (hr : k8.R 5 w' w.heap.size (fun _ => True) (.slice A b.length c) b) : b.length ≤ c ∧ Kd.F k8 w' (fun k => (¬ S k ∧ k ≠ L) ∧ k < w'.heap.size) A b.length b :=
  ⟨(Kd.R_reads' hr).2.1, F_newG h (Nat.le_refl _) hr⟩
/-- The log of WalSwitches. -/
structure SwI (W0 w : World) (S Q : Nat → Prop) (g N L : Nat) (D : Dsk) (M : LM) (recs : List Rc) (p k : Nat) : Prop where
  lg : LG W0 w S Q g N L D M recs p
  n : M.n = 1
  recs : recs.length ≤ 2 + k
  es : M.st.es.length ≤ k
  nn : N ≤ 2 + 2 * k
theorem SwI.next {W0 w w' : World} {S Q S' Q' : Nat → Prop} {g N L p p' k : Nat} {D : Dsk} {M : LM} {recs recs' : List Rc} {y : S48} (h : SwI W0 w S Q g N L D M recs p k) (hk : k < 40) (hy : okBytes y.f3 = true) (hl : LG W0 w' S' Q' g (N + 2) L (lgAppend D M [y]).2.1 (lgAppend D M [y]).2.2 recs' p')
    (h1 : (lgAppend D M [y]).1 = 0 → fitsOk M.st [y] ∧ (lgAppend D M [y]).2.2.st = M.st.adds [y] ∧ ((recs' = recs ++ [y].map .ent ∧ p' = p) ∨ (recs' = M.st.recs ++ [y].map .ent ∧ p' = M.st.recs.length)))
    (h2 : ¬ (lgAppend D M [y]).1 = 0 → (lgAppend D M [y]).2.2.st = M.st ∧ ((recs' = recs ∧ p' = p) ∨ (recs' = M.st.recs ∧ p' = M.st.recs.length))) : SwI W0 w' S' Q' g (N + 2) L (lgAppend D M [y]).2.1 (lgAppend D M [y]).2.2 recs' p' (k + 1) := by
  have hr := h.recs
  have he := h.es
  have hsr : M.st.recs.length = M.st.es.length + 2 := by unfold WS.recs; simp
  have hn : (lgAppend D M [y]).2.2.n = 1 := (append_nth h.lg.li (fun x hx => by rw [List.mem_singleton.1 hx]; exact hy) (by simp; omega)).trans h.n
  have hnn := h.nn
  by_cases hz : (lgAppend D M [y]).1 = 0
  · obtain ⟨_, hst, hrc⟩ := h1 hz
    refine ⟨hl, hn, ?_, ?_, by omega⟩
    · rcases hrc with ⟨rfl, _⟩ | ⟨rfl, _⟩ <;> simp <;> omega
    · rw [hst]
      show (M.st.es.take _ ++ [y]).length ≤ k + 1
      rw [List.length_append, List.length_take]
      simp
      omega
  · obtain ⟨hst, hrc⟩ := h2 hz
    refine ⟨hl, hn, ?_, by rw [hst]; omega, by omega⟩
    rcases hrc with ⟨rfl, _⟩ | ⟨rfl, _⟩ <;> omega
set_option maxHeartbeats 8000000 in
set_option maxRecDepth 100000 in
theorem walSwitches_calls {W : World} {A : Option Addr} {c : Nat} {l : List S48} {ix kp : Int} (h : k48.C W A l.length l) (hc : l.length ≤ c) (hl : l.length ≤ 140737488355328) (hob : ∀ x ∈ l, okBytes x.f3 = true) (hix : -9223372036854775808 ≤ ix ∧ ix ≤ 9223372036854775807) (hkp : kp ≤ 9223372036854775807) :
    Calls Try.prog 14 #[.slice A l.length c, .int .i64 ix, .int .i64 kp] W fun e w' => e = .returned (.bool true) ∧ Below W.heap.size W w' := by
  have HC := Aside0.mk h
  have HOB := Aside0.mk hob
  obtain ⟨b, hbt, hsc⟩ := short_calls6 (W := W) (x := ⟨0, l, ⟨0, 0⟩, ⟨0, 0⟩, []⟩) (A1 := A) (c1 := c) (A6 := none) (c6 := 0) h hc (Kd.C_nil _ _) (Nat.le_refl _) hl
  have HSC := Aside0.mk hsc
  clear h hob hbt hsc
  go_enter Try.func14, Try.ntmps14
  by_cases h40 : (l.length : Int) > 40
  · have c0 : decide ((l.length : Int) > 40) = true := decide_eq_true h40
    go_wp2_with fail
    refine (wlive_calls _).mono ?_
    rintro e w3 ⟨rfl, hb3⟩
    have HB3 := Aside0.mk hb3
    clear hb3
    go_wp2_with fail
    go_ret
    exact ⟨rfl, HB3.out⟩
  · have c0 : decide ((l.length : Int) > 40) = false := decide_eq_false h40
    have hl40 : l.length ≤ 40 := by omega
    go_wp2_with fail
    refine HSC.out.mono ?_
    rintro e w0 ⟨rfl, hb0⟩
    have HB0 := Aside0.mk hb0
    clear hb0
    cases b with
    | false =>
      go_wp2_with fail
      refine (wlive_calls _).mono ?_
      rintro e w3 ⟨rfl, hb3⟩
      have HB3 := Aside0.mk (below_step HB0.out hb3)
      clear hb3
      go_wp2_with fail
      go_ret
      exact ⟨rfl, HB3.out⟩
    | true =>
      go_wp2_with fail
      refine (dk_new 262144 (by decide) w0).mono ?_
      rintro e w1 ⟨g, S1, rfl, hd1⟩
      have HD1 := Aside0.mk (show Dk w0 w1 S1 g 0 ⟨262144, []⟩ from hd1)
      clear hd1
      go_wp2_with fail
      refine (lg_begin HD1.out (by decide)).mono ?_
      rintro e w2 ⟨S2, Q2, L, D2, M2, rfl, hl2, hn2, hs2, hr2, hB2, hL2, hq2⟩
      have HI2 := Aside0.mk (show SwI w0 w2 S2 Q2 g 2 L D2 M2 WS.zero.recs 2 0 from ⟨hl2, hn2, Nat.le_refl _, by rw [hs2]; exact Nat.le_refl _, Nat.le_refl _⟩)
      clear hl2 hn2 hs2 hr2 hB2 hL2 hq2
      go_wp2_with fail
      go_loopg [10] l.length (fun kq v10 w' => ∃ k : Nat, v10 = .int .i64 (k : Int) ∧ k + kq = l.length ∧ Aside0 (∃ S Q N D M recs p, SwI w0 w' S Q g N L D M recs p k))
      case atStart => exact ⟨0, rfl, by omega, ⟨_, _, _, _, _, _, _, HI2.out⟩⟩
      case round =>
        obtain ⟨k, rfl, hkq, HREL⟩ := hrel
        obtain ⟨S, Q, N, D, M, recs, p, hi⟩ := HREL.out
        have HI := Aside0.mk hi
        clear hi HREL HI2
        by_cases hk : (k : Int) < (l.length : Int)
        · have c8 : decide ((k : Int) < (l.length : Int)) = true := decide_eq_true hk
          have hnk : IntKind.i64.wrap ((k : Int) + 1) = (k : Int) + 1 := IntWalk.i64_in _ ⟨by omega, by omega⟩
          have hb01 := below_step HB0.out HI.out.lg.wl.dk.1
          obtain ⟨ad3, A3, c3, e3, y0, y1, y2, y3, l3, C3⟩ := at_T48 (Kd.C_below HC.out HB0.out) (k : Int) (by omega) hk
          subst e3
          obtain ⟨y, hy⟩ : ∃ y, rd_T48 l (k : Int) = y := ⟨_, rfl⟩
          have hyx : y ∈ l := by rw [← hy]; unfold rd_T48; rw [List.getD_eq_getElem?_getD, List.getElem?_eq_getElem (by omega)]; exact List.getElem_mem _
          have HYB := Aside0.mk (HOB.out y hyx)
          rw [hy] at y0 y1 y2 y3 l3 C3
          rw [Int.toNat_natCast] at y0 y1 y2 y3
          have HC3 := Aside0.mk C3
          have y0 := cell_below HI.out.lg.wl.dk.1 y0
          have y1 := cell_below HI.out.lg.wl.dk.1 y1
          have y2 := cell_below HI.out.lg.wl.dk.1 y2
          have y3 := cell_below HI.out.lg.wl.dk.1 y3
          have hsize0 := HI.out.lg.wl.dk.1.size
          clear hy hyx C3 hb01
          have p2 := eq_true (show (0 : Int) ≤ (k : Int) by omega)
          have p3 := eq_true hk
          have hba := below_alloc (Below.refl wr.heap.size wr) (.cells #[.int .i64 y.f0, .int .i64 y.f1, .int .i64 y.f2, .slice A3 y.f3.length c3] 48)
          have HIA := Aside0.mk (HI.out.lg.below hba)
          have hbk := blk_new wr (.cells #[.int .i64 y.f0, .int .i64 y.f1, .int .i64 y.f2, .slice A3 y.f3.length c3] 48)
          have HF1 := Aside0.mk (Kd.F_mono (F_one (x := y) (Ax := A3) (cx := c3) (ok := fun k => k < w0.heap.size) hbk l3 (Kd.F_below (Kd.F_below (Kd.C_F (Kd.heap_int .u8) HC3.out) HI.out.lg.wl.dk.1) hba)) (ok' := fun k => (¬ S k ∧ k ≠ L) ∧ k < (wr.alloc (.cells #[.int .i64 y.f0, .int .i64 y.f1, .int .i64 y.f2, .slice A3 y.f3.length c3] 48)).heap.size) (fun k hk => by
            rw [World.size_alloc]
            rcases hk with hk | hk
            · exact ⟨⟨fun hS => by have := (HI.out.lg.wl.dk.2.1 k hS).1; omega, fun e => by have := (HI.out.lg.wl.q L HI.out.lg.wl.lg.1).1; omega⟩, by omega⟩
            · exact ⟨⟨fun hS => by have := (HI.out.lg.wl.dk.2.1 k hS).2; omega, fun e => by have := (HI.out.lg.wl.q L HI.out.lg.wl.lg.1).2.1; omega⟩, by omega⟩))
          clear hba hbk
          have hN8 : N ≤ 800000 := by have := HI.out.nn; omega
          have HCA := Aside0.mk (lg_append (es := [y]) (ce := 1) HIA.out hN8 HF1.out (Nat.le_refl _) (by simp) (fun z hz => by rw [List.mem_singleton.1 hz]; exact HYB.out))
          go_wp2_with fail
          refine HCA.out.mono ?_
          rintro e w5 ⟨rfl, haf⟩
          have HP : Aside0 (∃ S Q N D M recs p, SwI w0 w5 S Q g N L D M recs p (k + 1)) := ⟨by
            obtain ⟨S', Q', recs', p', hl', ⟨hc1, hc2⟩, hB', hq'⟩ := haf
            exact ⟨S', Q', _, _, _, recs', p', HI.out.next (by omega) HYB.out hl' hc1 hc2⟩⟩
          clear haf y0 y1 y2 y3
          go_wp2_with fail
          go_roundg (gk - 1)
          case measure => omega
          case rel => exact ⟨k + 1, rfl, by omega, HP⟩
        · have c8 : decide ((k : Int) < (l.length : Int)) = false := decide_eq_false hk
          have hkl : k = l.length := by omega
          have hN8 : N ≤ 800000 := by have := HI.out.nn; omega
          have HSY := Aside0.mk (lg_sync HI.out.lg hN8)
          obtain ⟨DD, hDD⟩ : ∃ DD, (dSync D (nameB M.n)).2 = DD := ⟨_, rfl⟩
          rw [hDD] at HSY
          clear hDD
          go_wp2_with fail
          refine HSY.out.mono ?_
          rintro e w5 ⟨rfl, S5, Q5, recs5, p5, hl5, ⟨rfl, rfl⟩, hB5, hq5⟩
          have HL5 := Aside0.mk hl5
          clear hl5 hB5 hq5 HSY
          dsimp only at HL5
          go_wp2_with fail
          refine (lg_state HL5.out).mono ?_
          rintro e w6 ⟨v6, rfl, hn6, hb6⟩
          obtain ⟨A6, c6, rfl⟩ := Kd.N_slice hn6
          have HL6 := Aside0.mk (HL5.out.below hb6)
          have HWS := Aside0.mk (was_of HL5.out.wl hn6)
          clear hn6 hb6
          go_upto_region 13 with (fail)
          obtain ⟨U, hU⟩ : ∃ U, w6.heap.size = U := ⟨_, rfl⟩
          obtain ⟨wy, hwy⟩ : ∃ wy, wy = w6.alloc (.cells #[.int .i64 M.st.bi, .int .i64 M.st.bt, .int .i64 M.st.ht, .int .i64 M.st.hv, .slice A6 M.st.es.length c6] 87) := ⟨_, rfl⟩
          have hby : Below w6.heap.size w6 wy := by rw [hwy]; exact below_alloc (Below.refl _ _) _
          have hky : wy.heap[U]? = some (.cells #[.int .i64 M.st.bi, .int .i64 M.st.bt, .int .i64 M.st.ht, .int .i64 M.st.hv, .slice A6 M.st.es.length c6] 87 (0, 0)) := by rw [hwy, ← hU]; exact blk_new w6 _
          have HBU := Aside0.mk (show By wy S5 L U (.cells #[.int .i64 M.st.bi, .int .i64 M.st.bt, .int .i64 M.st.ht, .int .i64 M.st.hv, .slice A6 M.st.es.length c6] 87 (0, 0)) from ⟨hky, fun hS => by have := (HL6.out.wl.dk.2.1 U hS).2; omega, fun e => by have := (HL6.out.wl.q L HL6.out.wl.lg.1).2.1; omega⟩)
          have HL7 := Aside0.mk (HL6.out.below hby)
          have HW7 := Aside0.mk (HWS.out.below hby)
          have HFI := Aside0.mk (HL7.out.wl.file HL7.out.mok)
          rw [HI.out.n] at HFI
          rw [hU, ← hwy]
          clear hU hwy hby hky
          go_wp2_with fail
          refine HFI.out.mono ?_
          rintro e w8 ⟨rfl, rfl⟩
          have HRD := Aside0.mk (dk_read (s := nameB 1) HL7.out.wl.dk (by omega) name1_size)
          have hrd := HL7.out.li.read
          rw [HI.out.n] at hrd
          rw [hrd] at HRD
          clear hrd
          obtain ⟨ob, hob⟩ : ∃ ob, recsB recs5 = ob := ⟨_, rfl⟩
          rw [hob] at HRD
          have HOBB := Aside0.mk hob
          clear hob
          go_wp2_with fail
          refine HRD.out.mono ?_
          rintro e w9 ⟨Ao, co, rfl, hR9, hb9⟩
          have HO9 := Aside0.mk (read_F HL7.out.wl hR9)
          have HL9 := Aside0.mk (HL7.out.below hb9)
          have HW9 := Aside0.mk (HW7.out.below hb9)
          have HBU9 := Aside0.mk ((Bys.of_below (S := S5) (L := L) hb9).keep _ _ HBU.out)
          have HFI9 := Aside0.mk (HL9.out.wl.file HL9.out.mok)
          rw [HI.out.n] at HFI9
          clear hR9 hb9
          go_wp2_with fail
          refine HFI9.out.mono ?_
          rintro e w10 ⟨rfl, rfl⟩
          obtain ⟨rr, hrr⟩ : ∃ rr, lgCompact DD M ix = rr := ⟨_, rfl⟩
          have HRR := Aside0.mk hrr
          have HCP := Aside0.mk (lg_compact (i := ix) HL9.out hN8 hix)
          rw [hrr] at HCP
          clear hrr
          go_wp2_with fail
          refine HCP.out.mono ?_
          rintro e w11 ⟨rfl, S11, Q11, recs11, p11, hl11, hcs, hB11, hq11⟩
          have HL11 := Aside0.mk hl11
          have HO11 := Aside0.mk (show ob.length ≤ co ∧ Kd.F k8 w11 (fun k => (¬ S11 k ∧ k ≠ L) ∧ k < w11.heap.size) Ao ob.length ob from ⟨HO9.out.1, F_bysG hB11 HO9.out.2⟩)
          have HW11 := Aside0.mk (HW9.out.bys hB11)
          have HBU11 := Aside0.mk (hB11.keep _ _ HBU9.out)
          have HCS := Aside0.mk hcs
          obtain ⟨u0, u1, u2, u3, u4⟩ := ownC_of HBU11.out.at_
          clear hl11 hB11 hq11 hcs u1 u2 u3 u4
          by_cases hdn : rr.1 = 0 ∧ M.st.bi < ix
          · have cz : (rr.1 == 0) = true := by rw [hdn.1]; rfl
            have cg : decide (ix > M.st.bi) = true := decide_eq_true hdn.2
            have hcase : p11 = recs11.length ∧ ∃ t, M.st.term ix = some t ∧ rr.2.2.st = ⟨ix, t, M.st.ht, M.st.hv, M.st.es.drop (ix - M.st.bi).toNat⟩ ∧ recs11 = (⟨ix, t, M.st.ht, M.st.hv, M.st.es.drop (ix - M.st.bi).toNat⟩ : WS).recs := HCS.out.elim (fun h => absurd hdn (fun hh => h.1.elim (fun h1 => h1 hh.1) (fun h1 => by have := hh.2; omega))) (fun h => h.2.2)
            obtain ⟨_, t0, _, hst2, hrc2⟩ := hcase
            obtain ⟨s2, hs2⟩ : ∃ s2, (⟨ix, t0, M.st.ht, M.st.hv, M.st.es.drop (ix - M.st.bi).toNat⟩ : WS) = s2 := ⟨_, rfl⟩
            have hes2 : s2.es.length ≤ 40 := by rw [← hs2]; show (M.st.es.drop _).length ≤ 40; rw [List.length_drop]; have := HI.out.es; omega
            rw [hs2] at hst2 hrc2
            have hn2 : rr.2.2.n = 2 := by
              have h1 := HRR.out
              have h2 := compact_n (D := DD) (M := M) (i := ix) (by rw [h1]; exact hdn.1) hdn.2
              rw [h1, HI.out.n] at h2
              exact h2
            have HST := Aside0.mk (lg_state HL11.out)
            rw [hst2] at HST
            have HST2 := Aside0.mk hst2
            have HN2 := Aside0.mk hn2
            have HRC2 := Aside0.mk hrc2
            clear hdn hst2 hrc2 hs2 hn2
            go_wp2_with fail
            refine HST.out.mono ?_
            rintro e w12 ⟨v12, rfl, hn12, hb12⟩
            obtain ⟨A12, c12, rfl⟩ := Kd.N_slice hn12
            have HL12 := Aside0.mk (HL11.out.below hb12)
            have HN12 := Aside0.mk (Kd.N_reads' hn12)
            have HE12 := Aside0.mk (Kd.C_below (Kd.F_now HW11.out.2) hb12)
            have HO12 := Aside0.mk (Kd.C_below (Kd.F_now HO11.out.2) hb12)
            have HU12 := Aside0.mk ((hb12.block _ (blk_lt HBU11.out.at_)).trans HBU11.out.at_)
            clear hn12 hb12
            go_upto_region 17 with (fail)
            obtain ⟨V, hV⟩ : ∃ V, w12.heap.size = V := ⟨_, rfl⟩
            obtain ⟨wz, hwz⟩ : ∃ wz, wz = w12.alloc (.cells #[.int .i64 s2.bi, .int .i64 s2.bt, .int .i64 s2.ht, .int .i64 s2.hv, .slice A12 s2.es.length c12] 87) := ⟨_, rfl⟩
            have hbz : Below w12.heap.size w12 wz := by rw [hwz]; exact below_alloc (Below.refl _ _) _
            have hkz : wz.heap[V]? = some (.cells #[.int .i64 s2.bi, .int .i64 s2.bt, .int .i64 s2.ht, .int .i64 s2.hv, .slice A12 s2.es.length c12] 87 (0, 0)) := by rw [hwz, ← hV]; exact blk_new w12 _
            have HLZ := Aside0.mk (HL12.out.below hbz)
            have HVZ := Aside0.mk (ownC_of (s := s2) hkz)
            have HUZ := Aside0.mk (ownC_of (s := M.st) ((hbz.block _ (blk_lt HU12.out)).trans HU12.out))
            have HNZ := Aside0.mk (Kd.C_below HN12.out.2.2 hbz)
            have HEZ := Aside0.mk (Kd.C_below HE12.out hbz)
            have HOZ := Aside0.mk (Kd.C_below HO12.out hbz)
            rw [hV, ← hwz]
            clear hV hwz hbz hkz u0
            have HFI13 := Aside0.mk (HLZ.out.wl.file HLZ.out.mok)
            rw [HN2.out] at HFI13
            have HRD13 := Aside0.mk (dk_read (s := nameB 2) HLZ.out.wl.dk (by omega) name2_size)
            have hrd := HLZ.out.li.read
            rw [HN2.out] at hrd
            rw [hrd] at HRD13
            clear hrd
            obtain ⟨fb, hfb⟩ : ∃ fb, recsB recs11 = fb := ⟨_, rfl⟩
            rw [hfb] at HRD13
            have HFB := Aside0.mk hfb
            clear hfb
            go_wp2_with fail
            refine HFI13.out.mono ?_
            rintro e w13 ⟨rfl, rfl⟩
            go_wp2_with fail
            refine HRD13.out.mono ?_
            rintro e wF ⟨Af, cf, rfl, hRF, hbF⟩
            have HRF := Aside0.mk (Kd.R_reads' hRF)
            have HLF := Aside0.mk (HLZ.out.below hbF)
            have HFIF := Aside0.mk (HLF.out.wl.file HLF.out.mok)
            rw [HN2.out] at HFIF
            have HVF := Aside0.mk (HVZ.out.below hbF)
            have HUF := Aside0.mk (HUZ.out.below hbF)
            have HNF := Aside0.mk (Kd.C_below HNZ.out hbF)
            have HEF := Aside0.mk (Kd.C_below HEZ.out hbF)
            have HOF := Aside0.mk (Kd.C_below HOZ.out hbF)
            have HBF := Aside0.mk (below_step HB0.out HLF.out.wl.dk.1)
            have HOL := Aside0.mk (show (ob.length : Int) ≤ 90000 by rw [← HOBB.out]; have h1 := (recsB_len HL5.out.li.ok).2; have h2 := HI.out.recs; omega)
            have HFL := Aside0.mk (show (fb.length : Int) ≤ 90000 by
              rw [← HFB.out]
              have h1 := (recsB_len HL11.out.li.ok).2
              have h2 : recs11.length = s2.es.length + 2 := by rw [HRC2.out]; unfold WS.recs; simp
              omega)
            have HOO := Aside0.mk (openOk_sure (room := 524288) (n := 1) HL5.out.li rfl HOBB.out ⟨by decide, by decide⟩)
            have HOF2 := Aside0.mk (openOk_sure (room := 524288) (n := 2) HL11.out.li HST2.out HFB.out ⟨by decide, by decide⟩)
            have HSM := Aside0.mk (same_self (s := M.st) HI.out.lg.few)
            have HSN := Aside0.mk (same_self (s := s2) (by omega))
            clear hRF hbF
            go_wp2_with fail
            refine HFIF.out.mono ?_
            rintro e w14 ⟨rfl, rfl⟩
            go_wp2_with fail
            refine (dk_new 524288 (by decide) wF).mono ?_
            rintro e a1 ⟨ga, Sa1, rfl, hda1⟩
            have HDA1 := Aside0.mk (show Dk wF a1 Sa1 ga 0 ⟨524288, []⟩ from hda1)
            clear hda1
            have HOW := Aside0.mk (fun (X : World) (S : Nat → Prop) (N : Nat) (D : Dsk) (hd : Dk wF X S ga N D) => (show ∀ ad, Ao = some ad → 0 < ob.length → ¬ S ad.block from fun ad e hn hS => by subst e; have h1 := Kd.C_lt HOF.out hn (by show 0 < 1; decide); have h2 := (hd.2.1 _ hS).1; omega))
            have HFW := Aside0.mk (fun (X : World) (S : Nat → Prop) (N : Nat) (D : Dsk) (hd : Dk wF X S ga N D) => (show ∀ ad, Af = some ad → 0 < fb.length → ¬ S ad.block from fun ad e hn hS => by subst e; have h1 := Kd.C_lt HRF.out.2.2 hn (by show 0 < 1; decide); have h2 := (hd.2.1 _ hS).1; omega))
            have HC1 := Aside0.mk (dk_write (s := nameB 1) (at_ := 0) (c := co) HDA1.out (by decide) name1_size (Kd.C_below HOF.out HDA1.out.1) HO11.out.1 (by have := HOL.out; omega) (HOW.out _ _ _ _ HDA1.out))
            rw [(lay_one (room := 524288) (b := ob) (by have := HOL.out; omega) (by have := HOL.out; omega)).1] at HC1
            go_wp2_with fail
            refine HC1.out.mono ?_
            rintro e a2 ⟨rfl, Sa2, hda2, _, _⟩
            have HDA2 := Aside0.mk hda2
            have HC2 := Aside0.mk (dk_sync (s := nameB 1) HDA2.out (by decide) name1_size)
            rw [(lay_one (room := 524288) (b := ob) (by have := HOL.out; omega) (by have := HOL.out; omega)).2] at HC2
            clear hda2 HC1
            go_wp2_with fail
            refine HC2.out.mono ?_
            rintro e a3 ⟨rfl, Sa3, hda3, _, _⟩
            have HDA3 := Aside0.mk hda3
            have HC3 := Aside0.mk (dk_write (s := tmpB) (at_ := 0) (c := cf) HDA3.out (by decide) (by decide) (Kd.C_below HRF.out.2.2 HDA3.out.1) HRF.out.2.1 (by have := HFL.out; omega) (HFW.out _ _ _ _ HDA3.out))
            obtain ⟨DT, hDT⟩ : ∃ DT, (dWrite ⟨524288, [(nm 1, sureF ob)]⟩ tmpB 0 fb).2 = DT := ⟨_, rfl⟩
            rw [hDT] at HC3
            have HDT := Aside0.mk hDT
            clear hda3 HC2 hDT
            go_wp2_with fail
            refine HC3.out.mono ?_
            rintro e a4 ⟨rfl, Sa4, hda4, _, _⟩
            have HDA4 := Aside0.mk hda4
            clear hda4 HC3
            have HC4 := Aside0.mk (dk_crash (keep := [kp, kp, kp]) (c := 3) (HDA4.out.step (below_alloc (Below.refl _ _) _)) (by decide) (C_lit .i64 a4 [kp, kp, kp] 3 (by simp) (0, 0) rfl) (fun ad e _ hS => by cases e; have := HDA4.out.2.1 _ hS; dsimp only at this; omega) (by intro q hq; simp at hq; omega))
            go_wp2_with fail
            refine HC4.out.mono ?_
            rintro e a5 ⟨rfl, Sa5, hda5, _, _⟩
            have HDA5 := Aside0.mk hda5
            clear hda5 HC4
            have HOP := Aside0.mk (lg_open3 (ks := [1]) (n := 1) (D2 := ⟨524288, [(nm 1, sureF ob)]⟩) (D3 := ⟨524288, [(nm 1, sureF ob)]⟩) HDA5.out (by decide) (by rw [← HDT.out]; exact crash_tmp' _) rfl (by intro k hk; simp at hk; omega) (by decide) (by decide) rfl rfl HOO.out (by decide))
            go_wp2_with fail
            refine HOP.out.mono ?_
            rintro e a6 ⟨S6, Q6, La, Da, Ma, rfl, hla, _, hsta, hfla, _, _, _⟩
            have HLA := Aside0.mk hla
            have hua := HUF.out.below hla.wl.dk.1
            have HSTA := Aside0.mk (state_own (s := M.st) (U := U) (A := A6) (c := c6) hla hsta hua (Kd.C_below HEF.out hla.wl.dk.1) HW11.out.1)
            have HNA := Aside0.mk (names_own (s := M.st) (U := U) (A := A6) (c := c6) hla hfla hua)
            obtain ⟨u0, u1, u2, u3, u4⟩ := hua
            clear hla hsta hfla HOP
            unfold OwnC at HSTA HNA
            go_wp2_with fail
            go_region_held3 (fun w' => w'.cell? ⟨U, 0, none⟩ = some (.int .i64 M.st.bi) ∧ w'.cell? ⟨U, 1, none⟩ = some (.int .i64 M.st.bt) ∧ w'.cell? ⟨U, 2, none⟩ = some (.int .i64 M.st.ht) ∧ w'.cell? ⟨U, 3, none⟩ = some (.int .i64 M.st.hv) ∧ w'.cell? ⟨U, 4, none⟩ = some (.slice A6 M.st.es.length c6)) (first | assumption | go_keep) (first
              | (go_at_call 49; refine (HSTA.out _ (by first | exact Below.refl _ _ | exact below_drew1 (Below.refl _ _) | exact pw_below_drewN (Below.refl _ _) _)).mono ?_; rintro e1 b1 ⟨A2, c2, rfl, hq, hx⟩)
              | (go_at_call 52; refine (HSM.out _ _ _ _ _ hx.out.1 hx.out.2.1 hx.out.2.2.1 hx.out.2.2.2.1).mono ?_; rintro e1 b2 ⟨rfl, hb2⟩; have hq2 := OwnC.below (s := M.st) (A := A6) (c := c6) (U := U) hq hb2; have hx2 := below_step hx.out.2.2.2.2 hb2)
              | (go_at_call 25; refine (HNA.out _ (by first | exact hx2 | exact below_drew1 hx2)).mono ?_; rintro e1 b3 ⟨A3, c3, rfl, hq3, hx3⟩))
            have HBG := Aside0.mk (below_step HLA.out.wl.dk.1 hx3.out)
            clear hq hq2 hq3 hx hx2 hx3 hb2 HSTA HNA u0 u1 u2 u3 u4
            go_wp2_with fail
            refine (dk_new 524288 (by decide) b3).mono ?_
            rintro e d1 ⟨gc, Sd1, rfl, hdd1⟩
            have HDD1 := Aside0.mk (show Dk b3 d1 Sd1 gc 0 ⟨524288, []⟩ from hdd1)
            clear hdd1
            have HOD := Aside0.mk (Kd.C_below HOF.out HBG.out)
            have HFD := Aside0.mk (Kd.C_below HRF.out.2.2 HBG.out)
            have HOWd := Aside0.mk (fun (X : World) (S : Nat → Prop) (N : Nat) (D : Dsk) (hd : Dk b3 X S gc N D) => (show ∀ ad, Ao = some ad → 0 < ob.length → ¬ S ad.block from fun ad e hn hS => by subst e; have h1 := Kd.C_lt HOD.out hn (by show 0 < 1; decide); have h2 := (hd.2.1 _ hS).1; omega))
            have HFWd := Aside0.mk (fun (X : World) (S : Nat → Prop) (N : Nat) (D : Dsk) (hd : Dk b3 X S gc N D) => (show ∀ ad, Af = some ad → 0 < fb.length → ¬ S ad.block from fun ad e hn hS => by subst e; have h1 := Kd.C_lt HFD.out hn (by show 0 < 1; decide); have h2 := (hd.2.1 _ hS).1; omega))
            have HE1 := Aside0.mk (dk_write (s := nameB 1) (at_ := 0) (c := co) HDD1.out (by decide) name1_size (Kd.C_below HOD.out HDD1.out.1) HO11.out.1 (by have := HOL.out; omega) (HOWd.out _ _ _ _ HDD1.out))
            rw [(lay_one (room := 524288) (b := ob) (by have := HOL.out; omega) (by have := HOL.out; omega)).1] at HE1
            go_wp2_with fail
            refine HE1.out.mono ?_
            rintro e d2 ⟨rfl, Sd2, hdd2, _, _⟩
            have HDD2 := Aside0.mk hdd2
            have HE2 := Aside0.mk (dk_sync (s := nameB 1) HDD2.out (by decide) name1_size)
            rw [(lay_one (room := 524288) (b := ob) (by have := HOL.out; omega) (by have := HOL.out; omega)).2] at HE2
            clear hdd2 HE1
            go_wp2_with fail
            refine HE2.out.mono ?_
            rintro e d3 ⟨rfl, Sd3, hdd3, _, _⟩
            have HDD3 := Aside0.mk hdd3
            have HE3 := Aside0.mk (dk_write (s := nameB 2) (at_ := 0) (c := cf) HDD3.out (by decide) name2_size (Kd.C_below HFD.out HDD3.out.1) HRF.out.2.1 (by have := HFL.out; omega) (HFWd.out _ _ _ _ HDD3.out))
            rw [(lay_two (room := 524288) (b := ob) (c := fb) (by have := HFL.out; omega) (by have := HFL.out; have := HOL.out; omega)).1] at HE3
            clear hdd3 HE2
            go_wp2_with fail
            refine HE3.out.mono ?_
            rintro e d4 ⟨rfl, Sd4, hdd4, _, _⟩
            have HDD4 := Aside0.mk hdd4
            have HE4 := Aside0.mk (dk_sync (s := nameB 2) HDD4.out (by decide) name2_size)
            rw [(lay_two (room := 524288) (b := ob) (c := fb) (by have := HFL.out; omega) (by have := HFL.out; have := HOL.out; omega)).2] at HE4
            clear hdd4 HE3
            go_wp2_with fail
            refine HE4.out.mono ?_
            rintro e d5 ⟨rfl, Sd5, hdd5, _, _⟩
            have HDD5 := Aside0.mk hdd5
            have HE5 := Aside0.mk (dk_crash (keep := []) (c := 0) HDD5.out (by decide) (Kd.C_nil _ _) (fun ad e => by cases e) (fun z hz => (List.not_mem_nil hz).elim))
            rw [crash_two] at HE5
            clear hdd5 HE4
            go_wp2_with fail
            refine HE5.out.mono ?_
            rintro e d6 ⟨rfl, Sd6, hdd6, _, _⟩
            have HDD6 := Aside0.mk hdd6
            clear hdd6 HE5
            have HOP2 := Aside0.mk (lg_open3 (ks := [1, 2]) (n := 2) HDD6.out (by decide) rm_two rfl (by intro k hk; simp at hk; omega) (by decide) (by decide) rfl drop_two HOF2.out (by decide))
            go_wp2_with fail
            refine HOP2.out.mono ?_
            rintro e d7 ⟨S7, Q7, Lc, Dc, Mc, rfl, hlc, hnc, hstc, hflc, _, _, _⟩
            have HLC := Aside0.mk hlc
            have hbc := below_step HBG.out hlc.wl.dk.1
            have hvc := HVF.out.below hbc
            have HLVC := Aside0.mk (live_own (s := s2) (U := V) (A := A12) (c := c12) hvc)
            have HSTC := Aside0.mk (state_own (s := s2) (U := V) (A := A12) (c := c12) hlc hstc hvc (Kd.C_below HNF.out hbc) HN12.out.2.1)
            have HNC := Aside0.mk (names_own (s := s2) (U := V) (A := A12) (c := c12) hlc hflc hvc)
            have HFC := Aside0.mk (show ∀ X, Below d7.heap.size d7 X → Calls Try.prog 50 #[.pointer (some ⟨Lc, 0, none⟩)] X fun e w' => e = .returned (.string (nameB 2)) ∧ X = w' from fun X hX => by
              have h1 := (HLC.out.below hX).wl.file (HLC.out.below hX).mok
              rw [hnc] at h1
              exact h1)
            have HBC := Aside0.mk (below_step HBF.out hbc)
            obtain ⟨u0, u1, u2, u3, u4⟩ := hvc
            clear hlc hnc hstc hflc HOP2 hbc
            unfold OwnC at HSTC HNC HLVC
            go_wp2_with fail
            go_region_held3 (fun w' => w'.cell? ⟨V, 0, none⟩ = some (.int .i64 s2.bi) ∧ w'.cell? ⟨V, 1, none⟩ = some (.int .i64 s2.bt) ∧ w'.cell? ⟨V, 2, none⟩ = some (.int .i64 s2.ht) ∧ w'.cell? ⟨V, 3, none⟩ = some (.int .i64 s2.hv) ∧ w'.cell? ⟨V, 4, none⟩ = some (.slice A12 s2.es.length c12)) (first | assumption | go_keep) (first
              | (go_at_call 47; refine (HLVC.out _ (by first | exact Below.refl _ _ | exact below_drew1 (Below.refl _ _) | exact pw_below_drewN (Below.refl _ _) _)).mono ?_; rintro e1 b0 ⟨rfl, hq0, hv0⟩)
              | (go_at_call 49; refine (HSTC.out _ (by first | exact hv0.out | exact below_drew1 hv0.out)).mono ?_; rintro e1 b1 ⟨A2, c2, rfl, hq, hx⟩)
              | (go_at_call 52; refine (HSN.out _ _ _ _ _ hx.out.1 hx.out.2.1 hx.out.2.2.1 hx.out.2.2.2.1).mono ?_; rintro e1 b2 ⟨rfl, hb2⟩; have hq2 := OwnC.below (s := s2) (A := A12) (c := c12) (U := V) hq hb2; have hx2 := below_step hx.out.2.2.2.2 hb2)
              | (go_at_call 25; refine (HNC.out _ (by first | exact hx2 | exact below_drew1 hx2)).mono ?_; rintro e1 b4 ⟨A3, c3, rfl, hq3, hx3⟩)
              | (go_at_call 50; refine (HFC.out _ (by first | exact hx3.out | exact below_drew1 hx3.out)).mono ?_; rintro e1 b5 ⟨rfl, rfl⟩))
            go_wp2_with fail
            go_ret
            exact ⟨rfl, below_step HBC.out hx3.out⟩
          · have hst : rr.2.2.st = M.st := HCS.out.elim (fun h => h.2.1) (fun h => absurd ⟨h.1, h.2.1⟩ hdn)
            have HST := Aside0.mk (lg_state HL11.out)
            rw [hst] at HST
            clear hst
            by_cases hz : rr.1 = 0
            · have cz : (rr.1 == 0) = true := by rw [hz]; rfl
              have cg : decide (ix > M.st.bi) = false := decide_eq_false (fun hh => hdn ⟨hz, hh⟩)
              clear hdn
              go_wp2_with fail
              refine HST.out.mono ?_
              rintro e w12 ⟨v12, rfl, hn12, hb12⟩
              obtain ⟨A12, c12, rfl⟩ := Kd.N_slice hn12
              have HB12 := Aside0.mk (below_step (below_step HB0.out HL11.out.wl.dk.1) hb12)
              have HN12 := Aside0.mk (Kd.N_reads' hn12)
              have HE12 := Aside0.mk (Kd.C_below (Kd.F_now HW11.out.2) hb12)
              have HU12 := Aside0.mk ((hb12.block _ (blk_lt HBU11.out.at_)).trans HBU11.out.at_)
              have HFW := Aside0.mk HI.out.lg.few
              clear hn12 hb12
              go_upto_region 17 with (fail)
              obtain ⟨V, hV⟩ : ∃ V, w12.heap.size = V := ⟨_, rfl⟩
              obtain ⟨wz, hwz⟩ : ∃ wz, wz = w12.alloc (.cells #[.int .i64 M.st.bi, .int .i64 M.st.bt, .int .i64 M.st.ht, .int .i64 M.st.hv, .slice A12 M.st.es.length c12] 87) := ⟨_, rfl⟩
              have hbz : Below w12.heap.size w12 wz := by rw [hwz]; exact below_alloc (Below.refl _ _) _
              have hkz : wz.heap[V]? = some (.cells #[.int .i64 M.st.bi, .int .i64 M.st.bt, .int .i64 M.st.ht, .int .i64 M.st.hv, .slice A12 M.st.es.length c12] 87 (0, 0)) := by rw [hwz, ← hV]; exact blk_new w12 _
              have HV := Aside0.mk hkz
              have HUZ := Aside0.mk ((hbz.block _ (blk_lt HU12.out)).trans HU12.out)
              have HBZ := Aside0.mk (below_step HB12.out hbz)
              have HNZ := Aside0.mk (Kd.C_below HN12.out.2.2 hbz)
              have HEZ := Aside0.mk (Kd.C_below HE12.out hbz)
              rw [hV, ← hwz]
              clear hV hwz hbz hkz u0
              go_wp2_with fail
              refine (wlive_calls _).mono ?_
              rintro e w13 ⟨rfl, hb13⟩
              have HB13 := Aside0.mk (below_step HBZ.out hb13)
              obtain ⟨u0, u1, u2, u3, u4⟩ := ownC_of ((hb13.block _ (blk_lt HUZ.out)).trans HUZ.out)
              obtain ⟨x0, x1, x2, x3, x4⟩ := ownC_of ((hb13.block _ (blk_lt HV.out)).trans HV.out)
              obtain ⟨r, hr, hsm⟩ := sameState_all (s1 := M.st) (s2 := M.st) HFW.out
              have HSM := Aside0.mk (hsm w13 A12 A6 c12 c6 (Kd.C_below HNZ.out hb13) HN12.out.2.1 (Kd.C_below HEZ.out hb13) HW11.out.1)
              rw [hr rfl] at HSM
              clear hb13 hr hsm
              go_wp2_with fail
              refine HSM.out.mono ?_
              rintro e w14 ⟨rfl, hb14⟩
              have HB14 := Aside0.mk (below_step HB13.out hb14)
              clear hb14
              go_wp2_with fail
              go_ret
              exact ⟨rfl, HB14.out⟩
            · have cz : (rr.1 == 0) = false := beq_eq_false_iff_ne.mpr hz
              clear hdn
              go_wp2_with fail
              refine HST.out.mono ?_
              rintro e w12 ⟨v12, rfl, hn12, hb12⟩
              obtain ⟨A12, c12, rfl⟩ := Kd.N_slice hn12
              have HB12 := Aside0.mk (below_step (below_step HB0.out HL11.out.wl.dk.1) hb12)
              have HN12 := Aside0.mk (Kd.N_reads' hn12)
              have HE12 := Aside0.mk (Kd.C_below (Kd.F_now HW11.out.2) hb12)
              have HU12 := Aside0.mk ((hb12.block _ (blk_lt HBU11.out.at_)).trans HBU11.out.at_)
              have HFW := Aside0.mk HI.out.lg.few
              clear hn12 hb12
              go_upto_region 17 with (fail)
              obtain ⟨V, hV⟩ : ∃ V, w12.heap.size = V := ⟨_, rfl⟩
              obtain ⟨wz, hwz⟩ : ∃ wz, wz = w12.alloc (.cells #[.int .i64 M.st.bi, .int .i64 M.st.bt, .int .i64 M.st.ht, .int .i64 M.st.hv, .slice A12 M.st.es.length c12] 87) := ⟨_, rfl⟩
              have hbz : Below w12.heap.size w12 wz := by rw [hwz]; exact below_alloc (Below.refl _ _) _
              have hkz : wz.heap[V]? = some (.cells #[.int .i64 M.st.bi, .int .i64 M.st.bt, .int .i64 M.st.ht, .int .i64 M.st.hv, .slice A12 M.st.es.length c12] 87 (0, 0)) := by rw [hwz, ← hV]; exact blk_new w12 _
              have HV := Aside0.mk hkz
              have HUZ := Aside0.mk ((hbz.block _ (blk_lt HU12.out)).trans HU12.out)
              have HBZ := Aside0.mk (below_step HB12.out hbz)
              have HNZ := Aside0.mk (Kd.C_below HN12.out.2.2 hbz)
              have HEZ := Aside0.mk (Kd.C_below HE12.out hbz)
              rw [hV, ← hwz]
              clear hV hwz hbz hkz u0
              go_wp2_with fail
              refine (wlive_calls _).mono ?_
              rintro e w13 ⟨rfl, hb13⟩
              have HB13 := Aside0.mk (below_step HBZ.out hb13)
              obtain ⟨u0, u1, u2, u3, u4⟩ := ownC_of ((hb13.block _ (blk_lt HUZ.out)).trans HUZ.out)
              obtain ⟨x0, x1, x2, x3, x4⟩ := ownC_of ((hb13.block _ (blk_lt HV.out)).trans HV.out)
              obtain ⟨r, hr, hsm⟩ := sameState_all (s1 := M.st) (s2 := M.st) HFW.out
              have HSM := Aside0.mk (hsm w13 A12 A6 c12 c6 (Kd.C_below HNZ.out hb13) HN12.out.2.1 (Kd.C_below HEZ.out hb13) HW11.out.1)
              rw [hr rfl] at HSM
              clear hb13 hr hsm
              go_wp2_with fail
              refine HSM.out.mono ?_
              rintro e w14 ⟨rfl, hb14⟩
              have HB14 := Aside0.mk (below_step HB13.out hb14)
              clear hb14
              go_wp2_with fail
              go_ret
              exact ⟨rfl, HB14.out⟩
end Go.Proofs.Ytmmiipnmimjojaa.PS
end
section
namespace Go.Proofs.Ytmmiipnmimjojaa.PS
open Go.RowKit Go.Proofs.YtmmiipnmimjojaaW.PrintWords Go.Proofs.Ytmmiipnmimjojaa.OpenK
set_option linter.unusedVariables false
theorem okb_ofW {y : S48} (h : Good48 y) : okBytes y.f3 = true := by
  unfold okBytes
  rw [List.all_eq_true]
  intro b hb
  have := u8_of (h.2.2.2.2.2 b hb)
  simp
  omega
theorem tollgatelaw06_WalSwitches.calls (A0 : Option Addr) (c0 : Nat) (x0 : List S48) (x1 x2 : Int) (r : Bool) (W : World) (h0 : k48.C W A0 x0.length x0) (l0 : x0.length ≤ c0) (hp : r = true ∧ x0.length ≤ 140737488355328 ∧ (∀ x ∈ x0, okBytes x.f3 = true) ∧ (-9223372036854775808 ≤ x1 ∧ x1 ≤ 9223372036854775807) ∧ (-9223372036854775808 ≤ x2 ∧ x2 ≤ 9223372036854775807)) :
    Calls Try.prog 14 #[.slice A0 x0.length c0, .int .i64 x1, .int .i64 x2] W fun e w' => e = .returned (.bool r) ∧ Below W.heap.size W w' := by
  obtain ⟨rfl, h2, h3, h4, h5⟩ := hp
  exact walSwitches_calls h0 l0 h2 h3 h4 h5.2
end Go.Proofs.Ytmmiipnmimjojaa.PS
namespace Go.Proofs.Ytmmiipnmimjojaa.Pure
open Go.RowKit Go.Proofs.YtmmiipnmimjojaaW.PrintWords Go.Proofs.Ytmmiipnmimjojaa.OpenK Go.Proofs.Ytmmiipnmimjojaa.PS
theorem WalSwitches_pure (x0 : List S48) (x1 x2 : Int) (g0 : x0.length * 48 ≤ reachBytes ∧ x0.length ≤ maxLen ∧ ∀ y ∈ x0, Good48 y) (g1 : (Lit.int .i64 x1).wf = true) (g2 : (Lit.int .i64 x2).wf = true) : true = true ∧ x0.length ≤ 140737488355328 ∧ (∀ x ∈ x0, okBytes x.f3 = true) ∧ (-9223372036854775808 ≤ x1 ∧ x1 ≤ 9223372036854775807) ∧ (-9223372036854775808 ≤ x2 ∧ x2 ≤ 9223372036854775807) :=
  ⟨rfl, by have h1 : x0.length * 48 ≤ 140737488351232 := g0.1; omega, fun x hx => okb_ofW (g0.2.2 x hx), i64_of g1, i64_of g2⟩
end Go.Proofs.Ytmmiipnmimjojaa.Pure
end
section
namespace Go.Proofs.Ytmmiipnmimjojaa.walSwitches
open Go.ChangeShapes Go.WideShapes Go.ChangeAt Go.RowKit Go.Proofs.YtmmiipnmimjojaaW.PrintWords Go.Proofs.Ytmmiipnmimjojaa.OpenK Go.Proofs.Ytmmiipnmimjojaa.PS
open Go.ChangeMaps (open_string shut_string)
set_option linter.unusedVariables false
theorem own : ownKnob Try.prog.godebug = none := by kernel_rfl
theorem laidOut : laidOutB Try.prog = true := by kernel_rfl
set_option maxRecDepth 1000000 in
set_option maxHeartbeats 1000000 in
theorem contract (H : Type) (enc : TypeId × Value → H) (W : World) (base : Nat) (args : Array Value) (ds gs : List (DataW H)) (before : List MemPlace)
    (hval0 : ∀ (j : Nat) t v, Try.f14.params[j]? = some t → args[j]? = some v → Value.okWide Try.prog W .any base t v)
    (hW : DataW.Whole enc Try.prog Try.f14.params.toList Rows.walSwitchesSpec.vars false W args.toList ds gs before)
    (hsz0 : (DataW.weightsEach Try.prog (Try.f14.params.toList ++ Rows.walSwitchesSpec.plain.varTypes Try.prog) (ds ++ gs)).all (· ≤ reachBytes) = true) :
    Calls Try.prog 14 args W fun e W' => ∃ v, e = .returned v ∧ Rows.walSwitchesSpec.post enc Try.prog Try.f14 false true false false W args v W' := by
  have hsz : (DataW.weightsEach Try.prog (Try.f14.params.toList ++ Rows.walSwitchesSpec.plain.varTypes Try.prog) (ds ++ gs)).all (· ≤ reachBytes) = true := hsz0
  have hval : ∀ (j : Nat) t v, Try.f14.params[j]? = some t → args[j]? = some v → Value.okWide Try.prog W .any base t v := hval0
  have hW' := hW
  obtain ⟨p, q, hA0, hV, rfl, hfz, hnd⟩ := hW
  have hA : DataW.TrodAll enc Try.prog W 0 (fun _ => true) true Try.f14.params.toList args.toList ds p := hA0
  rw [Try.params14] at hA hval hsz
  obtain ⟨v0, vs0, d0, ds0, p0, q0, hargs, rfl, rfl, h0, r0⟩ := trodAll_cons hA
  obtain ⟨v1, vs1, d1, ds1, p1, q1, rfl, rfl, rfl, h1, r1⟩ := trodAll_cons r0
  obtain ⟨v2, vs2, d2, ds2, p2, q2, rfl, rfl, rfl, h2, r2⟩ := trodAll_cons r1
  obtain ⟨rfl, rfl, rfl⟩ := trodAll_nil r2
  obtain rfl : args = #[v0, v1, v2] := by cases args; simp_all
  obtain ⟨rfl, rfl⟩ := trodVars_none hV
  have k0 := h0
  have lt0 : ∀ x ∈ p0, x.block < W.heap.size := by obtain ⟨m, hm⟩ := k0; exact DataW.trod_lt m _ _ _ hm
  have z0 := arg_sized hsz (j := 0) (t := 51) rfl rfl
  obtain ⟨a0, len0, cap0, rfl⟩ := okWide_slice Try.underlying51 (hval 0 51 v0 rfl rfl)
  obtain ⟨fuel0, hf0⟩ := h0
  obtain ⟨x0, ⟨A0, c0, e0, l0, C0⟩, g0, s0⟩ := (opens_slice (B := 48) Try.underlying51 opens48 (by kernel_rfl) (by kernel_rfl)).open_ hf0 z0
  have e0' : Value.slice a0 len0 cap0 = .slice A0 x0.length c0 := by simpa [Value.cells] using e0
  rw [e0']
  have k1 := h1
  have lt1 : ∀ x ∈ p1, x.block < W.heap.size := by obtain ⟨m, hm⟩ := k1; exact DataW.trod_lt m _ _ _ hm
  have z1 := arg_sized hsz (j := 1) (t := 3) rfl rfl
  obtain ⟨x1, rfl, _, _, g1⟩ := open_int Try.underlying3 (hval 1 3 v1 rfl rfl) h1
  have k2 := h2
  have lt2 : ∀ x ∈ p2, x.block < W.heap.size := by obtain ⟨m, hm⟩ := k2; exact DataW.trod_lt m _ _ _ hm
  have z2 := arg_sized hsz (j := 2) (t := 3) rfl rfl
  obtain ⟨x2, rfl, _, _, g2⟩ := open_int Try.underlying3 (hval 2 3 v2 rfl rfl) h2
  clear hA0 hval0 hsz0 hsz
  have hp := Pure.WalSwitches_pure x0 x1 x2 g0 g1 g2
  refine (PS.tollgatelaw06_WalSwitches.calls A0 c0 x0 x1 x2 true W C0 l0 hp).mono ?_
  rintro e W' ⟨rfl, hd⟩
  have bel : Below W.heap.size W W' := hd
  rw [← e0']
  exact ⟨_, rfl, _, _, _, [], _, [], hW', trodAll_mk1 (shut_bool Try.underlying4 _), (trodAll_cons_mk (Below.trod laidOut (by kernel_rfl) (of_decide_eq_true (by kernel_rfl)) k0 bel lt0) (trodAll_cons_mk (Below.trod laidOut (by kernel_rfl) (of_decide_eq_true (by kernel_rfl)) k1 bel lt1) (trodAll_cons_mk (Below.trod laidOut (by kernel_rfl) (of_decide_eq_true (by kernel_rfl)) k2 bel lt2) trodAll_mk0))), rfl, bel.frame _, fun h => by cases h⟩
set_option maxRecDepth 100000 in
theorem lifted (os : Os) (started : os.Started) (H : Type) (enc : TypeId × Value → H) :
    ReturnsInHanded {} Try.checked os 14 .any (Rows.walSwitchesSpec.pre6 enc Try.prog Try.f14 Rows.walSwitchesRow.domain false) (Rows.walSwitchesSpec.post enc Try.prog Try.f14 false true false false) := by
  refine returnsInHanded_of_change_sized (C := Try.checked) own started (by kernel_rfl) Try.func14
    (ChangeSpec.witness6 (enc := enc) (C := Try.checked) false ⟨#[], #[.slice none 0 0, .int .i64 0, .int .i64 0], []⟩ 8 (by kernel_rfl) (by kernel_rfl) (by kernel_rfl) (by kernel_rfl)) ?_
  intro W base args ds gs before hval0 hW hcnd hsz0 _
  exact contract H enc W base args ds gs before hval0 hW hsz0
theorem over : Rows.walSwitchesRow.holds Try.pinned (OpenSpec.ofChange Rows.walSwitchesSpec) :=
  OpenClaim.holds_of_wide 14 Try.f14 rfl rfl rfl rfl rfl rfl rfl ⟨rfl, rfl, rfl, rfl, rfl⟩ rfl rfl rfl rfl rfl (by kernel_rfl) Try.func14 (by kernel_rfl)
    (of_decide_eq_true (by kernel_rfl)) (by unfold Func.isWrapper; first | (rw [if_pos (by decide +kernel)]; kernel_rfl) | (rw [if_neg (by decide +kernel)]; exact ⟨rfl, rfl⟩))
    (fun os started H enc _ => lifted os started H enc)
end Go.Proofs.Ytmmiipnmimjojaa.walSwitches
namespace Go.Proofs.Ytmmiipnmimjojaa
theorem walSwitches_holds : Rows.WalSwitchesSaid := walSwitches.over
end Go.Proofs.Ytmmiipnmimjojaa
end
