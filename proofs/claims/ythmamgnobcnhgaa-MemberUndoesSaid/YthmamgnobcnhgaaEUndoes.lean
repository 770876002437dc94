/- MemberUndoes walked. -/
import Derived.Test.YthmamgnobcnhgaaMember10
import Derived.Test.YthmamgnobcnhgaaPMx11
import Derived.Test.YthmamgnobcnhgaaPMx16
import Derived.Test.YthmamgnobcnhgaaPMx40
import Derived.Deep.RegionHeld3
import Derived.Deep.DrawnRows
namespace Go.Proofs.Ythmamgnobcnhgaa.PM
open Go.RowKit Go.Proofs.YthmamgnobcnhgaaW.PrintWords Go.Proofs.YthmamgnobcnhgaaW.PrintLast Go.Proofs.YthmamgnobcnhgaaW.PrintMore
open Go.Proofs.Ythmamgnobcnhgaa.Pure
attribute [local go_sem ↓] Go.wp_at_zero Go.wp_at_succ
set_option linter.unusedVariables false
set_option linter.unusedSimpArgs false
abbrev k64 : Kd Int := Kd.int .i64
theorem apply_r (A0 : Option Addr) (c0 : Nat) (V : List Int) (A1 : Option Addr) (c1 : Nat) (L : List Int) (d n : Int) (w : World) (hr0 : k64.C w A0 V.length V) (hc0 : V.length ≤ c0) (hr1 : k64.C w A1 L.length L) (hc1 : L.length ≤ c1)
    (hV : V.length ≤ 17592186043904) (hL : L.length ≤ 17592186043904) (o1 o2 : List Int) (e0 : Int) (h : applyB V L d n = (o1, o2, e0)) :
    Calls Try.prog 40 #[.agg #[.slice A0 V.length c0, .slice A1 L.length c1], .agg #[.int .i64 d, .int .i64 n]] w fun e w' => ∃ B0 b0 B1 b1, e = .returned (.tuple #[.agg #[.slice B0 o1.length b0, .slice B1 o2.length b1], .int .i64 e0]) ∧
      k64.R 3 w' w.heap.size (fun _ => True) (.slice B0 o1.length b0) o1 ∧ k64.R 3 w' w.heap.size (fun _ => True) (.slice B1 o2.length b1) o2 ∧ Below w.heap.size w w' := by
  refine (member_Apply.calls 30 A0 c0 V A1 c1 L d n o1 o2 e0 w hr0 hc0 hr1 hc1 (by rw [Apply_f V L hV hL d n (by omega), h])).mono ?_
  rintro e w' ⟨v0, v1, rfl, h0, h1, hb⟩
  obtain ⟨B0, b0, rfl⟩ := Kd.R_slice h0
  obtain ⟨B1, b1, rfl⟩ := Kd.R_slice h1
  exact ⟨B0, b0, B1, b1, rfl, Kd.R_mono h0 (fun _ _ => trivial), Kd.R_mono h1 (fun _ _ => trivial), hb⟩
theorem blk_new' (W : World) (o : Obj) {k : Nat} (h : k = W.heap.size) : (W.alloc o).heap[k]? = some o := by rw [h]; exact blk_new _ _
theorem bcell {W w1 : World} (hb : Below W.heap.size W w1) : (∀ b o, b < W.heap.size → w1.cell? ⟨b, o, none⟩ = W.cell? ⟨b, o, none⟩) ∧ (∀ b o, b < W.heap.size → w1.frozen? ⟨b, o, none⟩ = W.frozen? ⟨b, o, none⟩) :=
  ⟨fun b o h => hb.cell (p := ⟨b, o, none⟩) h, fun b o h => hb.frozen (p := ⟨b, o, none⟩) h⟩
theorem setCell_ne {W : World} {a p : Addr} {v u : Value} (h : W.cell? a = some v) (hne : a.block ≠ p.block) : (W.setCell p u).cell? a = some v :=
  (World.cell?_of_block (w := W) (Below.heap_setCell W p u a.block hne)).trans h
def undoD (j : Nat) : Int := if j = 0 then 1 else if j = 1 then 2 else 3
def undoE (j : Nat) : Int := if j = 0 then 4 else if j = 1 then 3 else 2
def tollgatelaw03_MemberUndoes.f (V L : List Int) (n : Int) : Option Bool := if V.length ≤ 17592186043904 ∧ L.length ≤ 17592186043904 then some true else none
set_option maxHeartbeats 2000000 in
set_option maxRecDepth 100000 in
theorem undoes_core (A0 : Option Addr) (c0 : Nat) (V : List Int) (A1 : Option Addr) (c1 : Nat) (L : List Int) (n : Int) (w : World) (hr0 : k64.C w A0 V.length V) (hc0 : V.length ≤ c0) (hr1 : k64.C w A1 L.length L) (hc1 : L.length ≤ c1)
    (hV : V.length ≤ 17592186043904) (hL : L.length ≤ 17592186043904) :
    Calls Try.prog 12 #[.agg #[.slice A0 V.length c0, .slice A1 L.length c1], .int .i64 n] w fun e w' => e = .returned (.bool true) ∧ Below w.heap.size w w' := by
  have HR0 := Aside0.mk hr0
  have HR1 := Aside0.mk hr1
  clear hr0 hr1
  have HB := Aside0.mk (below_alloc (below_alloc (Below.refl w.heap.size w) (.cells #[.slice A0 V.length c0, .slice A1 L.length c1] 24 (0, 0))) (.cells #[.int .i64 1, .int .i64 4, .int .i64 2, .int .i64 3, .int .i64 3, .int .i64 2] 63 (0, 0)))
  go_enter Try.func12, Try.ntmps12
  go_wp2_with fail
  go_loopw [6] (fun i wr => ∃ j : Nat, j ≤ 3 ∧ i = .int .i64 j ∧ wr.heap[w.heap.size]? = some (.cells #[.slice A0 V.length c0, .slice A1 L.length c1] 24 (0, 0)) ∧
      wr.heap[w.heap.size + 1]? = some (.cells #[.int .i64 1, .int .i64 4, .int .i64 2, .int .i64 3, .int .i64 3, .int .i64 2] 63 (0, 0)) ∧ Below w.heap.size w wr) (fun i _ => 3 - (intOf i).toNat)
  case atStart =>
    refine ⟨0, by omega, rfl, ?_, ?_, HB.out⟩
    · exact blk_alloc (blk_new _ _) _
    · exact blk_new' _ _ (by simp [go_sem])
  case round =>
    obtain ⟨j, hj, rfl, hm, hg, hb⟩ := hrel
    have HM := Aside0.mk hm
    have HG := Aside0.mk hg
    have HBR := Aside0.mk hb
    have hsz := hb.size
    clear hm hg hb HB
    by_cases h3 : j = 3
    · subst h3
      have hb7 : decide (((3 : Nat) : Int) < ((3 : Nat) : Int)) = false := by decide
      go_wp2_with fail
      refine (tollgatelaw03_live.calls 200 true _ (live_f (by omega))).mono ?_
      rintro e w1 ⟨rfl, hb1⟩
      go_wp2
      go_ret
      exact ⟨rfl, below_step HBR.out hb1⟩
    · have hlt : j < 3 := by omega
      obtain ⟨d, hd⟩ : ∃ d, undoD j = d := ⟨_, rfl⟩
      obtain ⟨d', hd'⟩ : ∃ d', undoE j = d' := ⟨_, rfl⟩
      have hdd : (d = 1 ∧ d' = 4) ∨ (d = 2 ∧ d' = 3) ∨ (d = 3 ∧ d' = 2) := by
        subst hd hd'
        unfold undoD undoE
        have : j = 0 ∨ j = 1 ∨ j = 2 := by omega
        rcases this with rfl | rfl | rfl <;> simp
      have hc0' : wr.cell? ⟨w.heap.size + 1, j * 2, none⟩ = some (.int .i64 d) := by
        rw [blk_cell HG.out, ← hd]
        have : j = 0 ∨ j = 1 ∨ j = 2 := by omega
        rcases this with rfl | rfl | rfl <;> rfl
      have hc1' : wr.cell? ⟨w.heap.size + 1, j * 2 + 1, none⟩ = some (.int .i64 d') := by
        rw [blk_cell HG.out, ← hd']
        have : j = 0 ∨ j = 1 ∨ j = 2 := by omega
        rcases this with rfl | rfl | rfl <;> rfl
      have hm0 : wr.cell? ⟨w.heap.size, 0, none⟩ = some (.slice A0 V.length c0) := blk_cell HM.out 0
      have hm1 : wr.cell? ⟨w.heap.size, 1, none⟩ = some (.slice A1 L.length c1) := blk_cell HM.out 1
      have HD := Aside0.mk hdd
      have HC1 := Aside0.mk hc1'
      clear hd hd' hdd
      have hb7 : decide ((j : Int) < ((3 : Nat) : Int)) = true := by simp; omega
      have hj0 : (0 : Int) ≤ (j : Int) := by omega
      have hj1 : (j : Int) < 3 := by omega
      obtain ⟨⟨o1, o2, e1⟩, hap⟩ : ∃ x, applyB V L d n = x := ⟨_, rfl⟩
      have HAP := Aside0.mk hap
      clear hap
      have hol : (applyB V L d n).1.length ≤ 10 ∧ (applyB V L d n).2.1.length ≤ 10 := applyB_len V L d n
      rw [HAP.out] at hol
      have hcall : ∀ W, Below wr.heap.size wr W → Calls Try.prog 40 #[.agg #[.slice A0 V.length c0, .slice A1 L.length c1], .agg #[.int .i64 d, .int .i64 n]] W fun e w' => ∃ B0 b0 B1 b1, e = .returned (.tuple #[.agg #[.slice B0 o1.length b0, .slice B1 o2.length b1], .int .i64 e1]) ∧
          (w'.cell? ⟨w.heap.size, 0, none⟩ = some (.slice A0 V.length c0) ∧ w'.cell? ⟨w.heap.size, 1, none⟩ = some (.slice A1 L.length c1) ∧ w'.cell? ⟨w.heap.size + 1, j * 2, none⟩ = some (.int .i64 d)) ∧
          Aside0 (k64.R 3 w' W.heap.size (fun _ => True) (.slice B0 o1.length b0) o1 ∧ k64.R 3 w' W.heap.size (fun _ => True) (.slice B1 o2.length b1) o2 ∧ Below wr.heap.size wr w' ∧ Below W.heap.size W w') := fun W hW => by
        refine (apply_r A0 c0 V A1 c1 L d n W (Kd.C_below HR0.out (below_step HBR.out hW)) hc0 (Kd.C_below HR1.out (below_step HBR.out hW)) hc1 hV hL o1 o2 e1 HAP.out).mono ?_
        rintro e w' ⟨B0, b0, B1, b1, rfl, g0, g1, hb⟩
        have hb2 := below_step hW hb
        have l1' := blk_lt HM.out
        have l2' := blk_lt HG.out
        exact ⟨B0, b0, B1, b1, rfl, ⟨(hb2.cell l1').trans hm0, (hb2.cell l1').trans hm1, (hb2.cell l2').trans hc0'⟩, ⟨g0, g1, hb2, hb⟩⟩
      have HCALL := Aside0.mk hcall
      clear hcall
      have hGl := blk_lt HG.out
      go_wp2_with fail
      go_upto_region 5 with (fail)
      go_cut [7, 8] from 16 to 73 (fun v7 v8 w' => ∃ g B0 b0 B1 b1, v7 = .pointer (some ⟨g, 0, none⟩) ∧ v8 = .int .i64 e1 ∧ Aside0 (w'.heap[g]? = some (.cells #[.slice B0 o1.length b0, .slice B1 o2.length b1] 24 (0, 0))) ∧
          Aside0 (k64.C w' B0 o1.length o1 ∧ o1.length ≤ b0 ∧ k64.C w' B1 o2.length o2 ∧ o2.length ≤ b1) ∧ Aside0 (Below wr.heap.size wr w') ∧ w.heap.size + 1 < g)
      case first =>
        go_region_held3 (fun w' => w'.cell? ⟨w.heap.size, 0, none⟩ = some (.slice A0 V.length c0) ∧ w'.cell? ⟨w.heap.size, 1, none⟩ = some (.slice A1 L.length c1) ∧ w'.cell? ⟨w.heap.size + 1, j * 2, none⟩ = some (.int .i64 d)) (first | assumption | go_keep | (refine ⟨?_, ?_, ?_⟩ <;> (refine setCell_ne (setCell_ne ?_ (by dsimp only; omega)) (by dsimp only; omega); first | assumption | (go_simp; done))))
          ((go_at_call 40; refine (HCALL.out _ (by first | exact below_drew1 (Below.refl _ _) | exact below_alloc (below_drew1 (Below.refl _ _)) _)).mono ?_; rintro e w1 ⟨B0, b0, B1, b1, rfl, ⟨hq0, hq1, hq2⟩, hx⟩; obtain ⟨hcl, hfr⟩ := bcell hx.out.2.2.2; have hsz1 := hx.out.2.2.2.size))
        · obtain ⟨g0, g1, hb2, hb3⟩ := hx.out
          go_wp2
          go_meet
          case rel =>
            have k0 := Kd.R_reads' g0
            have k1 := Kd.R_reads' g1
            have hbe := below_alloc (Below.refl w1.heap.size w1) (.cells #[.slice B0 o1.length b0, .slice B1 o2.length b1] 24 (0, 0))
            exact ⟨_, B0, b0, B1, b1, rfl, rfl, ⟨blk_new _ _⟩, ⟨Kd.C_below k0.2.2 hbe, k0.2.1, Kd.C_below k1.2.2 hbe, k1.2.1⟩, ⟨below_step hb2 hbe⟩, by have := hb2.size; omega⟩
        · obtain ⟨g0, g1, hb2, hb3⟩ := hx.out
          go_wp2
          go_meet
          case rel =>
            have hz : (wr.alloc (Obj.cells #[Value.slice none 0 0, Value.slice none 0 0] 24)).drew.heap.size = wr.heap.size + 1 := by simp [go_sem]
            have q0 : ∀ u v, k64.R 3 ((w1.setCell ⟨wr.heap.size, 0, none⟩ u).setCell ⟨wr.heap.size, 1, none⟩ v) (wr.heap.size + 1) (fun _ => True) (.slice B0 o1.length b0) o1 := fun u v => by
              rw [hz] at g0
              have h := Kd.R_bound g0
              exact Kd.R_mono (Kd.R_far (Kd.R_far h (p := ⟨wr.heap.size, 0, none⟩) (fun k hk => by have := hk.2.1; dsimp only; omega) u) (p := ⟨wr.heap.size, 1, none⟩) (fun k hk => by have := hk.2.1; dsimp only; omega) v) (fun _ _ => trivial)
            have q1 : ∀ u v, k64.R 3 ((w1.setCell ⟨wr.heap.size, 0, none⟩ u).setCell ⟨wr.heap.size, 1, none⟩ v) (wr.heap.size + 1) (fun _ => True) (.slice B1 o2.length b1) o2 := fun u v => by
              rw [hz] at g1
              have h := Kd.R_bound g1
              exact Kd.R_mono (Kd.R_far (Kd.R_far h (p := ⟨wr.heap.size, 0, none⟩) (fun k hk => by have := hk.2.1; dsimp only; omega) u) (p := ⟨wr.heap.size, 1, none⟩) (fun k hk => by have := hk.2.1; dsimp only; omega) v) (fun _ _ => trivial)
            have k0 := Kd.R_reads' (q0 (.slice B0 o1.length b0) (.slice B1 o2.length b1))
            have k1 := Kd.R_reads' (q1 (.slice B0 o1.length b0) (.slice B1 o2.length b1))
            have hblk : w1.heap[wr.heap.size]? = some (.cells #[.slice none 0 0, .slice none 0 0] 24 (0, 0)) := (hb3.block _ (by rw [hz]; omega)).trans (blk_new wr _)
            refine ⟨wr.heap.size, B0, b0, B1, b1, rfl, rfl, ⟨blk_set (blk_set hblk 0 _) 1 _⟩, ⟨k0.2.2, k0.2.1, k1.2.2, k1.2.1⟩, ⟨(hb2.setCell (Nat.le_refl _) _).setCell (Nat.le_refl _) _⟩, by omega⟩
      case rest =>
        obtain ⟨g, B0, b0, B1, b1, rfl, rfl, HG7, HO, HB7, hgl⟩ := hcut
        have hm0 : wc.cell? ⟨w.heap.size, 0, none⟩ = some (.slice A0 V.length c0) := (HB7.out.cell (blk_lt HM.out)).trans hm0
        have hgr : wc.heap[w.heap.size + 1]? = _ := (HB7.out.block _ (blk_lt HG.out)).trans HG.out
        have hmr : wc.heap[w.heap.size]? = _ := (HB7.out.block _ (blk_lt HM.out)).trans HM.out
        have HGR := Aside0.mk hgr
        have HMR := Aside0.mk hmr
        have HBC := Aside0.mk (below_step HBR.out HB7.out)
        clear hgr hmr hm0 hm1 hc0' hc1'
        go_step
        go_step
        by_cases he : e1 = 0
        · have hx0 : (e1 != 0) = false := by simpa using he
          have heb : errB V L d n = 0 ∧ o1 = (outB V L d n).1 ∧ o2 = (outB V L d n).2 := by
            have h := HAP.out
            unfold applyB at h
            by_cases hz : errB V L d n = 0
            · rw [if_pos hz] at h
              cases h
              exact ⟨hz, rfl, rfl⟩
            · rw [if_neg hz] at h
              cases h
              exact absurd he hz
          obtain ⟨u1, u2, u3, u4', u5'⟩ := undo_way heb.1 HD.out
          rw [← heb.2.1, ← heb.2.2] at u1 u2 u3
          rw [← heb.2.1] at u4' u5'
          have hap2 : applyB o1 o2 d' n = (V, L, 0) := by
            unfold applyB
            rw [if_pos u1, u2]
          have HAP2 := Aside0.mk hap2
          have HU3 := Aside0.mk u3
          clear u1 u2 u3 hap2 heb he
          have hm0 : wc.cell? ⟨g, 0, none⟩ = some (.slice B0 o1.length b0) := blk_cell HG7.out 0
          have hm1 : wc.cell? ⟨g, 1, none⟩ = some (.slice B1 o2.length b1) := blk_cell HG7.out 1
          have hc1' : wc.cell? ⟨w.heap.size + 1, j * 2 + 1, none⟩ = some (.int .i64 d') := (HB7.out.cell (blk_lt HG.out)).trans HC1.out
          have hcall : ∀ W, Below wc.heap.size wc W → Calls Try.prog 40 #[.agg #[.slice B0 o1.length b0, .slice B1 o2.length b1], .agg #[.int .i64 d', .int .i64 n]] W fun e w' => ∃ D0 e0 D1 e2, e = .returned (.tuple #[.agg #[.slice D0 V.length e0, .slice D1 L.length e2], .int .i64 0]) ∧
              (w'.cell? ⟨g, 0, none⟩ = some (.slice B0 o1.length b0) ∧ w'.cell? ⟨g, 1, none⟩ = some (.slice B1 o2.length b1) ∧ w'.cell? ⟨w.heap.size + 1, j * 2 + 1, none⟩ = some (.int .i64 d')) ∧
              Aside0 (k64.R 3 w' W.heap.size (fun _ => True) (.slice D0 V.length e0) V ∧ k64.R 3 w' W.heap.size (fun _ => True) (.slice D1 L.length e2) L ∧ Below wc.heap.size wc w' ∧ Below W.heap.size W w') := fun W hW => by
            refine (apply_r B0 b0 o1 B1 b1 o2 d' n W (Kd.C_below HO.out.1 hW) HO.out.2.1 (Kd.C_below HO.out.2.2.1 hW) HO.out.2.2.2 (by omega) (by omega) V L 0 HAP2.out).mono ?_
            rintro e w' ⟨D0, e0, D1, e2, rfl, g0, g1, hb⟩
            have hb2 := below_step hW hb
            have l1' := blk_lt HG7.out
            have l2' := blk_lt HGR.out
            exact ⟨D0, e0, D1, e2, rfl, ⟨(hb2.cell l1').trans hm0, (hb2.cell l1').trans hm1, (hb2.cell l2').trans hc1'⟩, ⟨g0, g1, hb2, hb⟩⟩
          have HCALL2 := Aside0.mk hcall
          clear hcall
          have hGl2 := blk_lt HGR.out
          have hgl2 := blk_lt HG7.out
          go_wp2_with fail
          go_upto_region 7 with (fail)
          go_cut [9, 10] from 16 to 73 (fun v9 v10 w' => ∃ g2 D0 e0 D1 e2, v9 = .pointer (some ⟨g2, 0, none⟩) ∧ v10 = .int .i64 0 ∧ Aside0 (w'.heap[g2]? = some (.cells #[.slice D0 V.length e0, .slice D1 L.length e2] 24 (0, 0))) ∧
              Aside0 (k64.C w' D0 V.length V ∧ V.length ≤ e0 ∧ k64.C w' D1 L.length L ∧ L.length ≤ e2) ∧ Aside0 (Below wc.heap.size wc w') ∧ w.heap.size + 1 < g2)
          case first =>
            go_region_held3 (fun w' => w'.cell? ⟨g, 0, none⟩ = some (.slice B0 o1.length b0) ∧ w'.cell? ⟨g, 1, none⟩ = some (.slice B1 o2.length b1) ∧ w'.cell? ⟨w.heap.size + 1, j * 2 + 1, none⟩ = some (.int .i64 d')) (first | assumption | go_keep | (refine ⟨?_, ?_, ?_⟩ <;> (refine setCell_ne (setCell_ne ?_ (by dsimp only; omega)) (by dsimp only; omega); first | assumption | (go_simp; done))))
              ((go_at_call 40; refine (HCALL2.out _ (by first | exact below_drew1 (Below.refl _ _) | exact below_alloc (below_drew1 (Below.refl _ _)) _)).mono ?_; rintro e w1 ⟨D0, e0, D1, e2, rfl, ⟨hq0, hq1, hq2⟩, hx⟩; obtain ⟨hcl, hfr⟩ := bcell hx.out.2.2.2; have hsz1 := hx.out.2.2.2.size))
            · obtain ⟨g0, g1, hb2, hb3⟩ := hx.out
              go_wp2
              go_meet
              case rel =>
                have k0 := Kd.R_reads' g0
                have k1 := Kd.R_reads' g1
                have hbe := below_alloc (Below.refl w1.heap.size w1) (.cells #[.slice D0 V.length e0, .slice D1 L.length e2] 24 (0, 0))
                exact ⟨_, D0, e0, D1, e2, rfl, rfl, ⟨blk_new _ _⟩, ⟨Kd.C_below k0.2.2 hbe, k0.2.1, Kd.C_below k1.2.2 hbe, k1.2.1⟩, ⟨below_step hb2 hbe⟩, by have := hb2.size; omega⟩
            · obtain ⟨g0, g1, hb2, hb3⟩ := hx.out
              go_wp2
              go_meet
              case rel =>
                have hz : (wc.alloc (Obj.cells #[Value.slice none 0 0, Value.slice none 0 0] 24)).drew.heap.size = wc.heap.size + 1 := by simp [go_sem]
                have q0 : ∀ u v, k64.R 3 ((w1.setCell ⟨wc.heap.size, 0, none⟩ u).setCell ⟨wc.heap.size, 1, none⟩ v) (wc.heap.size + 1) (fun _ => True) (.slice D0 V.length e0) V := fun u v => by
                  rw [hz] at g0
                  have h := Kd.R_bound g0
                  exact Kd.R_mono (Kd.R_far (Kd.R_far h (p := ⟨wc.heap.size, 0, none⟩) (fun k hk => by have := hk.2.1; dsimp only; omega) u) (p := ⟨wc.heap.size, 1, none⟩) (fun k hk => by have := hk.2.1; dsimp only; omega) v) (fun _ _ => trivial)
                have q1 : ∀ u v, k64.R 3 ((w1.setCell ⟨wc.heap.size, 0, none⟩ u).setCell ⟨wc.heap.size, 1, none⟩ v) (wc.heap.size + 1) (fun _ => True) (.slice D1 L.length e2) L := fun u v => by
                  rw [hz] at g1
                  have h := Kd.R_bound g1
                  exact Kd.R_mono (Kd.R_far (Kd.R_far h (p := ⟨wc.heap.size, 0, none⟩) (fun k hk => by have := hk.2.1; dsimp only; omega) u) (p := ⟨wc.heap.size, 1, none⟩) (fun k hk => by have := hk.2.1; dsimp only; omega) v) (fun _ _ => trivial)
                have k0 := Kd.R_reads' (q0 (.slice D0 V.length e0) (.slice D1 L.length e2))
                have k1 := Kd.R_reads' (q1 (.slice D0 V.length e0) (.slice D1 L.length e2))
                have hblk : w1.heap[wc.heap.size]? = some (.cells #[.slice none 0 0, .slice none 0 0] 24 (0, 0)) := (hb3.block _ (by rw [hz]; omega)).trans (blk_new wc _)
                refine ⟨wc.heap.size, D0, e0, D1, e2, rfl, rfl, ⟨blk_set (blk_set hblk 0 _) 1 _⟩, ⟨k0.2.2, k0.2.1, k1.2.2, k1.2.1⟩, ⟨(hb2.setCell (Nat.le_refl _) _).setCell (Nat.le_refl _) _⟩, by omega⟩
          case rest =>
            obtain ⟨g2, D0, e0, D1, e2, rfl, rfl, HG9, HO9, HB9, hgl9⟩ := hcut
            have HMD := Aside0.mk ((HB9.out.block _ (blk_lt HMR.out)).trans HMR.out)
            have HGD := Aside0.mk ((HB9.out.block _ (blk_lt HGR.out)).trans HGR.out)
            have HBD := Aside0.mk (below_step HBC.out HB9.out)
            clear hm0 hm1 hc1'
            have q0 : wc.cell? ⟨g2, 0, none⟩ = some (.slice D0 V.length e0) := blk_cell HG9.out 0
            have q1 : wc.cell? ⟨g2, 1, none⟩ = some (.slice D1 L.length e2) := blk_cell HG9.out 1
            have q2 : wc.cell? ⟨w.heap.size, 0, none⟩ = some (.slice A0 V.length c0) := blk_cell HMD.out 0
            have q3 : wc.cell? ⟨w.heap.size, 1, none⟩ = some (.slice A1 L.length c1) := blk_cell HMD.out 1
            have hg9 : wc.heap[g]? = _ := (HB9.out.block _ (blk_lt HG7.out)).trans HG7.out
            have q4 : wc.cell? ⟨g, 0, none⟩ = some (.slice B0 o1.length b0) := blk_cell hg9 0
            have q5 : wc.cell? ⟨g, 1, none⟩ = some (.slice B1 o2.length b1) := blk_cell hg9 1
            have z1 := blk_lt HG9.out
            have z2 := blk_lt HMD.out
            have z3 := blk_lt hg9
            have HG79 := Aside0.mk hg9
            clear hg9
            go_step
            go_step
            go_wp2_with fail
            refine (tollgateref03_Same.calls (V.length + L.length + 5) D0 e0 V D1 e2 L A0 c0 V A1 c1 L true _ HO9.out.1 HO9.out.2.1 HO9.out.2.2.1 HO9.out.2.2.2 (Kd.C_below HR0.out HBD.out) hc0 (Kd.C_below HR1.out HBD.out) hc1 (by rw [Same_f _ _ _ _ (by omega) (by omega) (by omega) (by omega)]; simp)).mono ?_
            rintro e w5 ⟨rfl, hb5⟩
            obtain ⟨hcl, hfr⟩ := bcell hb5
            have hsz5 := hb5.size
            go_wp2_with fail
            refine (member_Right.calls B0 b0 o1 B1 b1 o2 true _ (Kd.C_below HO.out.1 (below_step HB9.out hb5)) HO.out.2.1 (Kd.C_below HO.out.2.2.1 (below_step HB9.out hb5)) HO.out.2.2.2 (by rw [Right_f (by omega) (by omega), HU3.out])).mono ?_
            rintro e w6 ⟨rfl, hb6⟩
            have HB6 := Aside0.mk (below_step hb5 hb6)
            have r4 : w6.cell? ⟨g, 0, none⟩ = some (.slice B0 o1.length b0) := (HB6.out.cell z3).trans q4
            have r2 : w6.cell? ⟨w.heap.size, 0, none⟩ = some (.slice A0 V.length c0) := (HB6.out.cell z2).trans q2
            clear hcl hfr
            clear hb5 hb6
            go_wp2_with fail
            go_roundw
            case rel => exact ⟨j + 1, by omega, by go_num, (HB6.out.block _ z2).trans HMD.out, (HB6.out.block _ (blk_lt HGD.out)).trans HGD.out, below_step HBD.out HB6.out⟩
            case measure => simp [intOf]; omega
        · have hx0 : (e1 != 0) = true := by simpa using he
          go_wp2
          go_roundw
          case rel => exact ⟨j + 1, by omega, by go_num, HMR.out, HGR.out, HBC.out⟩
          case measure => simp [intOf]; omega
theorem tollgatelaw03_MemberUndoes.calls (A0_0 : Option Addr) (c0_0 : Nat) (l0_0 : List Int) (A0_1 : Option Addr) (c0_1 : Nat) (l0_1 : List Int) (a1 : Int) (r : Bool) (w : World) (hr0_0 : Kd.C (Kd.int .i64) w A0_0 l0_0.length l0_0) (hc0_0 : l0_0.length ≤ c0_0) (hr0_1 : Kd.C (Kd.int .i64) w A0_1 l0_1.length l0_1) (hc0_1 : l0_1.length ≤ c0_1) (h : tollgatelaw03_MemberUndoes.f l0_0 l0_1 a1 = some r) :
    Calls Try.prog 12 #[.agg #[.slice A0_0 l0_0.length c0_0, .slice A0_1 l0_1.length c0_1], .int .i64 a1] w fun e w' => e = .returned (.bool r) ∧ Below w.heap.size w w' := by
  unfold tollgatelaw03_MemberUndoes.f at h
  by_cases hc : l0_0.length ≤ 17592186043904 ∧ l0_1.length ≤ 17592186043904
  · rw [if_pos hc] at h
    obtain rfl := Option.some.inj h
    exact undoes_core _ _ _ _ _ _ _ w hr0_0 hc0_0 hr0_1 hc0_1 hc.1 hc.2
  · rw [if_neg hc] at h; cases h
end Go.Proofs.Ythmamgnobcnhgaa.PM
