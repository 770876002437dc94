/- The texts of this claim's seat, joined: part 16. -/
import Derived.Test.YtmmiipnmimjojaaJ15
section
namespace Go.Proofs.Ytmmiipnmimjojaa.PS
open Go.RowKit Go.Proofs.YtmmiipnmimjojaaW.PrintWords Go.Proofs.YtmmiipnmimjojaaW.PrintLast Go.Proofs.YtmmiipnmimjojaaW.PrintMore
open Go.Maps Go.Proofs.Ytmmiipnmimjojaa.PD
set_option linter.unusedVariables false
set_option linter.unusedSimpArgs false
def DoP (W0 W : World) (S R : Nat → Prop) (g r N : Nat) (D : Dsk) (x : S58) (e : Ending) (w' : World) : Prop :=
  e = .returned (.bool true) ∧ ∃ S' R', Pr W0 w' S' R' g r (N + 1) (dDo D x) D.room (refL (dDo D x).files) ∧ ∀ b o, Bx W S R b o → Bx w' S' R' b o
theorem Pr.mono {W0 W : World} {S R : Nat → Prop} {g r N M : Nat} {D : Dsk} {room : Int} {l : List S144} (h : Pr W0 W S R g r N D room l) (hM : N ≤ M) : Pr W0 W S R g r M D room l :=
  ⟨⟨h.dk.1, h.dk.2.1, h.dk.2.2.1, h.dk.2.2.2.mono hM⟩, h.rf, h.new, h.dis⟩
theorem R_frame {d : Kd Int} {w w' : World} {S R S' R' ok : Nat → Prop} {e base : Nat} {v : Value} {xs : List Int} (h : d.R e w base ok v xs) (hok : ∀ k, ok k → ¬ S k ∧ ¬ R k) (hF : ∀ b o, Bx w S R b o → Bx w' S' R' b o) : d.R e w' base ok v xs :=
  Kd.R_step h fun k hk hlt => by
    obtain ⟨o, ho⟩ : ∃ o, w.heap[k]? = some o := ⟨_, Array.getElem?_eq_getElem hlt⟩
    exact (hF k o ⟨ho, (hok k hk).1, (hok k hk).2⟩).at_.trans ho.symm
theorem Bx.kp {W W1 : World} {S R P : Nat → Prop} {b : Nat} {o : Obj} (h : Bx W S R b o) (k : Kp W W1 P) (hP : ¬ P b) : Bx W1 S R b o := ⟨(k.block b (blk_lt h.at_) hP).trans h.at_, h.ns, h.nr⟩
set_option maxHeartbeats 8000000 in
set_option maxRecDepth 100000 in
theorem do_calls {W0 W : World} {S R : Nat → Prop} {g r N : Nat} {D : Dsk} {kd at_ : Int} {nm to_ : ByteArray} {by_ kp : List Int} {A4 A5 : Option Addr} {c4 c5 : Nat} (h : Pr W0 W S R g r N D D.room (refL D.files)) (hN : N ≤ 900000)
    (hnm : nm.size ≤ maxLen) (hto : to_.size ≤ maxLen) (hat : -9223372036854775808 ≤ at_ ∧ at_ ≤ 9223372036854775807) (hby : by_.length ≤ 4000) (hkp : ∀ z ∈ kp, z ≤ 9223372036854775807)
    (hC4 : k8.C W0 A4 by_.length by_) (hl4 : by_.length ≤ c4) (hC5 : (Kd.int .i64).C W0 A5 kp.length kp) :
    Calls Try.prog 37 #[.pointer (some ⟨g, 0, none⟩), .pointer (some ⟨r, 0, none⟩), .agg #[.int .i64 kd, .string nm, .string to_, .int .i64 at_, .slice A4 by_.length c4, .slice A5 kp.length c5]] W (DoP W0 W S R g r N D ⟨kd, nm, to_, at_, by_, kp⟩) := by
  have HI := Aside0.mk h.dk.2.2.2
  have HC4 := Aside0.mk hC4
  have HC5 := Aside0.mk hC5
  have HKP := Aside0.mk hkp
  have H4 := Aside0.mk (show ∀ (w : World) (S : Nat → Prop) (R : Nat → Prop) (N : Nat) (D : Dsk) (room : Int) (l : List S144), Pr W0 w S R g r N D room l → ∀ ad, A4 = some ad → 0 < by_.length → ¬ S ad.block from fun w S R N D room l hp ad e hn hS => by
    subst e
    have h1 := Kd.C_lt hC4 hn (by show 0 < 1; decide)
    have h2 := (hp.dk.2.1 _ hS).1
    omega)
  have H5 := Aside0.mk (show ∀ (w : World) (S : Nat → Prop) (R : Nat → Prop) (N : Nat) (D : Dsk) (room : Int) (l : List S144), Pr W0 w S R g r N D room l → ∀ ad, A5 = some ad → 0 < kp.length → ¬ S ad.block from fun w S R N D room l hp ad e hn hS => by
    subst e
    have h1 := Kd.C_lt hC5 hn (by show 0 < 1; decide)
    have h2 := (hp.dk.2.1 _ hS).1
    omega)
  obtain ⟨w1, hw1⟩ : ∃ w1, w1 = W.alloc (.cells #[.int .i64 kd, .string nm, .string to_, .int .i64 at_, .slice A4 by_.length c4, .slice A5 kp.length c5] 58) := ⟨_, rfl⟩
  have hb1 : Below W.heap.size W w1 := by rw [hw1]; exact below_alloc (Below.refl _ _) _
  have hbk : w1.heap[W.heap.size]? = some (.cells #[.int .i64 kd, .string nm, .string to_, .int .i64 at_, .slice A4 by_.length c4, .slice A5 kp.length c5] 58 (0, 0)) := by rw [hw1]; exact blk_new W _
  have m0 : w1.cell? ⟨W.heap.size, 0, none⟩ = some (.int .i64 kd) := blk_cell hbk 0
  have m1 : w1.cell? ⟨W.heap.size, 1, none⟩ = some (.string nm) := blk_cell hbk 1
  have m2 : w1.cell? ⟨W.heap.size, 2, none⟩ = some (.string to_) := blk_cell hbk 2
  have m3 : w1.cell? ⟨W.heap.size, 3, none⟩ = some (.int .i64 at_) := blk_cell hbk 3
  have m4 : w1.cell? ⟨W.heap.size, 4, none⟩ = some (.slice A4 by_.length c4) := blk_cell hbk 4
  have m5 : w1.cell? ⟨W.heap.size, 5, none⟩ = some (.slice A5 kp.length c5) := blk_cell hbk 5
  have HP := Aside0.mk (h.below hb1)
  have HBX := Aside0.mk (Bx.of_new h (Nat.le_refl _) hbk)
  have HF := Aside0.mk (show ∀ b o, Bx W S R b o → Bx w1 S R b o from fun b o hb => hb.below hb1)
  clear h hC4 hC5 hkp hbk hb1
  by_cases hk0 : kd = 0
  · have hd : dDo D ⟨kd, nm, to_, at_, by_, kp⟩ = (dWrite D nm at_ by_).2 := by unfold dDo; dsimp only; rw [if_pos hk0]
    have HD := Aside0.mk hd
    have ct0 : (kd == 0) = true := by simp; omega
    clear hd hk0
    go_enter Try.func37, Try.ntmps37
    go_upto_region 1 with (fail)
    rw [← hw1]
    clear hw1
    go_wp2_with (first
      | ((with_reducible refine gate_dst (N := 14) rfl ?_); refine Kd.R_lit k8 _ 5 ?hg (N := 14) ?hd (xs := ([] : List Int)) (inner := []) (ok := fun k => w1.heap.size ≤ k) (okp := fun k => w1.heap.size ≤ k) ?hr ?hp (fun _ hk => hk) (Nat.le_refl _) (Below.refl _ _) (Nat.le_refl _) (by simp) ?_; (case hd => rfl); (case hg => rfl); (case hr => first | (go_simp; done) | (go_simp; rfl)); (case hp => exact (Reps.none _ _)); intro v5 w5 ho5 hb5 hg_ hnew_; have HO5 := Aside0.mk ho5; have HB5 := Aside0.mk hb5; have q54 : w5.cell? ⟨W.heap.size, 4, none⟩ = some (.slice A4 by_.length c4) := blk_cell (HBX.out.below hb5).at_ 4; clear hg_ hnew_ ho5 hb5)
      | ((with_reducible refine gate_dst (N := 17) rfl ?_); refine Kd.R_append_rows k8 (w0 := w1) w1.heap.size (by rfl) (.tmp 14) (.tmp 16) 22 5 (.int .u8 0) 1 (by rfl) Try.underlying22 info5 (by rfl) (by decide) (by decide) _ [] by_ A4 by_.length c4 (fun k => w1.heap.size ≤ k) (fun _ => False) (by rfl) (by rfl) HO5.out (Kd.C_below (Kd.C_below HC4.out HP.out.dk.1) HB5.out) (fun _ _ h => h) (fun _ h => h.elim) (fun k hk => Nat.le_trans HB5.out.size hk) HB5.out HB5.out.size (by rw [List.length_nil]; omega) ?_; intro v6 w6 hR hb6 hg hat; rw [List.nil_append] at hR; obtain ⟨A6, c6, rfl⟩ := Kd.R_slice hR; have HO6 := Aside0.mk hR; have HB6 := Aside0.mk hb6; have n1 : w6.cell? ⟨W.heap.size, 1, none⟩ = some (.string nm) := blk_cell (HBX.out.below hb6).at_ 1; have n3 : w6.cell? ⟨W.heap.size, 3, none⟩ = some (.int .i64 at_) := blk_cell (HBX.out.below hb6).at_ 3; clear hR hb6 hg hat q54)
      | fail)
    have hP6 := HP.out.below HB6.out
    have hX6 := HBX.out.below HB6.out
    have hF6 : ∀ b o, Bx W S R b o → Bx w6 S R b o := fun b o hb => (HF.out b o hb).below HB6.out
    have HSR := Aside0.mk (show ∀ k, w1.heap.size ≤ k → ¬ S k ∧ ¬ R k from fun k hk => ⟨fun h => by have := (HP.out.dk.2.1 k h).2; omega, fun h => by have := HP.out.rf.lt k h; omega⟩)
    have HWW := Aside0.mk (show W.heap.size < w1.heap.size from blk_lt HBX.out.at_)
    have HBX0 := Aside0.mk (show W0.heap.size ≤ w1.heap.size from HP.out.dk.1.size)
    clear HP HBX HF
    have HP := Aside0.mk hP6
    have HBX := Aside0.mk hX6
    have HF := Aside0.mk hF6
    clear hP6 hX6 hF6
    refine (pd_write HP.out (by omega) hnm (Kd.R_reads' HO6.out).2.2 (Kd.R_reads' HO6.out).2.1 (by omega) (fun ad e hn hS => by
      subst e
      have h0 := (Kd.R_bound HO6.out).1 ad.block (by simp [Value.ownBlock])
      exact (HSR.out _ h0.1).1 hS)).mono ?_
    rintro e w4 ⟨rfl, T4, hp4, hb4⟩
    have HF4 := Aside0.mk hb4
    have HBX := Aside0.mk (hb4 _ _ HBX.out)
    have n1 : w4.cell? ⟨W.heap.size, 1, none⟩ = some (.string nm) := blk_cell HBX.out.at_ 1
    have n2 : w4.cell? ⟨W.heap.size, 2, none⟩ = some (.string to_) := blk_cell HBX.out.at_ 2
    have n3 : w4.cell? ⟨W.heap.size, 3, none⟩ = some (.int .i64 at_) := blk_cell HBX.out.at_ 3
    have n4 : w4.cell? ⟨W.heap.size, 4, none⟩ = some (.slice A4 by_.length c4) := blk_cell HBX.out.at_ 4
    have n5 : w4.cell? ⟨W.heap.size, 5, none⟩ = some (.slice A5 kp.length c5) := blk_cell HBX.out.at_ 5
    have HO7 := Aside0.mk (R_frame HO6.out HSR.out hb4)
    have HF := Aside0.mk (fun b o hb => hb4 b o (HF.out b o hb))
    have HP := Aside0.mk hp4
    clear hp4 hb4
    have HOWN := Aside0.mk (show ∀ k, (Value.slice A6 by_.length c6).ownBlock = some k → w1.heap.size ≤ k ∧ k < w6.heap.size from fun k hk => by
      have := (Kd.R_bound HO6.out).1 k hk
      exact ⟨this.1, this.2.2.1⟩)
    clear HO6
    have HR6 := Aside0.mk (show ∀ k, w1.heap.size ≤ k → k < w6.heap.size → ¬ T4 k ∧ ¬ R k from fun k hk hlt => by
      obtain ⟨o, ho⟩ : ∃ o, w6.heap[k]? = some o := ⟨_, Array.getElem?_eq_getElem hlt⟩
      have := HF4.out k o ⟨ho, (HSR.out k hk).1, (HSR.out k hk).2⟩
      exact ⟨this.ns, this.nr⟩)
    clear n1 n2 n3 n4 n5
    go_wp2_with fail
    go_loopg [9] by_.length (fun kq v9 w' => ∃ (i : Int) (l' : List Int), v9 = .int .i64 i ∧ 0 ≤ i ∧ i + kq = by_.length ∧ Aside0 (l'.length = by_.length) ∧ Aside0 (k8.R 5 w' w1.heap.size (fun k => w1.heap.size ≤ k) (.slice A6 by_.length c6) l') ∧ Aside0 (Kp w4 w' (fun k => (Value.slice A6 by_.length c6).ownBlock = some k)))
    case atStart => exact ⟨0, by_, rfl, by omega, by omega, ⟨rfl⟩, HO7, ⟨Kp.refl _ _⟩⟩
    case round =>
      obtain ⟨i, l', rfl, i0, i1, HLN, HR, HK⟩ := hrel
      by_cases hi : i < (by_.length : Int)
      · have c6' : decide (i < (by_.length : Int)) = true := decide_eq_true hi
        have HR' := HR.out
        obtain ⟨gL, cap, e9, hgb, hgl, cl, hgc⟩ := Kd.R_form HR' (by have := HLN.out; omega)
        injection e9 with ea en ec
        subst ea
        subst ec
        clear en
        obtain ⟨hcell, hfr⟩ := Kd.R_celln 0 HR' i i0 hi
        have p0 := eq_true i0
        have p1 := eq_true hi
        have hni : IntKind.i64.wrap (i + 1) = i + 1 := IntWalk.i64_in _ ⟨by omega, by omega⟩
        have HLE := Aside0.mk hgb
        clear HR' hgc hgb hgl
        go_wp2_with fail
        go_roundg (gk - 1)
        case measure => omega
        case rel => exact ⟨i + 1, l'.set i.toNat _, rfl, by omega, by omega, ⟨by rw [List.length_set]; exact HLN.out⟩, ⟨(Kd.R_putg HR.out i _).1⟩, ⟨HK.out.setCell (p := ⟨gL, i.toNat, none⟩) (.inl rfl) _⟩⟩
      · have c6' : decide (i < (by_.length : Int)) = false := decide_eq_false hi
        have hbx : ¬ (Value.slice A6 by_.length c6).ownBlock = some W.heap.size := fun e => by have := (HOWN.out _ e).1; have := HWW.out; omega
        have hP8 := HP.out.kp HK.out (fun k hk => by have h1 := (HOWN.out k hk).1; have h2 := (HBX0.out); omega) (fun k hS hk => (HR6.out k (HOWN.out k hk).1 (HOWN.out k hk).2).1 hS) (fun k hR hk => (HR6.out k (HOWN.out k hk).1 (HOWN.out k hk).2).2 hR)
        have hX8 := HBX.out.kp HK.out hbx
        have hF8 : ∀ b o, Bx W S R b o → Bx wr T4 R b o := fun b o hb => (HF.out b o hb).kp HK.out (fun e => by have h1 := (HOWN.out _ e).1; have h2 := blk_lt hb.at_; have := HWW.out; omega)
        clear HP HBX HF
        have HP := Aside0.mk hP8
        have HBX := Aside0.mk hX8
        have HF := Aside0.mk hF8
        have n1 : wr.cell? ⟨W.heap.size, 1, none⟩ = some (.string nm) := blk_cell HBX.out.at_ 1
        have n3 : wr.cell? ⟨W.heap.size, 3, none⟩ = some (.int .i64 at_) := blk_cell HBX.out.at_ 3
        have n4 : wr.cell? ⟨W.heap.size, 4, none⟩ = some (.slice A4 by_.length c4) := blk_cell HBX.out.at_ 4
        clear hP8 hX8 hF8 hbx HR HK HO7
        go_wp2_with fail
        refine (pr_write HP.out HI.out (by omega) hnm (Kd.C_below HC4.out HP.out.dk.1) hl4 hat hby).mono ?_
        rintro e w4 ⟨rfl, T4, hp4, hb4⟩
        have HBX := Aside0.mk (hb4 _ _ HBX.out)
        have n1 : w4.cell? ⟨W.heap.size, 1, none⟩ = some (.string nm) := blk_cell HBX.out.at_ 1
        have n2 : w4.cell? ⟨W.heap.size, 2, none⟩ = some (.string to_) := blk_cell HBX.out.at_ 2
        have n3 : w4.cell? ⟨W.heap.size, 3, none⟩ = some (.int .i64 at_) := blk_cell HBX.out.at_ 3
        have n4 : w4.cell? ⟨W.heap.size, 4, none⟩ = some (.slice A4 by_.length c4) := blk_cell HBX.out.at_ 4
        have n5 : w4.cell? ⟨W.heap.size, 5, none⟩ = some (.slice A5 kp.length c5) := blk_cell HBX.out.at_ 5
        have HF := Aside0.mk (fun b o hb => hb4 b o (HF.out b o hb))
        have HP := Aside0.mk hp4
        clear hp4 hb4
        go_wp2_with fail
        go_ret
        exact ⟨rfl, _, _, by rw [HD.out]; exact HP.out, HF.out⟩
  by_cases hk1 : kd = 1
  · have hd : dDo D ⟨kd, nm, to_, at_, by_, kp⟩ = (dCut D nm at_).2 := by unfold dDo; dsimp only; rw [if_neg hk0]; rw [if_pos hk1]
    have HD := Aside0.mk hd
    have ct0 : (kd == 0) = false := by simp; omega
    have ct1 : (kd == 1) = true := by simp; omega
    clear hd hk0 hk1
    go_enter Try.func37, Try.ntmps37
    go_upto_region 1 with (fail)
    rw [← hw1]
    clear hw1
    go_wp2_with fail
    have HP := Aside0.mk (HP.out.below (below_drew1 (Below.refl _ _)))
    have HBX := Aside0.mk (HBX.out.below (below_drew1 (Below.refl _ _)))
    have HF := Aside0.mk (show ∀ b o, Bx W S R b o → Bx w1.drew S R b o from fun b o hb => (HF.out b o hb).below (below_drew1 (Below.refl _ _)))
    go_region_law (first
      | (go_simp; go_at_call 35; refine (pd_cut HP.out (by omega) hnm).mono ?_; rintro e w4 ⟨rfl, T4, hp4, hb4⟩; have HBX := Aside0.mk (hb4 _ _ HBX.out); have n1 : w4.cell? ⟨W.heap.size, 1, none⟩ = some (.string nm) := blk_cell HBX.out.at_ 1; have n2 : w4.cell? ⟨W.heap.size, 2, none⟩ = some (.string to_) := blk_cell HBX.out.at_ 2; have n3 : w4.cell? ⟨W.heap.size, 3, none⟩ = some (.int .i64 at_) := blk_cell HBX.out.at_ 3; have n4 : w4.cell? ⟨W.heap.size, 4, none⟩ = some (.slice A4 by_.length c4) := blk_cell HBX.out.at_ 4; have n5 : w4.cell? ⟨W.heap.size, 5, none⟩ = some (.slice A5 kp.length c5) := blk_cell HBX.out.at_ 5; have HF := Aside0.mk (fun b o hb => hb4 b o (HF.out b o hb)); have HP := Aside0.mk hp4; clear hp4 hb4)
      | (go_simp; go_at_call 79; refine (pr_cut HP.out HI.out (by omega)).mono ?_; rintro e w4 ⟨rfl, T4, hp4, hb4⟩; have HBX := Aside0.mk (hb4 _ _ HBX.out); have n1 : w4.cell? ⟨W.heap.size, 1, none⟩ = some (.string nm) := blk_cell HBX.out.at_ 1; have n2 : w4.cell? ⟨W.heap.size, 2, none⟩ = some (.string to_) := blk_cell HBX.out.at_ 2; have n3 : w4.cell? ⟨W.heap.size, 3, none⟩ = some (.int .i64 at_) := blk_cell HBX.out.at_ 3; have n4 : w4.cell? ⟨W.heap.size, 4, none⟩ = some (.slice A4 by_.length c4) := blk_cell HBX.out.at_ 4; have n5 : w4.cell? ⟨W.heap.size, 5, none⟩ = some (.slice A5 kp.length c5) := blk_cell HBX.out.at_ 5; have HF := Aside0.mk (fun b o hb => hb4 b o (HF.out b o hb)); have HP := Aside0.mk hp4; clear hp4 hb4)
      | fail)
    all_goals
      go_wp2_with fail
      go_ret
      exact ⟨rfl, _, _, by rw [HD.out]; exact HP.out.mono (by omega), HF.out⟩
  by_cases hk2 : kd = 2
  · have hd : dDo D ⟨kd, nm, to_, at_, by_, kp⟩ = (dSync D nm).2 := by unfold dDo; dsimp only; rw [if_neg hk0]; rw [if_neg hk1]; rw [if_pos hk2]
    have HD := Aside0.mk hd
    have ct0 : (kd == 0) = false := by simp; omega
    have ct1 : (kd == 1) = false := by simp; omega
    have ct2 : (kd == 2) = true := by simp; omega
    clear hd hk0 hk1 hk2
    go_enter Try.func37, Try.ntmps37
    go_upto_region 1 with (fail)
    rw [← hw1]
    clear hw1
    go_wp2_with fail
    have HP := Aside0.mk (HP.out.below (below_drew1 (Below.refl _ _)))
    have HBX := Aside0.mk (HBX.out.below (below_drew1 (Below.refl _ _)))
    have HF := Aside0.mk (show ∀ b o, Bx W S R b o → Bx w1.drew S R b o from fun b o hb => (HF.out b o hb).below (below_drew1 (Below.refl _ _)))
    go_region_law (first
      | (go_simp; go_at_call 21; refine (pd_sync HP.out (by omega) hnm).mono ?_; rintro e w4 ⟨rfl, T4, hp4, hb4⟩; have HBX := Aside0.mk (hb4 _ _ HBX.out); have n1 : w4.cell? ⟨W.heap.size, 1, none⟩ = some (.string nm) := blk_cell HBX.out.at_ 1; have n2 : w4.cell? ⟨W.heap.size, 2, none⟩ = some (.string to_) := blk_cell HBX.out.at_ 2; have n3 : w4.cell? ⟨W.heap.size, 3, none⟩ = some (.int .i64 at_) := blk_cell HBX.out.at_ 3; have n4 : w4.cell? ⟨W.heap.size, 4, none⟩ = some (.slice A4 by_.length c4) := blk_cell HBX.out.at_ 4; have n5 : w4.cell? ⟨W.heap.size, 5, none⟩ = some (.slice A5 kp.length c5) := blk_cell HBX.out.at_ 5; have HF := Aside0.mk (fun b o hb => hb4 b o (HF.out b o hb)); have HP := Aside0.mk hp4; clear hp4 hb4)
      | (go_simp; go_at_call 80; refine (pr_sync HP.out HI.out (by omega)).mono ?_; rintro e w4 ⟨rfl, T4, hp4, hb4⟩; have HBX := Aside0.mk (hb4 _ _ HBX.out); have n1 : w4.cell? ⟨W.heap.size, 1, none⟩ = some (.string nm) := blk_cell HBX.out.at_ 1; have n2 : w4.cell? ⟨W.heap.size, 2, none⟩ = some (.string to_) := blk_cell HBX.out.at_ 2; have n3 : w4.cell? ⟨W.heap.size, 3, none⟩ = some (.int .i64 at_) := blk_cell HBX.out.at_ 3; have n4 : w4.cell? ⟨W.heap.size, 4, none⟩ = some (.slice A4 by_.length c4) := blk_cell HBX.out.at_ 4; have n5 : w4.cell? ⟨W.heap.size, 5, none⟩ = some (.slice A5 kp.length c5) := blk_cell HBX.out.at_ 5; have HF := Aside0.mk (fun b o hb => hb4 b o (HF.out b o hb)); have HP := Aside0.mk hp4; clear hp4 hb4)
      | fail)
    all_goals
      go_wp2_with fail
      go_ret
      exact ⟨rfl, _, _, by rw [HD.out]; exact HP.out.mono (by omega), HF.out⟩
  by_cases hk3 : kd = 3
  · have hd : dDo D ⟨kd, nm, to_, at_, by_, kp⟩ = (dRename D nm to_).2 := by unfold dDo; dsimp only; rw [if_neg hk0]; rw [if_neg hk1]; rw [if_neg hk2]; rw [if_pos hk3]
    have HD := Aside0.mk hd
    have ct0 : (kd == 0) = false := by simp; omega
    have ct1 : (kd == 1) = false := by simp; omega
    have ct2 : (kd == 2) = false := by simp; omega
    have ct3 : (kd == 3) = true := by simp; omega
    clear hd hk0 hk1 hk2 hk3
    go_enter Try.func37, Try.ntmps37
    go_upto_region 1 with (fail)
    rw [← hw1]
    clear hw1
    go_wp2_with fail
    have HP := Aside0.mk (HP.out.below (below_drew1 (Below.refl _ _)))
    have HBX := Aside0.mk (HBX.out.below (below_drew1 (Below.refl _ _)))
    have HF := Aside0.mk (show ∀ b o, Bx W S R b o → Bx w1.drew S R b o from fun b o hb => (HF.out b o hb).below (below_drew1 (Below.refl _ _)))
    go_region_law (first
      | (go_simp; go_at_call 31; refine (pd_rename HP.out hnm hto).mono ?_; rintro e w4 ⟨rfl, T4, hp4, hb4⟩; have HBX := Aside0.mk (hb4 _ _ HBX.out); have n1 : w4.cell? ⟨W.heap.size, 1, none⟩ = some (.string nm) := blk_cell HBX.out.at_ 1; have n2 : w4.cell? ⟨W.heap.size, 2, none⟩ = some (.string to_) := blk_cell HBX.out.at_ 2; have n3 : w4.cell? ⟨W.heap.size, 3, none⟩ = some (.int .i64 at_) := blk_cell HBX.out.at_ 3; have n4 : w4.cell? ⟨W.heap.size, 4, none⟩ = some (.slice A4 by_.length c4) := blk_cell HBX.out.at_ 4; have n5 : w4.cell? ⟨W.heap.size, 5, none⟩ = some (.slice A5 kp.length c5) := blk_cell HBX.out.at_ 5; have HF := Aside0.mk (fun b o hb => hb4 b o (HF.out b o hb)); have HP := Aside0.mk hp4; clear hp4 hb4)
      | (go_simp; go_at_call 81; refine (pr_rename HP.out HI.out (by omega) hto).mono ?_; rintro e w4 ⟨rfl, T4, hp4, hb4⟩; have HBX := Aside0.mk (hb4 _ _ HBX.out); have n1 : w4.cell? ⟨W.heap.size, 1, none⟩ = some (.string nm) := blk_cell HBX.out.at_ 1; have n2 : w4.cell? ⟨W.heap.size, 2, none⟩ = some (.string to_) := blk_cell HBX.out.at_ 2; have n3 : w4.cell? ⟨W.heap.size, 3, none⟩ = some (.int .i64 at_) := blk_cell HBX.out.at_ 3; have n4 : w4.cell? ⟨W.heap.size, 4, none⟩ = some (.slice A4 by_.length c4) := blk_cell HBX.out.at_ 4; have n5 : w4.cell? ⟨W.heap.size, 5, none⟩ = some (.slice A5 kp.length c5) := blk_cell HBX.out.at_ 5; have HF := Aside0.mk (fun b o hb => hb4 b o (HF.out b o hb)); have HP := Aside0.mk hp4; clear hp4 hb4)
      | fail)
    all_goals
      go_wp2_with fail
      go_ret
      exact ⟨rfl, _, _, by rw [HD.out]; exact HP.out.mono (by omega), HF.out⟩
  by_cases hk4 : kd = 4
  · have hd : dDo D ⟨kd, nm, to_, at_, by_, kp⟩ = (dRemove D nm).2 := by unfold dDo; dsimp only; rw [if_neg hk0]; rw [if_neg hk1]; rw [if_neg hk2]; rw [if_neg hk3]; rw [if_pos hk4]
    have HD := Aside0.mk hd
    have ct0 : (kd == 0) = false := by simp; omega
    have ct1 : (kd == 1) = false := by simp; omega
    have ct2 : (kd == 2) = false := by simp; omega
    have ct3 : (kd == 3) = false := by simp; omega
    have ct4 : (kd == 4) = true := by simp; omega
    clear hd hk0 hk1 hk2 hk3 hk4
    go_enter Try.func37, Try.ntmps37
    go_upto_region 1 with (fail)
    rw [← hw1]
    clear hw1
    go_wp2_with fail
    have HP := Aside0.mk (HP.out.below (below_drew1 (Below.refl _ _)))
    have HBX := Aside0.mk (HBX.out.below (below_drew1 (Below.refl _ _)))
    have HF := Aside0.mk (show ∀ b o, Bx W S R b o → Bx w1.drew S R b o from fun b o hb => (HF.out b o hb).below (below_drew1 (Below.refl _ _)))
    go_region_law (first
      | (go_simp; go_at_call 34; refine (pd_remove HP.out hnm).mono ?_; rintro e w4 ⟨rfl, T4, hp4, hb4⟩; have HBX := Aside0.mk (hb4 _ _ HBX.out); have n1 : w4.cell? ⟨W.heap.size, 1, none⟩ = some (.string nm) := blk_cell HBX.out.at_ 1; have n2 : w4.cell? ⟨W.heap.size, 2, none⟩ = some (.string to_) := blk_cell HBX.out.at_ 2; have n3 : w4.cell? ⟨W.heap.size, 3, none⟩ = some (.int .i64 at_) := blk_cell HBX.out.at_ 3; have n4 : w4.cell? ⟨W.heap.size, 4, none⟩ = some (.slice A4 by_.length c4) := blk_cell HBX.out.at_ 4; have n5 : w4.cell? ⟨W.heap.size, 5, none⟩ = some (.slice A5 kp.length c5) := blk_cell HBX.out.at_ 5; have HF := Aside0.mk (fun b o hb => hb4 b o (HF.out b o hb)); have HP := Aside0.mk hp4; clear hp4 hb4)
      | (go_simp; go_at_call 82; refine (pr_remove HP.out HI.out).mono ?_; rintro e w4 ⟨rfl, T4, hp4, hb4⟩; have HBX := Aside0.mk (hb4 _ _ HBX.out); have n1 : w4.cell? ⟨W.heap.size, 1, none⟩ = some (.string nm) := blk_cell HBX.out.at_ 1; have n2 : w4.cell? ⟨W.heap.size, 2, none⟩ = some (.string to_) := blk_cell HBX.out.at_ 2; have n3 : w4.cell? ⟨W.heap.size, 3, none⟩ = some (.int .i64 at_) := blk_cell HBX.out.at_ 3; have n4 : w4.cell? ⟨W.heap.size, 4, none⟩ = some (.slice A4 by_.length c4) := blk_cell HBX.out.at_ 4; have n5 : w4.cell? ⟨W.heap.size, 5, none⟩ = some (.slice A5 kp.length c5) := blk_cell HBX.out.at_ 5; have HF := Aside0.mk (fun b o hb => hb4 b o (HF.out b o hb)); have HP := Aside0.mk hp4; clear hp4 hb4)
      | fail)
    all_goals
      go_wp2_with fail
      go_ret
      exact ⟨rfl, _, _, by rw [HD.out]; exact HP.out.mono (by omega), HF.out⟩
  by_cases hk5 : kd = 5
  · have hd : dDo D ⟨kd, nm, to_, at_, by_, kp⟩ = dCrash D kp := by unfold dDo; dsimp only; rw [if_neg hk0]; rw [if_neg hk1]; rw [if_neg hk2]; rw [if_neg hk3]; rw [if_neg hk4]; rw [if_pos hk5]
    have HD := Aside0.mk hd
    have ct0 : (kd == 0) = false := by simp; omega
    have ct1 : (kd == 1) = false := by simp; omega
    have ct2 : (kd == 2) = false := by simp; omega
    have ct3 : (kd == 3) = false := by simp; omega
    have ct4 : (kd == 4) = false := by simp; omega
    have ct5 : (kd == 5) = true := by simp; omega
    clear hd hk0 hk1 hk2 hk3 hk4 hk5
    go_enter Try.func37, Try.ntmps37
    go_upto_region 1 with (fail)
    rw [← hw1]
    clear hw1
    go_wp2_with fail
    refine (pd_crash HP.out (by omega) (Kd.C_below HC5.out HP.out.dk.1) (H5.out _ _ _ _ _ _ _ HP.out) HKP.out).mono ?_
    rintro e w4 ⟨rfl, T4, hp4, hb4⟩
    have HBX := Aside0.mk (hb4 _ _ HBX.out)
    have n1 : w4.cell? ⟨W.heap.size, 1, none⟩ = some (.string nm) := blk_cell HBX.out.at_ 1
    have n2 : w4.cell? ⟨W.heap.size, 2, none⟩ = some (.string to_) := blk_cell HBX.out.at_ 2
    have n3 : w4.cell? ⟨W.heap.size, 3, none⟩ = some (.int .i64 at_) := blk_cell HBX.out.at_ 3
    have n4 : w4.cell? ⟨W.heap.size, 4, none⟩ = some (.slice A4 by_.length c4) := blk_cell HBX.out.at_ 4
    have n5 : w4.cell? ⟨W.heap.size, 5, none⟩ = some (.slice A5 kp.length c5) := blk_cell HBX.out.at_ 5
    have HF := Aside0.mk (fun b o hb => hb4 b o (HF.out b o hb))
    have HP := Aside0.mk hp4
    clear hp4 hb4
    go_wp2_with fail
    refine (pr_crash HP.out HI.out (by omega) (Kd.C_below HC5.out HP.out.dk.1) HKP.out).mono ?_
    rintro e w4 ⟨rfl, T4, hp4, hb4⟩
    have HBX := Aside0.mk (hb4 _ _ HBX.out)
    have n1 : w4.cell? ⟨W.heap.size, 1, none⟩ = some (.string nm) := blk_cell HBX.out.at_ 1
    have n2 : w4.cell? ⟨W.heap.size, 2, none⟩ = some (.string to_) := blk_cell HBX.out.at_ 2
    have n3 : w4.cell? ⟨W.heap.size, 3, none⟩ = some (.int .i64 at_) := blk_cell HBX.out.at_ 3
    have n4 : w4.cell? ⟨W.heap.size, 4, none⟩ = some (.slice A4 by_.length c4) := blk_cell HBX.out.at_ 4
    have n5 : w4.cell? ⟨W.heap.size, 5, none⟩ = some (.slice A5 kp.length c5) := blk_cell HBX.out.at_ 5
    have HF := Aside0.mk (fun b o hb => hb4 b o (HF.out b o hb))
    have HP := Aside0.mk hp4
    clear hp4 hb4
    go_wp2_with fail
    go_ret
    exact ⟨rfl, _, _, by rw [HD.out]; exact HP.out.mono (by omega), HF.out⟩
  · have hd : dDo D ⟨kd, nm, to_, at_, by_, kp⟩ = D := by unfold dDo; dsimp only; rw [if_neg hk0]; rw [if_neg hk1]; rw [if_neg hk2]; rw [if_neg hk3]; rw [if_neg hk4]; rw [if_neg hk5]
    have HD := Aside0.mk hd
    have ct0 : (kd == 0) = false := by simp; omega
    have ct1 : (kd == 1) = false := by simp; omega
    have ct2 : (kd == 2) = false := by simp; omega
    have ct3 : (kd == 3) = false := by simp; omega
    have ct4 : (kd == 4) = false := by simp; omega
    have ct5 : (kd == 5) = false := by simp; omega
    clear hd hk0 hk1 hk2 hk3 hk4 hk5
    go_enter Try.func37, Try.ntmps37
    go_upto_region 1 with (fail)
    rw [← hw1]
    clear hw1
    go_wp2_with fail
    go_ret
    exact ⟨rfl, _, _, by rw [HD.out]; exact HP.out.mono (by omega), HF.out⟩
end Go.Proofs.Ytmmiipnmimjojaa.PS
end
section
namespace Go.Proofs.Ytmmiipnmimjojaa.PS
open Go.RowKit Go.Proofs.YtmmiipnmimjojaaW.PrintWords Go.Proofs.YtmmiipnmimjojaaW.PrintLast Go.Proofs.YtmmiipnmimjojaaW.PrintMore
open Go.Maps Go.Proofs.Ytmmiipnmimjojaa.PD
set_option linter.unusedVariables false
set_option linter.unusedSimpArgs false
theorem names_sz {N : Nat} {D : Dsk} (h : DInv N D) : ∀ s ∈ namesB D.files, s.size ≤ maxLen := by
  intro s hs
  obtain ⟨p, hp, rfl⟩ := List.mem_map.1 hs
  have := namedB_size (h.files p.1 p.2 hp).named
  unfold maxLen
  omega
theorem nth_mem {l : List ByteArray} {i : Int} (h0 : 0 ≤ i) (h1 : i < (l.length : Int)) : l.getD i.toNat ByteArray.empty ∈ l := by
  rw [List.getD_eq_getElem?_getD, List.getElem?_eq_getElem (by omega)]
  exact List.getElem_mem _
set_option maxHeartbeats 4000000 in
set_option maxRecDepth 100000 in
theorem same_calls {W0 W : World} {S R : Nat → Prop} {g r N : Nat} {D : Dsk} (h : Pr W0 W S R g r N D D.room (refL D.files)) (hN : N ≤ 1000000) :
    Calls Try.prog 38 #[.pointer (some ⟨g, 0, none⟩), .pointer (some ⟨r, 0, none⟩)] W fun e w' => e = .returned (.bool true) ∧ Below W.heap.size W w' := by
  have HP := Aside0.mk h
  have HI := Aside0.mk h.dk.2.2.2
  have hnl : (namesB D.files).length ≤ 16 := by rw [names_len]; exact h.dk.2.2.2.few
  have hu := h.dk.2.2.2.used
  have HSZ := Aside0.mk (names_sz h.dk.2.2.2)
  have HNL := Aside0.mk hnl
  clear h
  have hcs : ∀ (A : Option Addr) (c : Nat) (l : List Int) (w : World), k8.C w A l.length l → (convert 22 9 (.slice A l.length c)).run Try.prog w = .ok (.string (strOfNums l)) w := fun A c l w h => Kd.C_string Try.underlying22 Try.underlying5 Try.underlying9 h
  have HCS := Aside0.mk hcs
  clear hcs
  go_enter Try.func38, Try.ntmps38
  go_wp2_with fail
  refine (rnames_calls HP.out.rf HI.out).mono ?_
  rintro e w1 ⟨A1, c1, rfl, hr1, hb1⟩
  have HR1 := Aside0.mk hr1
  have HB1 := Aside0.mk hb1
  have HP1 := Aside0.mk (HP.out.below hb1)
  clear hr1 hb1
  go_wp2_with fail
  refine (dk_names HP1.out.dk).mono ?_
  rintro e w2 ⟨A2, c2, rfl, hr2, hb2⟩
  have HR2 := Aside0.mk hr2
  have HB2 := Aside0.mk hb2
  have HP2 := Aside0.mk (HP1.out.below hb2)
  clear hr2 hb2
  go_wp2_with fail
  refine (tollgateref05_SameTexts.calls _ A2 c2 (namesB D.files) A1 c1 (namesB D.files) true w2 (Kd.R_reads' HR2.out).2.2 (Kd.R_reads' HR2.out).2.1 (Kd.C_below (Kd.R_reads' HR1.out).2.2 HB2.out) (Kd.R_reads' HR1.out).2.1 (sameT_f _ _ (by omega) rfl)).mono ?_
  rintro e w3 ⟨rfl, hdr⟩
  have hb3 : Below w2.heap.size w2 w3 := by obtain ⟨n, rfl⟩ := hdr.out; exact pw_below_drewN (Below.refl _ _) _
  have HB3 := Aside0.mk hb3
  have HP3 := Aside0.mk (HP2.out.below hb3)
  clear hb3 hdr
  go_wp2_with fail
  refine (dk_used HP3.out.dk).mono ?_
  rintro e w4 ⟨rfl, hb4⟩
  have HB4 := Aside0.mk hb4
  have HP4 := Aside0.mk (HP3.out.below hb4)
  clear hb4
  go_wp2_with fail
  refine (rused_calls HP4.out.rf HI.out hN).mono ?_
  rintro e w5 ⟨rfl, hb5⟩
  have HP5 := Aside0.mk (HP4.out.below hb5)
  have HB5 := Aside0.mk (below_step (below_step (below_step HB2.out HB3.out) HB4.out) hb5)
  clear hb5
  obtain ⟨NL, hNL⟩ : ∃ NL, namesB D.files = NL := ⟨_, rfl⟩
  rw [hNL] at HSZ HNL HR1 ⊢
  have hnl2 := HNL.out
  clear hNL HR2 hu hnl
  go_wp2_with fail
  go_loopg [6] NL.length (fun kq v6 w' => ∃ i : Int, v6 = .int .i64 i ∧ 0 ≤ i ∧ i + kq = NL.length ∧ Aside0 (Below w5.heap.size w5 w'))
  case atStart => exact ⟨0, rfl, by omega, by omega, ⟨Below.refl _ _⟩⟩
  case round =>
    obtain ⟨i, rfl, i0, i1, HB⟩ := hrel
    by_cases hi : i < (NL.length : Int)
    · have c6 : decide (i < (NL.length : Int)) = true := decide_eq_true hi
      have hne : NL ≠ [] := fun e => by subst e; simp at hi; omega
      have hC := Kd.C_below (Kd.C_below (Kd.R_reads' HR1.out).2.2 HB5.out) HB.out
      obtain ⟨a1, rfl⟩ := C_some hC hne
      have hcell := cellS hC i0 hi
      have hssz := HSZ.out _ (nth_mem i0 hi)
      obtain ⟨s, hs⟩ : ∃ s, NL.getD i.toNat ByteArray.empty = s := ⟨_, rfl⟩
      rw [hs] at hcell hssz
      have p0 := eq_true i0
      have p1 := eq_true hi
      have hni : IntKind.i64.wrap (i + 1) = i + 1 := IntWalk.i64_in _ ⟨by omega, by omega⟩
      have HPr := Aside0.mk (HP5.out.below HB.out)
      have HSS := Aside0.mk hssz
      clear hne hC hs hssz
      go_wp2_with fail
      refine (dk_read HPr.out.dk hN HSS.out).mono ?_
      rintro e x1 ⟨B1, d1, rfl, hs1, hx1⟩
      have HS1 := Aside0.mk hs1
      have HX1 := Aside0.mk hx1
      have HPr1 := Aside0.mk (HPr.out.below hx1)
      have hcell1 := (hx1.cell (World.block_lt_of_cell? wr _ hcell)).trans hcell
      clear hs1 hx1 hcell
      go_wp2_with fail
      refine (rread_calls HPr1.out.rf HI.out hN).mono ?_
      rintro e x2 ⟨B2, d2, rfl, hs2, hx2⟩
      have HS2 := Aside0.mk hs2
      have HX2 := Aside0.mk hx2
      have HPr2 := Aside0.mk (HPr1.out.below hx2)
      have hcell2 := (hx2.cell (World.block_lt_of_cell? x1 _ hcell1)).trans hcell1
      clear hs2 hx2 hcell1
      go_wp2_with fail
      refine (dk_sure HPr2.out.dk hN HSS.out).mono ?_
      rintro e x3 ⟨B3, d3, rfl, hs3, hx3⟩
      have HS3 := Aside0.mk hs3
      have HX3 := Aside0.mk hx3
      have HPr3 := Aside0.mk (HPr2.out.below hx3)
      have hcell3 := (hx3.cell (World.block_lt_of_cell? x2 _ hcell2)).trans hcell2
      clear hs3 hx3 hcell2
      go_wp2_with fail
      refine (rsure_calls HPr3.out.rf HI.out hN).mono ?_
      rintro e x4 ⟨B4, d4, rfl, hs4, hx4⟩
      obtain ⟨rd, hrd⟩ : ∃ rd, dRead D s = rd := ⟨_, rfl⟩
      obtain ⟨sd, hsd⟩ : ∃ sd, dSure D s = sd := ⟨_, rfl⟩
      rw [hrd] at HS1 HS2 ⊢
      rw [hsd] at HS3 hs4 ⊢
      have q1 := HCS.out B1 d1 rd.1 x4 (Kd.C_below (Kd.C_below (Kd.C_below (Kd.R_reads' HS1.out).2.2 HX2.out) HX3.out) hx4)
      have q2 := HCS.out B2 d2 rd.1 x4 (Kd.C_below (Kd.C_below (Kd.R_reads' HS2.out).2.2 HX3.out) hx4)
      have q3 := HCS.out B3 d3 sd.1 x4 (Kd.C_below (Kd.R_reads' HS3.out).2.2 hx4)
      have q4 := HCS.out B4 d4 sd.1 x4 (Kd.R_reads' hs4).2.2
      have HX4 := Aside0.mk hx4
      clear hs4 hx4 hcell3 hrd hsd
      go_wp2_with fail
      go_roundg (gk - 1)
      case measure => omega
      case rel => exact ⟨i + 1, rfl, by omega, by omega, ⟨below_step (below_step (below_step (below_step HB.out HX1.out) HX2.out) HX3.out) HX4.out⟩⟩
    · have c6 : decide (i < (NL.length : Int)) = false := decide_eq_false hi
      go_wp2_with fail
      go_ret
      exact ⟨rfl, below_step (below_step HB1.out HB5.out) HB.out⟩
end Go.Proofs.Ytmmiipnmimjojaa.PS
end
section
namespace Go.Proofs.Ytmmiipnmimjojaa.PS
open Go.RowKit Go.Proofs.YtmmiipnmimjojaaW.PrintWords Go.Proofs.YtmmiipnmimjojaaW.PrintLast Go.Proofs.YtmmiipnmimjojaaW.PrintMore
attribute [local go_sem] max2_int min2_int max_two min_two max_three min_three max_four min_four   -- for this text's walks alone
set_option linter.unusedVariables false
set_option linter.unusedSimpArgs false

def tollgatelaw05_short.f (a0_0 : Int) (a0_1 : ByteArray) (a0_2 : ByteArray) (a0_3 : Int) (l0_4 : List Int) (l0_5 : List Int) : Option (Bool) := if (l0_4.length : Int) ≤ 4000 then (some (decide ((l0_5.length : Int) ≤ 100))) else (some false)
set_option maxHeartbeats 8000000 in
set_option maxRecDepth 100000 in
theorem tollgatelaw05_short.calls (a0_0 : Int) (a0_1 : ByteArray) (a0_2 : ByteArray) (a0_3 : Int) (A0_4 : Option Addr) (c0_4 : Nat) (l0_4 : List Int) (A0_5 : Option Addr) (c0_5 : Nat) (l0_5 : List Int) (r : Bool) (w : World) (hr0_4 : Kd.C (Kd.int .u8) w A0_4 l0_4.length l0_4) (hc0_4 : l0_4.length ≤ c0_4) (hr0_5 : Kd.C (Kd.int .i64) w A0_5 l0_5.length l0_5) (hc0_5 : l0_5.length ≤ c0_5) (h : tollgatelaw05_short.f a0_0 a0_1 a0_2 a0_3 l0_4 l0_5 = some r) :
    Calls Try.prog 33 #[.agg #[.int .i64 a0_0, .string a0_1, .string a0_2, .int .i64 a0_3, .slice A0_4 l0_4.length c0_4, .slice A0_5 l0_5.length c0_5]] w fun e w' => e = .returned (.bool r) ∧ Below w.heap.size w w' := by
  have hu58 := Try.underlying58
  have HR0_4 := Aside0.mk hr0_4
  have HC0_4 := Aside0.mk hc0_4
  clear hr0_4 hc0_4
  have HR0_5 := Aside0.mk hr0_5
  have HC0_5 := Aside0.mk hc0_5
  clear hr0_5 hc0_5
  have HB := Aside0.mk (Below.refl w.heap.size w)
  have H : (if (l0_4.length : Int) ≤ 4000 then (some (decide ((l0_5.length : Int) ≤ 100))) else (some false)) = some r := h
  clear h
  by_cases c2 : (l0_4.length : Int) ≤ 4000
  · rw [if_pos c2] at H
    have c2b0 : decide ((l0_4.length : Int) ≤ 4000) = true := decide_eq_true c2
    have c2b1 : decide (l0_4.length ≤ 4000) = true := decide_eq_true (by omega)
    clear c2
    obtain rfl := Option.some.inj H
    go_enter Try.func33, Try.ntmps33
    go_wp2_with (first | ((with_reducible refine gate_dst (N := 1) rfl ?_); (try (refine gate_guard (by rfl) ?_; dsimp only)); refine box_event ?hg (N := 1) ?hd (cs := #[.int .i64 a0_0, .string a0_1, .string a0_2, .int .i64 a0_3, .slice A0_4 l0_4.length c0_4, .slice A0_5 l0_5.length c0_5]) (t := 58) ?hr ?_; (case hd => rfl); (case hg => rfl); (case hr => first | (go_simp; done) | (go_simp; rfl)); intro gb158 hg w3 hbox hb; have n0_ := Aside0.mk (below_step (by repeat (first | (with_reducible first | exact HB.out | apply below_alloc | apply pw_below_drewN | apply below_drew1) | exact HB.out)) hb); have n1_ := Aside0.mk (hbox); have n2_ := Aside0.mk ((by rw [hg]; exact (below_size (by repeat (first | (with_reducible first | exact HB.out | apply below_alloc | apply pw_below_drewN | apply below_drew1) | exact HB.out))) : w.heap.size ≤ gb158)); have n3_ := Aside0.mk ((by rw [hg]; exact (below_size (by repeat (first | (with_reducible first | exact HB.out | apply below_alloc | apply pw_below_drewN | apply below_drew1) | exact HB.out))) : w.heap.size ≤ gb158)); clear HB; have HB := n0_; have BK158 := n1_; have GW158 := n2_; have GE158 := n3_; clear n0_ n1_ n2_ n3_; clear hb hbox hg; have hcz4_0 : w3.cell? ⟨gb158, 0, none⟩ = some (.int .i64 a0_0) := (blk_cell BK158.out 0).trans rfl; have hcz4_1 : w3.cell? ⟨gb158, 1, none⟩ = some (.string a0_1) := (blk_cell BK158.out 1).trans rfl; have hcz4_2 : w3.cell? ⟨gb158, 2, none⟩ = some (.string a0_2) := (blk_cell BK158.out 2).trans rfl; have hcz4_3 : w3.cell? ⟨gb158, 3, none⟩ = some (.int .i64 a0_3) := (blk_cell BK158.out 3).trans rfl; have hcz4_4 : w3.cell? ⟨gb158, 4, none⟩ = some (.slice A0_4 l0_4.length c0_4) := (blk_cell BK158.out 4).trans rfl; have hcz4_5 : w3.cell? ⟨gb158, 5, none⟩ = some (.slice A0_5 l0_5.length c0_5) := (blk_cell BK158.out 5).trans rfl; have hfz4_0 := blk_frozen BK158.out 0; have hfz4_1 := blk_frozen BK158.out 1; have hfz4_2 := blk_frozen BK158.out 2; have hfz4_3 := blk_frozen BK158.out 3; have hfz4_4 := blk_frozen BK158.out 4; have hfz4_5 := blk_frozen BK158.out 5))
    go_ret
    exact ⟨by first | rfl | (simp [errW_none, errW_some] <;> rfl) | (simp [*, errW_none, errW_some] <;> rfl), by repeat (first | (with_reducible first | exact HB.out | apply below_alloc | apply pw_below_drewN | apply below_drew1 | refine below_set ?_ GE158.out) | exact HB.out)⟩
  · rw [if_neg c2] at H
    have c2b0 : decide ((l0_4.length : Int) ≤ 4000) = false := decide_eq_false c2
    have c2b1 : decide (l0_4.length ≤ 4000) = false := decide_eq_false (by omega)
    clear c2
    obtain rfl := Option.some.inj H
    go_enter Try.func33, Try.ntmps33
    go_wp2_with (first | ((with_reducible refine gate_dst (N := 1) rfl ?_); (try (refine gate_guard (by rfl) ?_; dsimp only)); refine box_event ?hg (N := 1) ?hd (cs := #[.int .i64 a0_0, .string a0_1, .string a0_2, .int .i64 a0_3, .slice A0_4 l0_4.length c0_4, .slice A0_5 l0_5.length c0_5]) (t := 58) ?hr ?_; (case hd => rfl); (case hg => rfl); (case hr => first | (go_simp; done) | (go_simp; rfl)); intro gb158 hg w5 hbox hb; have n0_ := Aside0.mk (below_step (by repeat (first | (with_reducible first | exact HB.out | apply below_alloc | apply pw_below_drewN | apply below_drew1) | exact HB.out)) hb); have n1_ := Aside0.mk (hbox); have n2_ := Aside0.mk ((by rw [hg]; exact (below_size (by repeat (first | (with_reducible first | exact HB.out | apply below_alloc | apply pw_below_drewN | apply below_drew1) | exact HB.out))) : w.heap.size ≤ gb158)); have n3_ := Aside0.mk ((by rw [hg]; exact (below_size (by repeat (first | (with_reducible first | exact HB.out | apply below_alloc | apply pw_below_drewN | apply below_drew1) | exact HB.out))) : w.heap.size ≤ gb158)); clear HB; have HB := n0_; have BK158 := n1_; have GW158 := n2_; have GE158 := n3_; clear n0_ n1_ n2_ n3_; clear hb hbox hg; have hcz6_0 : w5.cell? ⟨gb158, 0, none⟩ = some (.int .i64 a0_0) := (blk_cell BK158.out 0).trans rfl; have hcz6_1 : w5.cell? ⟨gb158, 1, none⟩ = some (.string a0_1) := (blk_cell BK158.out 1).trans rfl; have hcz6_2 : w5.cell? ⟨gb158, 2, none⟩ = some (.string a0_2) := (blk_cell BK158.out 2).trans rfl; have hcz6_3 : w5.cell? ⟨gb158, 3, none⟩ = some (.int .i64 a0_3) := (blk_cell BK158.out 3).trans rfl; have hcz6_4 : w5.cell? ⟨gb158, 4, none⟩ = some (.slice A0_4 l0_4.length c0_4) := (blk_cell BK158.out 4).trans rfl; have hcz6_5 : w5.cell? ⟨gb158, 5, none⟩ = some (.slice A0_5 l0_5.length c0_5) := (blk_cell BK158.out 5).trans rfl; have hfz6_0 := blk_frozen BK158.out 0; have hfz6_1 := blk_frozen BK158.out 1; have hfz6_2 := blk_frozen BK158.out 2; have hfz6_3 := blk_frozen BK158.out 3; have hfz6_4 := blk_frozen BK158.out 4; have hfz6_5 := blk_frozen BK158.out 5))
    go_ret
    exact ⟨by first | rfl | (simp [errW_none, errW_some] <;> rfl) | (simp [*, errW_none, errW_some] <;> rfl), by repeat (first | (with_reducible first | exact HB.out | apply below_alloc | apply pw_below_drewN | apply below_drew1 | refine below_set ?_ GE158.out) | exact HB.out)⟩

end Go.Proofs.Ytmmiipnmimjojaa.PS
end
section
namespace Go.Proofs.Ytmmiipnmimjojaa.PS
open Go.RowKit Go.Proofs.YtmmiipnmimjojaaW.PrintWords Go.Proofs.YtmmiipnmimjojaaW.PrintLast Go.Proofs.YtmmiipnmimjojaaW.PrintMore
open Go.Maps Go.Proofs.Ytmmiipnmimjojaa.PD
set_option linter.unusedVariables false
set_option linter.unusedSimpArgs false
def shortB (x : S58) : Bool := decide (x.f4.length ≤ 4000) && decide (x.f5.length ≤ 100)
/-- A deed of a script, as it is read. -/
structure DeedR (W : World) (ad : Addr) (i : Int) (x : S58) (A4 : Option Addr) (c4 : Nat) (A5 : Option Addr) (c5 : Nat) : Prop where
  n0 : W.cell? (ad.add (i.toNat * 6)) = some (.int .i64 x.f0)
  n1 : W.cell? ⟨(ad.add (i.toNat * 6)).block, (ad.add (i.toNat * 6)).off + 1, none⟩ = some (.string x.f1)
  n2 : W.cell? ⟨(ad.add (i.toNat * 6)).block, (ad.add (i.toNat * 6)).off + 2, none⟩ = some (.string x.f2)
  n3 : W.cell? ⟨(ad.add (i.toNat * 6)).block, (ad.add (i.toNat * 6)).off + 3, none⟩ = some (.int .i64 x.f3)
  n4 : W.cell? ⟨(ad.add (i.toNat * 6)).block, (ad.add (i.toNat * 6)).off + 4, none⟩ = some (.slice A4 x.f4.length c4)
  n5 : W.cell? ⟨(ad.add (i.toNat * 6)).block, (ad.add (i.toNat * 6)).off + 5, none⟩ = some (.slice A5 x.f5.length c5)
  l4 : x.f4.length ≤ c4
  C4 : k8.C W A4 x.f4.length x.f4
  l5 : x.f5.length ≤ c5
  C5 : (Kd.int .i64).C W A5 x.f5.length x.f5
theorem DeedR.below {W W1 : World} {ad : Addr} {i : Int} {x : S58} {A4 A5 : Option Addr} {c4 c5 : Nat} (h : DeedR W ad i x A4 c4 A5 c5) (hb : Below W.heap.size W W1) : DeedR W1 ad i x A4 c4 A5 c5 :=
  ⟨(hb.cell (World.block_lt_of_cell? W _ h.n0)).trans h.n0, (hb.cell (World.block_lt_of_cell? W _ h.n1)).trans h.n1, (hb.cell (World.block_lt_of_cell? W _ h.n2)).trans h.n2, (hb.cell (World.block_lt_of_cell? W _ h.n3)).trans h.n3,
    (hb.cell (World.block_lt_of_cell? W _ h.n4)).trans h.n4, (hb.cell (World.block_lt_of_cell? W _ h.n5)).trans h.n5, h.l4, Kd.C_below h.C4 hb, h.l5, Kd.C_below h.C5 hb⟩
theorem deedR_of {W : World} {A : Option Addr} {l : List S58} {i : Int} (h : Kd.C k58 W A l.length l) (h0 : 0 ≤ i) (h1 : i < (l.length : Int)) : ∃ ad x A4 c4 A5 c5, A = some ad ∧ x ∈ l ∧ DeedR W ad i x A4 c4 A5 c5 := by
  obtain ⟨ad, A4, c4, A5, c5, e, x0, x1, x2, x3, x4, x5, l4, C4, l5, C5⟩ := at_T58 h i h0 h1
  refine ⟨ad, rd_T58 l i, A4, c4, A5, c5, e, ?_, ⟨x0, x1, x2, x3, x4, x5, l4, C4, l5, C5⟩⟩
  unfold rd_T58
  rw [List.getD_eq_getElem?_getD, List.getElem?_eq_getElem (by omega)]
  exact List.getElem_mem _
theorem short_f (x : S58) : tollgatelaw05_short.f x.f0 x.f1 x.f2 x.f3 x.f4 x.f5 = some (shortB x) := by
  unfold tollgatelaw05_short.f shortB
  by_cases h : x.f4.length ≤ 4000
  · rw [if_pos (by omega), decide_eq_true h]
    by_cases h2 : x.f5.length ≤ 100
    · rw [decide_eq_true h2, decide_eq_true (by omega)]; rfl
    · rw [decide_eq_false h2, decide_eq_false (by omega)]; rfl
  · rw [if_neg (by omega), decide_eq_false h]; rfl
theorem short_calls {W w : World} {ad : Addr} {i : Int} {x : S58} {A4 A5 : Option Addr} {c4 c5 : Nat} (h : DeedR W ad i x A4 c4 A5 c5) (hb : Below W.heap.size W w) :
    Calls Try.prog 33 #[.agg #[.int .i64 x.f0, .string x.f1, .string x.f2, .int .i64 x.f3, .slice A4 x.f4.length c4, .slice A5 x.f5.length c5]] w fun e w' => e = .returned (.bool (shortB x)) ∧ Below w.heap.size w w' :=
  tollgatelaw05_short.calls x.f0 x.f1 x.f2 x.f3 A4 c4 x.f4 A5 c5 x.f5 (shortB x) w (Kd.C_below h.C4 hb) h.l4 (Kd.C_below h.C5 hb) h.l5 (short_f x)
/-- Both at the beginning. -/
def NewP (z : Int) (W : World) (g : Nat) (w1 : World) (e : Ending) (w' : World) : Prop := ∃ r S R, e = .returned (.pointer (some ⟨r, 0, none⟩)) ∧ Pr W w' S R g r 0 ⟨max 0 z, []⟩ (max 0 z) (refL [])
theorem both_new {z : Int} {W w1 : World} {S : Nat → Prop} {g : Nat} (h : Dk W w1 S g 0 ⟨max 0 z, []⟩) : Calls Try.prog 36 #[.int .i64 z] w1 (NewP z W g w1) := by
  refine (rnew_calls z w1).mono ?_
  rintro e w' ⟨r, R, he, hr, hb, hR⟩
  have h1 := h.1.size
  exact ⟨r, S, R, he, ⟨h.step hb, hr, fun k hk => by have := hR k hk; omega, fun k hk hS => by have := hR k hk; have := (h.2.1 k hS).2; omega⟩⟩
/-- The deed, as do asks for it. -/
theorem do_deed {W0 w : World} {S R : Nat → Prop} {g r N : Nat} {D : Dsk} {ad : Addr} {i : Int} {x : S58} {A4 A5 : Option Addr} {c4 c5 : Nat} (h : Pr W0 w S R g r N D D.room (refL D.files)) (hN : N ≤ 900000) (hx : Deed5 x) (hr : DeedR W0 ad i x A4 c4 A5 c5) (hs : shortB x = true) :
    Calls Try.prog 37 #[.pointer (some ⟨g, 0, none⟩), .pointer (some ⟨r, 0, none⟩), .agg #[.int .i64 x.f0, .string x.f1, .string x.f2, .int .i64 x.f3, .slice A4 x.f4.length c4, .slice A5 x.f5.length c5]] w (DoP W0 w S R g r N D x) := by
  unfold shortB at hs
  have h4 : x.f4.length ≤ 4000 := by simp at hs; exact hs.1
  exact do_calls h hN hx.name hx.to_ hx.at_ h4 (fun z hz => (hx.keep.2 z hz).2) hr.C4 hr.l4 hr.C5
def PlayP (z : Int) (W : World) (e : Ending) (w' : World) : Prop := ∃ g r S R N D, e = .returned (.tuple #[.pointer (some ⟨g, 0, none⟩), .pointer (some ⟨r, 0, none⟩), .bool true]) ∧ N ≤ 200 ∧ D.room = max 0 z ∧ Pr W w' S R g r N D D.room (refL D.files)
set_option maxHeartbeats 4000000 in
set_option maxRecDepth 100000 in
theorem play_calls {W : World} {z : Int} {A : Option Addr} {c : Nat} {l : List S58} (hA : Kd.C k58 W A l.length l) (hc : l.length ≤ c) (hl : Script l) (hz : z ≤ 9223372036854775807) :
    Calls Try.prog 32 #[.int .i64 z, .slice A l.length c] W (PlayP z W) := by
  have HA := Aside0.mk hA
  have HL := Aside0.mk hl
  have hll := hl.1
  clear hA hl
  go_enter Try.func32, Try.ntmps32
  go_wp2_with fail
  refine (dk_new z hz W).mono ?_
  rintro e w1 ⟨g, S0, rfl, d1⟩
  have D1 := Aside0.mk d1
  clear d1
  go_wp2_with fail
  refine (both_new D1.out).mono ?_
  rintro e w2 ⟨r, S1, R1, rfl, p2⟩
  have P2 := Aside0.mk p2
  clear p2
  go_wp2_with fail
  go_loopg [9] (min l.length 200) (fun kq v9 w' => ∃ (i : Int) (S R : Nat → Prop) (D : Dsk), v9 = .int .i64 i ∧ 0 ≤ i ∧ i + kq = ((min l.length 200 : Nat) : Int) ∧ Aside0 (D.room = max 0 z) ∧ Aside0 (Pr W w' S R g r i.toNat D D.room (refL D.files)))
  case atStart => exact ⟨0, S1, R1, ⟨max 0 z, []⟩, rfl, by omega, by omega, ⟨rfl⟩, P2⟩
  case round =>
    obtain ⟨i, S, R, D, rfl, i0, i1, HRM, HP⟩ := hrel
    by_cases hi : i < ((min l.length 200 : Nat) : Int)
    · have q1 : i < (l.length : Int) := by omega
      have q2 : i < 200 := by omega
      have c6 : decide (i < (l.length : Int)) = true := decide_eq_true q1
      have c7 : decide (i < 200) = true := decide_eq_true q2
      obtain ⟨ad, x, A4, c4, A5, c5, rfl, hxl, hx⟩ := deedR_of HA.out i0 q1
      have hx' := hx.below HP.out.dk.1
      have n0 := hx'.n0
      have n1 := hx'.n1
      have n2 := hx'.n2
      have n3 := hx'.n3
      have n4 := hx'.n4
      have n5 := hx'.n5
      have p0 := eq_true i0
      have p1 := eq_true q1
      have hni : IntKind.i64.wrap (i + 1) = i + 1 := IntWalk.i64_in _ ⟨by omega, by omega⟩
      have HX := Aside0.mk hx
      have HX5 := Aside0.mk (HL.out.2 x hxl)
      have HI := Aside0.mk hi
      clear hx hx' hxl hi
      go_wp2_with fail
      refine (short_calls HX.out HP.out.dk.1).mono ?_
      rintro e w3 ⟨rfl, hb3⟩
      have HP3 := Aside0.mk (HP.out.below hb3)
      have n0 := (hb3.cell (World.block_lt_of_cell? wr _ n0)).trans n0
      have n1 := (hb3.cell (World.block_lt_of_cell? wr _ n1)).trans n1
      have n2 := (hb3.cell (World.block_lt_of_cell? wr _ n2)).trans n2
      have n3 := (hb3.cell (World.block_lt_of_cell? wr _ n3)).trans n3
      have n4 := (hb3.cell (World.block_lt_of_cell? wr _ n4)).trans n4
      have n5 := (hb3.cell (World.block_lt_of_cell? wr _ n5)).trans n5
      clear hb3 HP
      cases hsx : shortB x with
      | false =>
        go_wp2_with fail
        go_roundg (gk - 1)
        case measure => omega
        case rel => exact ⟨i + 1, S, R, D, rfl, by omega, by omega, HRM, ⟨HP3.out.mono (by omega)⟩⟩
      | true =>
        have HSX := Aside0.mk hsx
        clear hsx
        go_wp2_with fail
        refine (do_deed HP3.out (by omega) HX5.out HX.out HSX.out).mono ?_
        rintro e w4 ⟨rfl, S4, R4, hp4, hf4⟩
        have HP4 := Aside0.mk hp4
        clear hp4 hf4
        go_wp2_with fail
        go_roundg (gk - 1)
        case measure => omega
        case rel => exact ⟨i + 1, S4, R4, dDo D x, rfl, by omega, by omega, ⟨by rw [room_do]; exact HRM.out⟩, ⟨by rw [room_do, show (i + 1).toNat = i.toNat + 1 by omega]; exact HP4.out⟩⟩
    · have hI : ¬ (i < (l.length : Int)) ∨ (i < (l.length : Int) ∧ ¬ (i < 200)) := by omega
      rcases hI with q1 | ⟨q1, q2⟩
      · have c6 : decide (i < (l.length : Int)) = false := decide_eq_false q1
        have HI := Aside0.mk hi
        clear hi
        go_wp2_with fail
        go_ret3
        exact ⟨g, r, S, R, i.toNat, D, rfl, by omega, HRM.out, HP.out⟩
      · have c6 : decide (i < (l.length : Int)) = true := decide_eq_true q1
        have c7 : decide (i < 200) = false := decide_eq_false q2
        have HI := Aside0.mk hi
        clear hi
        go_wp2_with fail
        go_ret3
        exact ⟨g, r, S, R, i.toNat, D, rfl, by omega, HRM.out, HP.out⟩
end Go.Proofs.Ytmmiipnmimjojaa.PS
end
