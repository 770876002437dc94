/- law 05's do: a deed on both. -/
import Derived.Test.YtmmiipnmimjojaaP1
import Derived.Test.YtmmiipnmimjojaaG1
namespace Go.Proofs.Ytmmiipnmimjojaa.PS
open Go.RowKit Go.Proofs.YtmmiipnmimjojaaW.PrintWords Go.Proofs.YtmmiipnmimjojaaW.PrintLast Go.Proofs.YtmmiipnmimjojaaW.PrintMore
open Go.Maps Go.Proofs.Ytmmiipnmimjojaa.PD
set_option linter.unusedVariables false
set_option linter.unusedSimpArgs false
def DoP (W0 W : World) (S R : Nat → Prop) (g r N : Nat) (D : Dsk) (x : S58) (e : Ending) (w' : World) : Prop :=
  e = .returned (.bool true) ∧ ∃ S' R', Pr W0 w' S' R' g r (N + 1) (dDo D x) D.room (refL (dDo D x).files) ∧ ∀ b o, Bx W S R b o → Bx w' S' R' b o
theorem Pr.mono {W0 W : World} {S R : Nat → Prop} {g r N M : Nat} {D : Dsk} {room : Int} {l : List S144} (h : Pr W0 W S R g r N D room l) (hM : N ≤ M) : Pr W0 W S R g r M D room l :=
  ⟨⟨h.dk.1, h.dk.2.1, h.dk.2.2.1, h.dk.2.2.2.mono hM⟩, h.rf, h.new, h.dis⟩
theorem R_frame {d : Kd Int} {w w' : World} {S R S' R' ok : Nat → Prop} {e base : Nat} {v : Value} {xs : List Int} (h : d.R e w base ok v xs) (hok : ∀ k, ok k → ¬ S k ∧ ¬ R k) (hF : ∀ b o, Bx w S R b o → Bx w' S' R' b o) : d.R e w' base ok v xs :=
  Kd.R_step h fun k hk hlt => by
    obtain ⟨o, ho⟩ : ∃ o, w.heap[k]? = some o := ⟨_, Array.getElem?_eq_getElem hlt⟩
    exact (hF k o ⟨ho, (hok k hk).1, (hok k hk).2⟩).at_.trans ho.symm
theorem Bx.kp {W W1 : World} {S R P : Nat → Prop} {b : Nat} {o : Obj} (h : Bx W S R b o) (k : Kp W W1 P) (hP : ¬ P b) : Bx W1 S R b o := ⟨(k.block b (blk_lt h.at_) hP).trans h.at_, h.ns, h.nr⟩
set_option maxHeartbeats 8000000 in
set_option maxRecDepth 100000 in
theorem do_calls {W0 W : World} {S R : Nat → Prop} {g r N : Nat} {D : Dsk} {kd at_ : Int} {nm to_ : ByteArray} {by_ kp : List Int} {A4 A5 : Option Addr} {c4 c5 : Nat} (h : Pr W0 W S R g r N D D.room (refL D.files)) (hN : N ≤ 900000)
    (hnm : nm.size ≤ maxLen) (hto : to_.size ≤ maxLen) (hat : -9223372036854775808 ≤ at_ ∧ at_ ≤ 9223372036854775807) (hby : by_.length ≤ 4000) (hkp : ∀ z ∈ kp, z ≤ 9223372036854775807)
    (hC4 : k8.C W0 A4 by_.length by_) (hl4 : by_.length ≤ c4) (hC5 : (Kd.int .i64).C W0 A5 kp.length kp) :
    Calls Try.prog 37 #[.pointer (some ⟨g, 0, none⟩), .pointer (some ⟨r, 0, none⟩), .agg #[.int .i64 kd, .string nm, .string to_, .int .i64 at_, .slice A4 by_.length c4, .slice A5 kp.length c5]] W (DoP W0 W S R g r N D ⟨kd, nm, to_, at_, by_, kp⟩) := by
  have HI := Aside0.mk h.dk.2.2.2
  have HC4 := Aside0.mk hC4
  have HC5 := Aside0.mk hC5
  have HKP := Aside0.mk hkp
  have H4 := Aside0.mk (show ∀ (w : World) (S : Nat → Prop) (R : Nat → Prop) (N : Nat) (D : Dsk) (room : Int) (l : List S144), Pr W0 w S R g r N D room l → ∀ ad, A4 = some ad → 0 < by_.length → ¬ S ad.block from fun w S R N D room l hp ad e hn hS => by
    subst e
    have h1 := Kd.C_lt hC4 hn (by show 0 < 1; decide)
    have h2 := (hp.dk.2.1 _ hS).1
    omega)
  have H5 := Aside0.mk (show ∀ (w : World) (S : Nat → Prop) (R : Nat → Prop) (N : Nat) (D : Dsk) (room : Int) (l : List S144), Pr W0 w S R g r N D room l → ∀ ad, A5 = some ad → 0 < kp.length → ¬ S ad.block from fun w S R N D room l hp ad e hn hS => by
    subst e
    have h1 := Kd.C_lt hC5 hn (by show 0 < 1; decide)
    have h2 := (hp.dk.2.1 _ hS).1
    omega)
  obtain ⟨w1, hw1⟩ : ∃ w1, w1 = W.alloc (.cells #[.int .i64 kd, .string nm, .string to_, .int .i64 at_, .slice A4 by_.length c4, .slice A5 kp.length c5] 58) := ⟨_, rfl⟩
  have hb1 : Below W.heap.size W w1 := by rw [hw1]; exact below_alloc (Below.refl _ _) _
  have hbk : w1.heap[W.heap.size]? = some (.cells #[.int .i64 kd, .string nm, .string to_, .int .i64 at_, .slice A4 by_.length c4, .slice A5 kp.length c5] 58 (0, 0)) := by rw [hw1]; exact blk_new W _
  have m0 : w1.cell? ⟨W.heap.size, 0, none⟩ = some (.int .i64 kd) := blk_cell hbk 0
  have m1 : w1.cell? ⟨W.heap.size, 1, none⟩ = some (.string nm) := blk_cell hbk 1
  have m2 : w1.cell? ⟨W.heap.size, 2, none⟩ = some (.string to_) := blk_cell hbk 2
  have m3 : w1.cell? ⟨W.heap.size, 3, none⟩ = some (.int .i64 at_) := blk_cell hbk 3
  have m4 : w1.cell? ⟨W.heap.size, 4, none⟩ = some (.slice A4 by_.length c4) := blk_cell hbk 4
  have m5 : w1.cell? ⟨W.heap.size, 5, none⟩ = some (.slice A5 kp.length c5) := blk_cell hbk 5
  have HP := Aside0.mk (h.below hb1)
  have HBX := Aside0.mk (Bx.of_new h (Nat.le_refl _) hbk)
  have HF := Aside0.mk (show ∀ b o, Bx W S R b o → Bx w1 S R b o from fun b o hb => hb.below hb1)
  clear h hC4 hC5 hkp hbk hb1
  by_cases hk0 : kd = 0
  · have hd : dDo D ⟨kd, nm, to_, at_, by_, kp⟩ = (dWrite D nm at_ by_).2 := by unfold dDo; dsimp only; rw [if_pos hk0]
    have HD := Aside0.mk hd
    have ct0 : (kd == 0) = true := by simp; omega
    clear hd hk0
    go_enter Try.func37, Try.ntmps37
    go_upto_region 1 with (fail)
    rw [← hw1]
    clear hw1
    go_wp2_with (first
      | ((with_reducible refine gate_dst (N := 14) rfl ?_); refine Kd.R_lit k8 _ 5 ?hg (N := 14) ?hd (xs := ([] : List Int)) (inner := []) (ok := fun k => w1.heap.size ≤ k) (okp := fun k => w1.heap.size ≤ k) ?hr ?hp (fun _ hk => hk) (Nat.le_refl _) (Below.refl _ _) (Nat.le_refl _) (by simp) ?_; (case hd => rfl); (case hg => rfl); (case hr => first | (go_simp; done) | (go_simp; rfl)); (case hp => exact (Reps.none _ _)); intro v5 w5 ho5 hb5 hg_ hnew_; have HO5 := Aside0.mk ho5; have HB5 := Aside0.mk hb5; have q54 : w5.cell? ⟨W.heap.size, 4, none⟩ = some (.slice A4 by_.length c4) := blk_cell (HBX.out.below hb5).at_ 4; clear hg_ hnew_ ho5 hb5)
      | ((with_reducible refine gate_dst (N := 17) rfl ?_); refine Kd.R_append_rows k8 (w0 := w1) w1.heap.size (by rfl) (.tmp 14) (.tmp 16) 22 5 (.int .u8 0) 1 (by rfl) Try.underlying22 info5 (by rfl) (by decide) (by decide) _ [] by_ A4 by_.length c4 (fun k => w1.heap.size ≤ k) (fun _ => False) (by rfl) (by rfl) HO5.out (Kd.C_below (Kd.C_below HC4.out HP.out.dk.1) HB5.out) (fun _ _ h => h) (fun _ h => h.elim) (fun k hk => Nat.le_trans HB5.out.size hk) HB5.out HB5.out.size (by rw [List.length_nil]; omega) ?_; intro v6 w6 hR hb6 hg hat; rw [List.nil_append] at hR; obtain ⟨A6, c6, rfl⟩ := Kd.R_slice hR; have HO6 := Aside0.mk hR; have HB6 := Aside0.mk hb6; have n1 : w6.cell? ⟨W.heap.size, 1, none⟩ = some (.string nm) := blk_cell (HBX.out.below hb6).at_ 1; have n3 : w6.cell? ⟨W.heap.size, 3, none⟩ = some (.int .i64 at_) := blk_cell (HBX.out.below hb6).at_ 3; clear hR hb6 hg hat q54)
      | fail)
    have hP6 := HP.out.below HB6.out
    have hX6 := HBX.out.below HB6.out
    have hF6 : ∀ b o, Bx W S R b o → Bx w6 S R b o := fun b o hb => (HF.out b o hb).below HB6.out
    have HSR := Aside0.mk (show ∀ k, w1.heap.size ≤ k → ¬ S k ∧ ¬ R k from fun k hk => ⟨fun h => by have := (HP.out.dk.2.1 k h).2; omega, fun h => by have := HP.out.rf.lt k h; omega⟩)
    have HWW := Aside0.mk (show W.heap.size < w1.heap.size from blk_lt HBX.out.at_)
    have HBX0 := Aside0.mk (show W0.heap.size ≤ w1.heap.size from HP.out.dk.1.size)
    clear HP HBX HF
    have HP := Aside0.mk hP6
    have HBX := Aside0.mk hX6
    have HF := Aside0.mk hF6
    clear hP6 hX6 hF6
    refine (pd_write HP.out (by omega) hnm (Kd.R_reads' HO6.out).2.2 (Kd.R_reads' HO6.out).2.1 (by omega) (fun ad e hn hS => by
      subst e
      have h0 := (Kd.R_bound HO6.out).1 ad.block (by simp [Value.ownBlock])
      exact (HSR.out _ h0.1).1 hS)).mono ?_
    rintro e w4 ⟨rfl, T4, hp4, hb4⟩
    have HF4 := Aside0.mk hb4
    have HBX := Aside0.mk (hb4 _ _ HBX.out)
    have n1 : w4.cell? ⟨W.heap.size, 1, none⟩ = some (.string nm) := blk_cell HBX.out.at_ 1
    have n2 : w4.cell? ⟨W.heap.size, 2, none⟩ = some (.string to_) := blk_cell HBX.out.at_ 2
    have n3 : w4.cell? ⟨W.heap.size, 3, none⟩ = some (.int .i64 at_) := blk_cell HBX.out.at_ 3
    have n4 : w4.cell? ⟨W.heap.size, 4, none⟩ = some (.slice A4 by_.length c4) := blk_cell HBX.out.at_ 4
    have n5 : w4.cell? ⟨W.heap.size, 5, none⟩ = some (.slice A5 kp.length c5) := blk_cell HBX.out.at_ 5
    have HO7 := Aside0.mk (R_frame HO6.out HSR.out hb4)
    have HF := Aside0.mk (fun b o hb => hb4 b o (HF.out b o hb))
    have HP := Aside0.mk hp4
    clear hp4 hb4
    have HOWN := Aside0.mk (show ∀ k, (Value.slice A6 by_.length c6).ownBlock = some k → w1.heap.size ≤ k ∧ k < w6.heap.size from fun k hk => by
      have := (Kd.R_bound HO6.out).1 k hk
      exact ⟨this.1, this.2.2.1⟩)
    clear HO6
    have HR6 := Aside0.mk (show ∀ k, w1.heap.size ≤ k → k < w6.heap.size → ¬ T4 k ∧ ¬ R k from fun k hk hlt => by
      obtain ⟨o, ho⟩ : ∃ o, w6.heap[k]? = some o := ⟨_, Array.getElem?_eq_getElem hlt⟩
      have := HF4.out k o ⟨ho, (HSR.out k hk).1, (HSR.out k hk).2⟩
      exact ⟨this.ns, this.nr⟩)
    clear n1 n2 n3 n4 n5
    go_wp2_with fail
    go_loopg [9] by_.length (fun kq v9 w' => ∃ (i : Int) (l' : List Int), v9 = .int .i64 i ∧ 0 ≤ i ∧ i + kq = by_.length ∧ Aside0 (l'.length = by_.length) ∧ Aside0 (k8.R 5 w' w1.heap.size (fun k => w1.heap.size ≤ k) (.slice A6 by_.length c6) l') ∧ Aside0 (Kp w4 w' (fun k => (Value.slice A6 by_.length c6).ownBlock = some k)))
    case atStart => exact ⟨0, by_, rfl, by omega, by omega, ⟨rfl⟩, HO7, ⟨Kp.refl _ _⟩⟩
    case round =>
      obtain ⟨i, l', rfl, i0, i1, HLN, HR, HK⟩ := hrel
      by_cases hi : i < (by_.length : Int)
      · have c6' : decide (i < (by_.length : Int)) = true := decide_eq_true hi
        have HR' := HR.out
        obtain ⟨gL, cap, e9, hgb, hgl, cl, hgc⟩ := Kd.R_form HR' (by have := HLN.out; omega)
        injection e9 with ea en ec
        subst ea
        subst ec
        clear en
        obtain ⟨hcell, hfr⟩ := Kd.R_celln 0 HR' i i0 hi
        have p0 := eq_true i0
        have p1 := eq_true hi
        have hni : IntKind.i64.wrap (i + 1) = i + 1 := IntWalk.i64_in _ ⟨by omega, by omega⟩
        have HLE := Aside0.mk hgb
        clear HR' hgc hgb hgl
        go_wp2_with fail
        go_roundg (gk - 1)
        case measure => omega
        case rel => exact ⟨i + 1, l'.set i.toNat _, rfl, by omega, by omega, ⟨by rw [List.length_set]; exact HLN.out⟩, ⟨(Kd.R_putg HR.out i _).1⟩, ⟨HK.out.setCell (p := ⟨gL, i.toNat, none⟩) (.inl rfl) _⟩⟩
      · have c6' : decide (i < (by_.length : Int)) = false := decide_eq_false hi
        have hbx : ¬ (Value.slice A6 by_.length c6).ownBlock = some W.heap.size := fun e => by have := (HOWN.out _ e).1; have := HWW.out; omega
        have hP8 := HP.out.kp HK.out (fun k hk => by have h1 := (HOWN.out k hk).1; have h2 := (HBX0.out); omega) (fun k hS hk => (HR6.out k (HOWN.out k hk).1 (HOWN.out k hk).2).1 hS) (fun k hR hk => (HR6.out k (HOWN.out k hk).1 (HOWN.out k hk).2).2 hR)
        have hX8 := HBX.out.kp HK.out hbx
        have hF8 : ∀ b o, Bx W S R b o → Bx wr T4 R b o := fun b o hb => (HF.out b o hb).kp HK.out (fun e => by have h1 := (HOWN.out _ e).1; have h2 := blk_lt hb.at_; have := HWW.out; omega)
        clear HP HBX HF
        have HP := Aside0.mk hP8
        have HBX := Aside0.mk hX8
        have HF := Aside0.mk hF8
        have n1 : wr.cell? ⟨W.heap.size, 1, none⟩ = some (.string nm) := blk_cell HBX.out.at_ 1
        have n3 : wr.cell? ⟨W.heap.size, 3, none⟩ = some (.int .i64 at_) := blk_cell HBX.out.at_ 3
        have n4 : wr.cell? ⟨W.heap.size, 4, none⟩ = some (.slice A4 by_.length c4) := blk_cell HBX.out.at_ 4
        clear hP8 hX8 hF8 hbx HR HK HO7
        go_wp2_with fail
        refine (pr_write HP.out HI.out (by omega) hnm (Kd.C_below HC4.out HP.out.dk.1) hl4 hat hby).mono ?_
        rintro e w4 ⟨rfl, T4, hp4, hb4⟩
        have HBX := Aside0.mk (hb4 _ _ HBX.out)
        have n1 : w4.cell? ⟨W.heap.size, 1, none⟩ = some (.string nm) := blk_cell HBX.out.at_ 1
        have n2 : w4.cell? ⟨W.heap.size, 2, none⟩ = some (.string to_) := blk_cell HBX.out.at_ 2
        have n3 : w4.cell? ⟨W.heap.size, 3, none⟩ = some (.int .i64 at_) := blk_cell HBX.out.at_ 3
        have n4 : w4.cell? ⟨W.heap.size, 4, none⟩ = some (.slice A4 by_.length c4) := blk_cell HBX.out.at_ 4
        have n5 : w4.cell? ⟨W.heap.size, 5, none⟩ = some (.slice A5 kp.length c5) := blk_cell HBX.out.at_ 5
        have HF := Aside0.mk (fun b o hb => hb4 b o (HF.out b o hb))
        have HP := Aside0.mk hp4
        clear hp4 hb4
        go_wp2_with fail
        go_ret
        exact ⟨rfl, _, _, by rw [HD.out]; exact HP.out, HF.out⟩
  by_cases hk1 : kd = 1
  · have hd : dDo D ⟨kd, nm, to_, at_, by_, kp⟩ = (dCut D nm at_).2 := by unfold dDo; dsimp only; rw [if_neg hk0]; rw [if_pos hk1]
    have HD := Aside0.mk hd
    have ct0 : (kd == 0) = false := by simp; omega
    have ct1 : (kd == 1) = true := by simp; omega
    clear hd hk0 hk1
    go_enter Try.func37, Try.ntmps37
    go_upto_region 1 with (fail)
    rw [← hw1]
    clear hw1
    go_wp2_with fail
    have HP := Aside0.mk (HP.out.below (below_drew1 (Below.refl _ _)))
    have HBX := Aside0.mk (HBX.out.below (below_drew1 (Below.refl _ _)))
    have HF := Aside0.mk (show ∀ b o, Bx W S R b o → Bx w1.drew S R b o from fun b o hb => (HF.out b o hb).below (below_drew1 (Below.refl _ _)))
    go_region_law (first
      | (go_simp; go_at_call 35; refine (pd_cut HP.out (by omega) hnm).mono ?_; rintro e w4 ⟨rfl, T4, hp4, hb4⟩; have HBX := Aside0.mk (hb4 _ _ HBX.out); have n1 : w4.cell? ⟨W.heap.size, 1, none⟩ = some (.string nm) := blk_cell HBX.out.at_ 1; have n2 : w4.cell? ⟨W.heap.size, 2, none⟩ = some (.string to_) := blk_cell HBX.out.at_ 2; have n3 : w4.cell? ⟨W.heap.size, 3, none⟩ = some (.int .i64 at_) := blk_cell HBX.out.at_ 3; have n4 : w4.cell? ⟨W.heap.size, 4, none⟩ = some (.slice A4 by_.length c4) := blk_cell HBX.out.at_ 4; have n5 : w4.cell? ⟨W.heap.size, 5, none⟩ = some (.slice A5 kp.length c5) := blk_cell HBX.out.at_ 5; have HF := Aside0.mk (fun b o hb => hb4 b o (HF.out b o hb)); have HP := Aside0.mk hp4; clear hp4 hb4)
      | (go_simp; go_at_call 79; refine (pr_cut HP.out HI.out (by omega)).mono ?_; rintro e w4 ⟨rfl, T4, hp4, hb4⟩; have HBX := Aside0.mk (hb4 _ _ HBX.out); have n1 : w4.cell? ⟨W.heap.size, 1, none⟩ = some (.string nm) := blk_cell HBX.out.at_ 1; have n2 : w4.cell? ⟨W.heap.size, 2, none⟩ = some (.string to_) := blk_cell HBX.out.at_ 2; have n3 : w4.cell? ⟨W.heap.size, 3, none⟩ = some (.int .i64 at_) := blk_cell HBX.out.at_ 3; have n4 : w4.cell? ⟨W.heap.size, 4, none⟩ = some (.slice A4 by_.length c4) := blk_cell HBX.out.at_ 4; have n5 : w4.cell? ⟨W.heap.size, 5, none⟩ = some (.slice A5 kp.length c5) := blk_cell HBX.out.at_ 5; have HF := Aside0.mk (fun b o hb => hb4 b o (HF.out b o hb)); have HP := Aside0.mk hp4; clear hp4 hb4)
      | fail)
    all_goals
      go_wp2_with fail
      go_ret
      exact ⟨rfl, _, _, by rw [HD.out]; exact HP.out.mono (by omega), HF.out⟩
  by_cases hk2 : kd = 2
  · have hd : dDo D ⟨kd, nm, to_, at_, by_, kp⟩ = (dSync D nm).2 := by unfold dDo; dsimp only; rw [if_neg hk0]; rw [if_neg hk1]; rw [if_pos hk2]
    have HD := Aside0.mk hd
    have ct0 : (kd == 0) = false := by simp; omega
    have ct1 : (kd == 1) = false := by simp; omega
    have ct2 : (kd == 2) = true := by simp; omega
    clear hd hk0 hk1 hk2
    go_enter Try.func37, Try.ntmps37
    go_upto_region 1 with (fail)
    rw [← hw1]
    clear hw1
    go_wp2_with fail
    have HP := Aside0.mk (HP.out.below (below_drew1 (Below.refl _ _)))
    have HBX := Aside0.mk (HBX.out.below (below_drew1 (Below.refl _ _)))
    have HF := Aside0.mk (show ∀ b o, Bx W S R b o → Bx w1.drew S R b o from fun b o hb => (HF.out b o hb).below (below_drew1 (Below.refl _ _)))
    go_region_law (first
      | (go_simp; go_at_call 21; refine (pd_sync HP.out (by omega) hnm).mono ?_; rintro e w4 ⟨rfl, T4, hp4, hb4⟩; have HBX := Aside0.mk (hb4 _ _ HBX.out); have n1 : w4.cell? ⟨W.heap.size, 1, none⟩ = some (.string nm) := blk_cell HBX.out.at_ 1; have n2 : w4.cell? ⟨W.heap.size, 2, none⟩ = some (.string to_) := blk_cell HBX.out.at_ 2; have n3 : w4.cell? ⟨W.heap.size, 3, none⟩ = some (.int .i64 at_) := blk_cell HBX.out.at_ 3; have n4 : w4.cell? ⟨W.heap.size, 4, none⟩ = some (.slice A4 by_.length c4) := blk_cell HBX.out.at_ 4; have n5 : w4.cell? ⟨W.heap.size, 5, none⟩ = some (.slice A5 kp.length c5) := blk_cell HBX.out.at_ 5; have HF := Aside0.mk (fun b o hb => hb4 b o (HF.out b o hb)); have HP := Aside0.mk hp4; clear hp4 hb4)
      | (go_simp; go_at_call 80; refine (pr_sync HP.out HI.out (by omega)).mono ?_; rintro e w4 ⟨rfl, T4, hp4, hb4⟩; have HBX := Aside0.mk (hb4 _ _ HBX.out); have n1 : w4.cell? ⟨W.heap.size, 1, none⟩ = some (.string nm) := blk_cell HBX.out.at_ 1; have n2 : w4.cell? ⟨W.heap.size, 2, none⟩ = some (.string to_) := blk_cell HBX.out.at_ 2; have n3 : w4.cell? ⟨W.heap.size, 3, none⟩ = some (.int .i64 at_) := blk_cell HBX.out.at_ 3; have n4 : w4.cell? ⟨W.heap.size, 4, none⟩ = some (.slice A4 by_.length c4) := blk_cell HBX.out.at_ 4; have n5 : w4.cell? ⟨W.heap.size, 5, none⟩ = some (.slice A5 kp.length c5) := blk_cell HBX.out.at_ 5; have HF := Aside0.mk (fun b o hb => hb4 b o (HF.out b o hb)); have HP := Aside0.mk hp4; clear hp4 hb4)
      | fail)
    all_goals
      go_wp2_with fail
      go_ret
      exact ⟨rfl, _, _, by rw [HD.out]; exact HP.out.mono (by omega), HF.out⟩
  by_cases hk3 : kd = 3
  · have hd : dDo D ⟨kd, nm, to_, at_, by_, kp⟩ = (dRename D nm to_).2 := by unfold dDo; dsimp only; rw [if_neg hk0]; rw [if_neg hk1]; rw [if_neg hk2]; rw [if_pos hk3]
    have HD := Aside0.mk hd
    have ct0 : (kd == 0) = false := by simp; omega
    have ct1 : (kd == 1) = false := by simp; omega
    have ct2 : (kd == 2) = false := by simp; omega
    have ct3 : (kd == 3) = true := by simp; omega
    clear hd hk0 hk1 hk2 hk3
    go_enter Try.func37, Try.ntmps37
    go_upto_region 1 with (fail)
    rw [← hw1]
    clear hw1
    go_wp2_with fail
    have HP := Aside0.mk (HP.out.below (below_drew1 (Below.refl _ _)))
    have HBX := Aside0.mk (HBX.out.below (below_drew1 (Below.refl _ _)))
    have HF := Aside0.mk (show ∀ b o, Bx W S R b o → Bx w1.drew S R b o from fun b o hb => (HF.out b o hb).below (below_drew1 (Below.refl _ _)))
    go_region_law (first
      | (go_simp; go_at_call 31; refine (pd_rename HP.out hnm hto).mono ?_; rintro e w4 ⟨rfl, T4, hp4, hb4⟩; have HBX := Aside0.mk (hb4 _ _ HBX.out); have n1 : w4.cell? ⟨W.heap.size, 1, none⟩ = some (.string nm) := blk_cell HBX.out.at_ 1; have n2 : w4.cell? ⟨W.heap.size, 2, none⟩ = some (.string to_) := blk_cell HBX.out.at_ 2; have n3 : w4.cell? ⟨W.heap.size, 3, none⟩ = some (.int .i64 at_) := blk_cell HBX.out.at_ 3; have n4 : w4.cell? ⟨W.heap.size, 4, none⟩ = some (.slice A4 by_.length c4) := blk_cell HBX.out.at_ 4; have n5 : w4.cell? ⟨W.heap.size, 5, none⟩ = some (.slice A5 kp.length c5) := blk_cell HBX.out.at_ 5; have HF := Aside0.mk (fun b o hb => hb4 b o (HF.out b o hb)); have HP := Aside0.mk hp4; clear hp4 hb4)
      | (go_simp; go_at_call 81; refine (pr_rename HP.out HI.out (by omega) hto).mono ?_; rintro e w4 ⟨rfl, T4, hp4, hb4⟩; have HBX := Aside0.mk (hb4 _ _ HBX.out); have n1 : w4.cell? ⟨W.heap.size, 1, none⟩ = some (.string nm) := blk_cell HBX.out.at_ 1; have n2 : w4.cell? ⟨W.heap.size, 2, none⟩ = some (.string to_) := blk_cell HBX.out.at_ 2; have n3 : w4.cell? ⟨W.heap.size, 3, none⟩ = some (.int .i64 at_) := blk_cell HBX.out.at_ 3; have n4 : w4.cell? ⟨W.heap.size, 4, none⟩ = some (.slice A4 by_.length c4) := blk_cell HBX.out.at_ 4; have n5 : w4.cell? ⟨W.heap.size, 5, none⟩ = some (.slice A5 kp.length c5) := blk_cell HBX.out.at_ 5; have HF := Aside0.mk (fun b o hb => hb4 b o (HF.out b o hb)); have HP := Aside0.mk hp4; clear hp4 hb4)
      | fail)
    all_goals
      go_wp2_with fail
      go_ret
      exact ⟨rfl, _, _, by rw [HD.out]; exact HP.out.mono (by omega), HF.out⟩
  by_cases hk4 : kd = 4
  · have hd : dDo D ⟨kd, nm, to_, at_, by_, kp⟩ = (dRemove D nm).2 := by unfold dDo; dsimp only; rw [if_neg hk0]; rw [if_neg hk1]; rw [if_neg hk2]; rw [if_neg hk3]; rw [if_pos hk4]
    have HD := Aside0.mk hd
    have ct0 : (kd == 0) = false := by simp; omega
    have ct1 : (kd == 1) = false := by simp; omega
    have ct2 : (kd == 2) = false := by simp; omega
    have ct3 : (kd == 3) = false := by simp; omega
    have ct4 : (kd == 4) = true := by simp; omega
    clear hd hk0 hk1 hk2 hk3 hk4
    go_enter Try.func37, Try.ntmps37
    go_upto_region 1 with (fail)
    rw [← hw1]
    clear hw1
    go_wp2_with fail
    have HP := Aside0.mk (HP.out.below (below_drew1 (Below.refl _ _)))
    have HBX := Aside0.mk (HBX.out.below (below_drew1 (Below.refl _ _)))
    have HF := Aside0.mk (show ∀ b o, Bx W S R b o → Bx w1.drew S R b o from fun b o hb => (HF.out b o hb).below (below_drew1 (Below.refl _ _)))
    go_region_law (first
      | (go_simp; go_at_call 34; refine (pd_remove HP.out hnm).mono ?_; rintro e w4 ⟨rfl, T4, hp4, hb4⟩; have HBX := Aside0.mk (hb4 _ _ HBX.out); have n1 : w4.cell? ⟨W.heap.size, 1, none⟩ = some (.string nm) := blk_cell HBX.out.at_ 1; have n2 : w4.cell? ⟨W.heap.size, 2, none⟩ = some (.string to_) := blk_cell HBX.out.at_ 2; have n3 : w4.cell? ⟨W.heap.size, 3, none⟩ = some (.int .i64 at_) := blk_cell HBX.out.at_ 3; have n4 : w4.cell? ⟨W.heap.size, 4, none⟩ = some (.slice A4 by_.length c4) := blk_cell HBX.out.at_ 4; have n5 : w4.cell? ⟨W.heap.size, 5, none⟩ = some (.slice A5 kp.length c5) := blk_cell HBX.out.at_ 5; have HF := Aside0.mk (fun b o hb => hb4 b o (HF.out b o hb)); have HP := Aside0.mk hp4; clear hp4 hb4)
      | (go_simp; go_at_call 82; refine (pr_remove HP.out HI.out).mono ?_; rintro e w4 ⟨rfl, T4, hp4, hb4⟩; have HBX := Aside0.mk (hb4 _ _ HBX.out); have n1 : w4.cell? ⟨W.heap.size, 1, none⟩ = some (.string nm) := blk_cell HBX.out.at_ 1; have n2 : w4.cell? ⟨W.heap.size, 2, none⟩ = some (.string to_) := blk_cell HBX.out.at_ 2; have n3 : w4.cell? ⟨W.heap.size, 3, none⟩ = some (.int .i64 at_) := blk_cell HBX.out.at_ 3; have n4 : w4.cell? ⟨W.heap.size, 4, none⟩ = some (.slice A4 by_.length c4) := blk_cell HBX.out.at_ 4; have n5 : w4.cell? ⟨W.heap.size, 5, none⟩ = some (.slice A5 kp.length c5) := blk_cell HBX.out.at_ 5; have HF := Aside0.mk (fun b o hb => hb4 b o (HF.out b o hb)); have HP := Aside0.mk hp4; clear hp4 hb4)
      | fail)
    all_goals
      go_wp2_with fail
      go_ret
      exact ⟨rfl, _, _, by rw [HD.out]; exact HP.out.mono (by omega), HF.out⟩
  by_cases hk5 : kd = 5
  · have hd : dDo D ⟨kd, nm, to_, at_, by_, kp⟩ = dCrash D kp := by unfold dDo; dsimp only; rw [if_neg hk0]; rw [if_neg hk1]; rw [if_neg hk2]; rw [if_neg hk3]; rw [if_neg hk4]; rw [if_pos hk5]
    have HD := Aside0.mk hd
    have ct0 : (kd == 0) = false := by simp; omega
    have ct1 : (kd == 1) = false := by simp; omega
    have ct2 : (kd == 2) = false := by simp; omega
    have ct3 : (kd == 3) = false := by simp; omega
    have ct4 : (kd == 4) = false := by simp; omega
    have ct5 : (kd == 5) = true := by simp; omega
    clear hd hk0 hk1 hk2 hk3 hk4 hk5
    go_enter Try.func37, Try.ntmps37
    go_upto_region 1 with (fail)
    rw [← hw1]
    clear hw1
    go_wp2_with fail
    refine (pd_crash HP.out (by omega) (Kd.C_below HC5.out HP.out.dk.1) (H5.out _ _ _ _ _ _ _ HP.out) HKP.out).mono ?_
    rintro e w4 ⟨rfl, T4, hp4, hb4⟩
    have HBX := Aside0.mk (hb4 _ _ HBX.out)
    have n1 : w4.cell? ⟨W.heap.size, 1, none⟩ = some (.string nm) := blk_cell HBX.out.at_ 1
    have n2 : w4.cell? ⟨W.heap.size, 2, none⟩ = some (.string to_) := blk_cell HBX.out.at_ 2
    have n3 : w4.cell? ⟨W.heap.size, 3, none⟩ = some (.int .i64 at_) := blk_cell HBX.out.at_ 3
    have n4 : w4.cell? ⟨W.heap.size, 4, none⟩ = some (.slice A4 by_.length c4) := blk_cell HBX.out.at_ 4
    have n5 : w4.cell? ⟨W.heap.size, 5, none⟩ = some (.slice A5 kp.length c5) := blk_cell HBX.out.at_ 5
    have HF := Aside0.mk (fun b o hb => hb4 b o (HF.out b o hb))
    have HP := Aside0.mk hp4
    clear hp4 hb4
    go_wp2_with fail
    refine (pr_crash HP.out HI.out (by omega) (Kd.C_below HC5.out HP.out.dk.1) HKP.out).mono ?_
    rintro e w4 ⟨rfl, T4, hp4, hb4⟩
    have HBX := Aside0.mk (hb4 _ _ HBX.out)
    have n1 : w4.cell? ⟨W.heap.size, 1, none⟩ = some (.string nm) := blk_cell HBX.out.at_ 1
    have n2 : w4.cell? ⟨W.heap.size, 2, none⟩ = some (.string to_) := blk_cell HBX.out.at_ 2
    have n3 : w4.cell? ⟨W.heap.size, 3, none⟩ = some (.int .i64 at_) := blk_cell HBX.out.at_ 3
    have n4 : w4.cell? ⟨W.heap.size, 4, none⟩ = some (.slice A4 by_.length c4) := blk_cell HBX.out.at_ 4
    have n5 : w4.cell? ⟨W.heap.size, 5, none⟩ = some (.slice A5 kp.length c5) := blk_cell HBX.out.at_ 5
    have HF := Aside0.mk (fun b o hb => hb4 b o (HF.out b o hb))
    have HP := Aside0.mk hp4
    clear hp4 hb4
    go_wp2_with fail
    go_ret
    exact ⟨rfl, _, _, by rw [HD.out]; exact HP.out.mono (by omega), HF.out⟩
  · have hd : dDo D ⟨kd, nm, to_, at_, by_, kp⟩ = D := by unfold dDo; dsimp only; rw [if_neg hk0]; rw [if_neg hk1]; rw [if_neg hk2]; rw [if_neg hk3]; rw [if_neg hk4]; rw [if_neg hk5]
    have HD := Aside0.mk hd
    have ct0 : (kd == 0) = false := by simp; omega
    have ct1 : (kd == 1) = false := by simp; omega
    have ct2 : (kd == 2) = false := by simp; omega
    have ct3 : (kd == 3) = false := by simp; omega
    have ct4 : (kd == 4) = false := by simp; omega
    have ct5 : (kd == 5) = false := by simp; omega
    clear hd hk0 hk1 hk2 hk3 hk4 hk5
    go_enter Try.func37, Try.ntmps37
    go_upto_region 1 with (fail)
    rw [← hw1]
    clear hw1
    go_wp2_with fail
    go_ret
    exact ⟨rfl, _, _, by rw [HD.out]; exact HP.out.mono (by omega), HF.out⟩
end Go.Proofs.Ytmmiipnmimjojaa.PS
