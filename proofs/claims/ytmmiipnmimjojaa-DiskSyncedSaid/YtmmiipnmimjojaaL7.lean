/- DiskSynced. -/
import Derived.Test.YtmmiipnmimjojaaP4
import Derived.Test.YtmmiipnmimjojaaL1
namespace Go.Proofs.Ytmmiipnmimjojaa.PS
open Go.RowKit Go.Proofs.YtmmiipnmimjojaaW.PrintWords Go.Proofs.YtmmiipnmimjojaaW.PrintLast Go.Proofs.YtmmiipnmimjojaaW.PrintMore
open Go.Maps Go.Proofs.Ytmmiipnmimjojaa.PD
set_option linter.unusedVariables false
set_option linter.unusedSimpArgs false
/-- The file is there, and all of it lasts. -/
def Has (D : Dsk) (s : ByteArray) (b : List Int) : Prop := aget s.data.toList D.files = some ⟨b, b, true, []⟩
theorem dk_argS {W W1 : World} {S : Nat → Prop} {g N : Nat} {D : Dsk} (h : Dk W W1 S g N D) {K : IntKind} {A : Option Addr} {l : List Int} (hr : (Kd.int K).C W A l.length l) : ∀ ad, A = some ad → 0 < l.length → ¬ S ad.block := fun ad e hn hS => by
  subst e
  have h1 := Kd.C_lt hr hn (by show 0 < 1; decide)
  have h2 := (h.2.1 _ hS).1
  omega
theorem nm_ne {s t : ByteArray} (h : s ≠ t) : t.data.toList ≠ s.data.toList := fun e => ne_str h e.symm
section
variable {N : Nat} {D : Dsk} {s t : ByteArray} {b : List Int}
theorem has_write (h : Has D s b) (hi : DInv N D) (hne : t ≠ s) (at_ : Int) (c : List Int) : Has (dWrite D t at_ c).2 s b := by
  unfold Has at h ⊢
  unfold dWrite dW2
  split; exact h
  split; exact h
  split; exact h
  split; exact h
  show aget _ (aput _ _ D.files) = _
  rw [aget_put hi.srt, if_neg (nm_ne hne)]
  exact h
theorem has_cut (h : Has D s b) (hi : DInv N D) (hne : t ≠ s) (z : Int) : Has (dCut D t z).2 s b := by
  unfold Has at h ⊢
  unfold dCut
  split; exact h
  split; exact h
  show aget _ (aput _ _ D.files) = _
  rw [aget_put hi.srt, if_neg (nm_ne hne)]
  exact h
theorem has_sync (h : Has D s b) (hi : DInv N D) (hne : t ≠ s) : Has (dSync D t).2 s b := by
  unfold Has at h ⊢
  unfold dSync
  split; exact h
  show aget _ (aput _ _ D.files) = _
  rw [aget_put hi.srt, if_neg (nm_ne hne)]
  exact h
theorem has_remove (h : Has D s b) (hi : DInv N D) (hne : t ≠ s) : Has (dRemove D t).2 s b := by
  unfold Has at h ⊢
  unfold dRemove
  split; exact h
  show aget _ (adel _ D.files) = _
  rw [aget_del hi.srt, if_neg (nm_ne hne)]
  exact h
theorem has_rename (h : Has D s b) (hi : DInv N D) (hne : t ≠ s) {u : ByteArray} (hu : u ≠ s) : Has (dRename D t u).2 s b := by
  unfold Has at h ⊢
  unfold dRename
  split; exact h
  split; exact h
  split; exact h
  show aget _ (aput _ _ (adel _ D.files)) = _
  rw [aget_put (adel_srt hi.srt), if_neg (nm_ne hu), aget_del hi.srt, if_neg (nm_ne hne)]
  exact h
theorem crL_has (keep : List Int) (n : Nm) : ∀ (i : Nat) (l : List (Nm × Fil)), aget n l = some ⟨b, b, true, []⟩ → aget n (crL keep i l) = some ⟨b, b, true, []⟩
  | _, [], h => by cases h
  | i, (m, f) :: l, h => by
    unfold aget at h
    unfold crL
    by_cases e : m = n
    · rw [if_pos e] at h
      injection h with h
      have hc : crF f (kOf keep i) = some ⟨b, b, true, []⟩ := by
        rw [show f = ⟨b, b, true, []⟩ from h]
        unfold crF
        rw [if_neg (by rintro ⟨h, _⟩; cases h)]
        rfl
      rw [hc]
      show (if m = n then _ else _) = _
      rw [if_pos e]
    · rw [if_neg e] at h
      have ih := crL_has keep n (i + 1) l h
      split
      · exact ih
      · show (if m = n then _ else _) = _
        rw [if_neg e]
        exact ih
theorem has_crash (h : Has D s b) (keep : List Int) : Has (dCrash D keep) s b := crL_has keep _ 0 D.files h
theorem has_read (h : Has D s b) : dRead D s = (b, 0) := by
  unfold Has at h
  unfold dRead
  rw [h]
theorem has_made (hi : DInv N D) (hw : (dWrite (dRemove D s).2 s 0 b).1 = 0) : (dSync (dWrite (dRemove D s).2 s 0 b).2 s).1 = 0 ∧ Has (dSync (dWrite (dRemove D s).2 s 0 b).2 s).2 s b := by
  have hr := dRemove_inv (s := s) hi
  obtain ⟨D1, hD1⟩ : ∃ D1, (dRemove D s).2 = D1 := ⟨_, rfl⟩
  have hn : aget s.data.toList D1.files = none := by
    rw [← hD1]
    unfold dRemove
    cases hg : aget s.data.toList D.files with
    | none => exact hg
    | some f =>
      show aget _ (adel _ D.files) = none
      rw [aget_del hi.srt, if_pos rfl]
  rw [hD1] at hw hr ⊢
  have hx : dWrite D1 s 0 b = (0, ⟨D1.room, aput s.data.toList (wFil z110 0 b) D1.files⟩) := by
    unfold dWrite dW2 at hw ⊢
    rw [hn] at hw ⊢
    split at hw
    · cases hw
    · next h1 =>
      rw [if_neg h1]
      split at hw
      · cases hw
      · next h2 =>
        rw [if_neg h2]
        split at hw
        · cases hw
        · next h3 =>
          rw [if_neg h3]
          split at hw
          · cases hw
          · next h4 => rw [if_neg h4]; rfl
  have hf : (wFil z110 0 b).f0 = b := by
    show layL [] 0 b = b
    unfold layL
    simp
  rw [hx]
  have hg : aget s.data.toList (aput s.data.toList (wFil z110 0 b) D1.files) = some (wFil z110 0 b) := by rw [aget_put hr.srt, if_pos rfl]
  unfold Has dSync
  dsimp only
  rw [hg]
  refine ⟨rfl, ?_⟩
  show aget _ (aput _ _ (aput _ _ D1.files)) = _
  rw [aget_put (aput_srt hr.srt), if_pos rfl, hf]
end
theorem dk_mono {W W1 : World} {S : Nat → Prop} {g N M : Nat} {D : Dsk} (h : Dk W W1 S g N D) (hM : N ≤ M) : Dk W W1 S g M D := ⟨h.1, h.2.1, h.2.2.1, h.2.2.2.mono hM⟩
def skip5 (x y : S58) : Bool := !(shortB y) || (decide (y.f1 = x.f1) || (decide (y.f0 = 3) && decide (y.f2 = x.f1)))
set_option maxHeartbeats 8000000 in
set_option maxRecDepth 100000 in
theorem synced_calls {W : World} {A A1 : Option Addr} {c c1 : Nat} {l more : List S58} {x : S58} {A4 A5 : Option Addr} {c4 c5 : Nat} (hA : Kd.C k58 W A l.length l) (hc : l.length ≤ c) (hl : Script l) (hA1 : Kd.C k58 W A1 more.length more) (hl1 : Script more) (hx : Deed5 x)
    (hC4 : k8.C W A4 x.f4.length x.f4) (l4 : x.f4.length ≤ c4) (hC5 : (Kd.int .i64).C W A5 x.f5.length x.f5) (l5 : x.f5.length ≤ c5) :
    Calls Try.prog 7 #[.slice A l.length c, .slice A1 more.length c1, .agg #[.int .i64 x.f0, .string x.f1, .string x.f2, .int .i64 x.f3, .slice A4 x.f4.length c4, .slice A5 x.f5.length c5]] W fun e w' => e = .returned (.bool true) ∧ Below W.heap.size W w' := by
  obtain ⟨w1, hw1⟩ : ∃ w1, w1 = W.alloc (.cells #[.int .i64 x.f0, .string x.f1, .string x.f2, .int .i64 x.f3, .slice A4 x.f4.length c4, .slice A5 x.f5.length c5] 58) := ⟨_, rfl⟩
  have hb1 : Below W.heap.size W w1 := by rw [hw1]; exact below_alloc (Below.refl _ _) _
  have hbk : w1.heap[W.heap.size]? = some (.cells #[.int .i64 x.f0, .string x.f1, .string x.f2, .int .i64 x.f3, .slice A4 x.f4.length c4, .slice A5 x.f5.length c5] 58 (0, 0)) := by rw [hw1]; exact blk_new W _
  have HPL := Aside0.mk (play_calls (z := 1048576) (Kd.C_below hA hb1) hc hl (by decide))
  have HM := Aside0.mk (Kd.C_below hA1 hb1)
  have HML := Aside0.mk hl1
  have hmm := hl1.1
  have HX := Aside0.mk hx
  have HC4 := Aside0.mk (Kd.C_below hC4 hb1)
  have HC5 := Aside0.mk (Kd.C_below hC5 hb1)
  have HB1 := Aside0.mk hb1
  have HBK := Aside0.mk hbk
  clear hA hl hA1 hl1 hx hC4 hC5 hb1 hbk
  go_enter Try.func7, Try.ntmps7
  go_upto_region 1 with (fail)
  rw [← hw1]
  clear hw1
  go_wp2_with fail
  refine HPL.out.mono ?_
  rintro e w2 ⟨g, r, S, R, N, D, rfl, hN, hrm, hp⟩
  have HD := Aside0.mk hp.dk
  clear hp hrm
  have bk_w2 := (HD.out.1.block W.heap.size (blk_lt HBK.out)).trans HBK.out
  have m0 : w2.cell? ⟨W.heap.size, 0, none⟩ = some (.int .i64 x.f0) := blk_cell bk_w2 0
  have m1 : w2.cell? ⟨W.heap.size, 1, none⟩ = some (.string x.f1) := blk_cell bk_w2 1
  have m2 : w2.cell? ⟨W.heap.size, 2, none⟩ = some (.string x.f2) := blk_cell bk_w2 2
  have m3 : w2.cell? ⟨W.heap.size, 3, none⟩ = some (.int .i64 x.f3) := blk_cell bk_w2 3
  have m4 : w2.cell? ⟨W.heap.size, 4, none⟩ = some (.slice A4 x.f4.length c4) := blk_cell bk_w2 4
  have m5 : w2.cell? ⟨W.heap.size, 5, none⟩ = some (.slice A5 x.f5.length c5) := blk_cell bk_w2 5
  clear bk_w2
  go_wp2_with fail
  refine (tollgatelaw05_short.calls x.f0 x.f1 x.f2 x.f3 A4 c4 x.f4 A5 c5 x.f5 (shortB x) w2 (Kd.C_below HC4.out HD.out.1) l4 (Kd.C_below HC5.out HD.out.1) l5 (short_f x)).mono ?_
  rintro e w3 ⟨rfl, hb3⟩
  have HD3 := Aside0.mk (HD.out.step hb3)
  clear hb3 HD m0 m1 m2 m3 m4 m5
  have bk_w3 := (HD3.out.1.block W.heap.size (blk_lt HBK.out)).trans HBK.out
  have m0 : w3.cell? ⟨W.heap.size, 0, none⟩ = some (.int .i64 x.f0) := blk_cell bk_w3 0
  have m1 : w3.cell? ⟨W.heap.size, 1, none⟩ = some (.string x.f1) := blk_cell bk_w3 1
  have m2 : w3.cell? ⟨W.heap.size, 2, none⟩ = some (.string x.f2) := blk_cell bk_w3 2
  have m3 : w3.cell? ⟨W.heap.size, 3, none⟩ = some (.int .i64 x.f3) := blk_cell bk_w3 3
  have m4 : w3.cell? ⟨W.heap.size, 4, none⟩ = some (.slice A4 x.f4.length c4) := blk_cell bk_w3 4
  have m5 : w3.cell? ⟨W.heap.size, 5, none⟩ = some (.slice A5 x.f5.length c5) := blk_cell bk_w3 5
  clear bk_w3
  cases hsx : shortB x with
  | false =>
    go_wp2_with fail
    refine (live_calls _).mono ?_
    rintro e w9 ⟨rfl, hb9⟩
    go_wp2_with fail
    go_ret
    exact ⟨rfl, below_step HB1.out (below_step HD3.out.1 hb9)⟩
  | true =>
    have hs4 : x.f4.length ≤ 4000 := by unfold shortB at hsx; simp at hsx; exact hsx.1
    clear hsx
    go_wp2_with fail
    refine (dk_remove (s := x.f1) HD3.out HX.out.name).mono ?_
    rintro e w4 ⟨rfl, S4, d4, _, _⟩
    obtain ⟨D1, hD1⟩ : ∃ D1, (dRemove D x.f1).2 = D1 := ⟨_, rfl⟩
    have hmade : ∀ h : (dWrite D1 x.f1 0 x.f4).1 = 0, (dSync (dWrite D1 x.f1 0 x.f4).2 x.f1).1 = 0 ∧ Has (dSync (dWrite D1 x.f1 0 x.f4).2 x.f1).2 x.f1 x.f4 := by rw [← hD1]; exact fun h => has_made HD3.out.2.2.2 h
    rw [hD1] at d4
    have D4 := Aside0.mk d4
    have HMD := Aside0.mk hmade
    clear d4 hD1 hmade m0 m1 m2 m3 m4 m5
    have bk_w4 := (D4.out.1.block W.heap.size (blk_lt HBK.out)).trans HBK.out
    have m0 : w4.cell? ⟨W.heap.size, 0, none⟩ = some (.int .i64 x.f0) := blk_cell bk_w4 0
    have m1 : w4.cell? ⟨W.heap.size, 1, none⟩ = some (.string x.f1) := blk_cell bk_w4 1
    have m2 : w4.cell? ⟨W.heap.size, 2, none⟩ = some (.string x.f2) := blk_cell bk_w4 2
    have m3 : w4.cell? ⟨W.heap.size, 3, none⟩ = some (.int .i64 x.f3) := blk_cell bk_w4 3
    have m4 : w4.cell? ⟨W.heap.size, 4, none⟩ = some (.slice A4 x.f4.length c4) := blk_cell bk_w4 4
    have m5 : w4.cell? ⟨W.heap.size, 5, none⟩ = some (.slice A5 x.f5.length c5) := blk_cell bk_w4 5
    clear bk_w4
    go_wp2_with fail
    refine (dk_write (s := x.f1) (at_ := 0) (l := x.f4) D4.out (by omega) HX.out.name (Kd.C_below HC4.out D4.out.1) l4 (by omega) (fun ad e hn hS => by
      subst e
      have h1 := Kd.C_lt HC4.out hn (by show 0 < 1; decide)
      have h2 := (D4.out.2.1 _ hS).1
      omega)).mono ?_
    rintro e w5 ⟨rfl, S5, d5, _, _⟩
    have D5 := Aside0.mk d5
    obtain ⟨E, hE⟩ : ∃ E, (dWrite D1 x.f1 0 x.f4).1 = E := ⟨_, rfl⟩
    rw [hE]
    have HE := Aside0.mk hE
    clear d5 hE m0 m1 m2 m3 m4 m5
    have bk_w5 := (D5.out.1.block W.heap.size (blk_lt HBK.out)).trans HBK.out
    have m0 : w5.cell? ⟨W.heap.size, 0, none⟩ = some (.int .i64 x.f0) := blk_cell bk_w5 0
    have m1 : w5.cell? ⟨W.heap.size, 1, none⟩ = some (.string x.f1) := blk_cell bk_w5 1
    have m2 : w5.cell? ⟨W.heap.size, 2, none⟩ = some (.string x.f2) := blk_cell bk_w5 2
    have m3 : w5.cell? ⟨W.heap.size, 3, none⟩ = some (.int .i64 x.f3) := blk_cell bk_w5 3
    have m4 : w5.cell? ⟨W.heap.size, 4, none⟩ = some (.slice A4 x.f4.length c4) := blk_cell bk_w5 4
    have m5 : w5.cell? ⟨W.heap.size, 5, none⟩ = some (.slice A5 x.f5.length c5) := blk_cell bk_w5 5
    clear bk_w5
    by_cases he : E = 0
    · subst he
      obtain ⟨hsy, hhas⟩ := HMD.out HE.out
      go_wp2_with fail
      refine (dk_sync (s := x.f1) D5.out (by omega) HX.out.name).mono ?_
      rintro e w6 ⟨rfl, S6, d6, _, _⟩
      rw [hsy]
      obtain ⟨D6, hD6⟩ : ∃ D6, (dSync (dWrite D1 x.f1 0 x.f4).2 x.f1).2 = D6 := ⟨_, rfl⟩
      rw [hD6] at d6 hhas
      have DD6 := Aside0.mk d6
      have HH6 := Aside0.mk hhas
      clear d6 hhas hsy hD6 m0 m1 m2 m3 m4 m5
      go_wp2_with fail
      go_loopg [10] (min more.length 200) (fun kq v10 w' => ∃ (i : Int) (S : Nat → Prop) (E : Dsk), v10 = .int .i64 i ∧ 0 ≤ i ∧ i + kq = ((min more.length 200 : Nat) : Int) ∧ Aside0 (Dk w1 w' S g (N + 1 + i.toNat) E) ∧ Aside0 (Has E x.f1 x.f4))
      case atStart => exact ⟨0, S6, D6, rfl, by omega, by omega, DD6, HH6⟩
      case round =>
        clear DD6 HH6
        obtain ⟨i, S, E, rfl, i0, i1, HDr, HHs⟩ := hrel
        by_cases hi : i < ((min more.length 200 : Nat) : Int)
        · have q1 : i < (more.length : Int) := by omega
          have q2 : i < 200 := by omega
          have c6 : decide (i < (more.length : Int)) = true := decide_eq_true q1
          have c7 : decide (i < 200) = true := decide_eq_true q2
          obtain ⟨ad, y, Y4, e4, Y5, e5, rfl, hyl, hy⟩ := deedR_of HM.out i0 q1
          have hy' := hy.below HDr.out.1
          have n0 := hy'.n0
          have n1 := hy'.n1
          have n2 := hy'.n2
          have n3 := hy'.n3
          have n4 := hy'.n4
          have n5 := hy'.n5
          have p0 := eq_true i0
          have p1 := eq_true q1
          have hni : IntKind.i64.wrap (i + 1) = i + 1 := IntWalk.i64_in _ ⟨by omega, by omega⟩
          have HY := Aside0.mk hy
          have HYD := Aside0.mk (HML.out.2 y hyl)
          have HI := Aside0.mk hi
          clear hy hy' hyl hi
          obtain ⟨sk, hsk⟩ : ∃ sk, skip5 x y = sk := ⟨_, rfl⟩
          have HSK := Aside0.mk hsk
          clear hsk
          go_upto_region 11 with (fail)
          obtain ⟨w8, hw8⟩ : ∃ w8, w8 = wr.alloc (.cells #[.int .i64 y.f0, .string y.f1, .string y.f2, .int .i64 y.f3, .slice Y4 y.f4.length e4, .slice Y5 y.f5.length e5] 58) := ⟨_, rfl⟩
          rw [← hw8]
          have hyb : w8.heap[wr.heap.size]? = some (.cells #[.int .i64 y.f0, .string y.f1, .string y.f2, .int .i64 y.f3, .slice Y4 y.f4.length e4, .slice Y5 y.f5.length e5] 58 (0, 0)) := by rw [hw8]; exact blk_new wr _
          have HYB := Aside0.mk hyb
          have HD8 := Aside0.mk (HDr.out.step (show Below wr.heap.size wr w8 by rw [hw8]; exact below_alloc (Below.refl _ _) _))
          clear hw8 hyb n0 n1 n2 n3 n4 n5 HDr
          go_cut [85] (fun v85 w' => v85 = .bool sk ∧ Aside0 (Below w8.heap.size w8 w'))
          case first =>
            have yk_w8 := ((Below.refl w8.heap.size w8).block wr.heap.size (blk_lt HYB.out)).trans HYB.out
            have y0 : w8.cell? ⟨wr.heap.size, 0, none⟩ = some (.int .i64 y.f0) := blk_cell yk_w8 0
            have y1 : w8.cell? ⟨wr.heap.size, 1, none⟩ = some (.string y.f1) := blk_cell yk_w8 1
            have y2 : w8.cell? ⟨wr.heap.size, 2, none⟩ = some (.string y.f2) := blk_cell yk_w8 2
            have y3 : w8.cell? ⟨wr.heap.size, 3, none⟩ = some (.int .i64 y.f3) := blk_cell yk_w8 3
            have y4 : w8.cell? ⟨wr.heap.size, 4, none⟩ = some (.slice Y4 y.f4.length e4) := blk_cell yk_w8 4
            have y5 : w8.cell? ⟨wr.heap.size, 5, none⟩ = some (.slice Y5 y.f5.length e5) := blk_cell yk_w8 5
            clear yk_w8
            go_wp2_with fail
            refine (short_calls HY.out HD8.out.1).mono ?_
            rintro e x1 ⟨rfl, hbx⟩
            have HBX := Aside0.mk hbx
            clear y0 y1 y2 y3 y4 y5
            have yk_x1 := (hbx.block wr.heap.size (blk_lt HYB.out)).trans HYB.out
            have y0 : x1.cell? ⟨wr.heap.size, 0, none⟩ = some (.int .i64 y.f0) := blk_cell yk_x1 0
            have y1 : x1.cell? ⟨wr.heap.size, 1, none⟩ = some (.string y.f1) := blk_cell yk_x1 1
            have y2 : x1.cell? ⟨wr.heap.size, 2, none⟩ = some (.string y.f2) := blk_cell yk_x1 2
            have y3 : x1.cell? ⟨wr.heap.size, 3, none⟩ = some (.int .i64 y.f3) := blk_cell yk_x1 3
            have y4 : x1.cell? ⟨wr.heap.size, 4, none⟩ = some (.slice Y4 y.f4.length e4) := blk_cell yk_x1 4
            have y5 : x1.cell? ⟨wr.heap.size, 5, none⟩ = some (.slice Y5 y.f5.length e5) := blk_cell yk_x1 5
            clear yk_x1
            have m1 : x1.cell? ⟨W.heap.size, 1, none⟩ = some (.string x.f1) := blk_cell (((below_step HD8.out.1 hbx).block W.heap.size (blk_lt HBK.out)).trans HBK.out) 1
            have hsk := HSK.out
            unfold skip5 at hsk
            clear hbx
            cases hsy : shortB y with
            | false =>
              have hs1 : sk = true := by rw [← hsk, hsy]; rfl
              subst hs1
              clear hsk
              go_wp2_with fail
              go_meet
              case rel => exact ⟨rfl, HBX⟩
            | true =>
              rw [hsy] at hsk
              clear hsy
              by_cases hne : y.f1 = x.f1
              · have hbe : (y.f1.toList == x.f1.toList) = true := by rw [beq_str]; exact decide_eq_true hne
                have hs1 : sk = true := by rw [← hsk, hne]; simp
                subst hs1
                clear hsk hne
                go_wp2_with fail
                go_meet
                case rel => exact ⟨rfl, HBX⟩
              · have hbe : (y.f1.toList == x.f1.toList) = false := by rw [beq_str]; exact decide_eq_false hne
                by_cases h3 : y.f0 = 3
                · have hc3 : (y.f0 == 3) = true := by simpa using h3
                  have hbe2 : (y.f2.toList == x.f1.toList) = sk := by rw [beq_str, ← hsk, decide_eq_false hne, decide_eq_true h3]; rfl
                  clear hsk hne h3
                  go_wp2_with fail
                  go_meet
                  case rel => exact ⟨rfl, HBX⟩
                · have hc3 : (y.f0 == 3) = false := by simpa using h3
                  have hs1 : sk = false := by rw [← hsk, decide_eq_false hne, decide_eq_false h3]; rfl
                  subst hs1
                  clear hsk hne h3
                  go_wp2_with fail
                  go_meet
                  case rel => exact ⟨rfl, HBX⟩
          case rest =>
            obtain ⟨rfl, HBc⟩ := hcut
            have HDc := Aside0.mk (HD8.out.step HBc.out)
            have yk_wc := (HBc.out.block wr.heap.size (blk_lt HYB.out)).trans HYB.out
            have y0 : wc.cell? ⟨wr.heap.size, 0, none⟩ = some (.int .i64 y.f0) := blk_cell yk_wc 0
            have y1 : wc.cell? ⟨wr.heap.size, 1, none⟩ = some (.string y.f1) := blk_cell yk_wc 1
            have y2 : wc.cell? ⟨wr.heap.size, 2, none⟩ = some (.string y.f2) := blk_cell yk_wc 2
            have y3 : wc.cell? ⟨wr.heap.size, 3, none⟩ = some (.int .i64 y.f3) := blk_cell yk_wc 3
            have y4 : wc.cell? ⟨wr.heap.size, 4, none⟩ = some (.slice Y4 y.f4.length e4) := blk_cell yk_wc 4
            have y5 : wc.cell? ⟨wr.heap.size, 5, none⟩ = some (.slice Y5 y.f5.length e5) := blk_cell yk_wc 5
            clear yk_wc
            cases sk with
            | true =>
              clear y0 y1 y2 y3 y4 y5
              go_wp2_with fail
              go_roundg (gk - 1)
              case measure => omega
              case rel => exact ⟨i + 1, S, E, rfl, by omega, by omega, ⟨by rw [show (i + 1).toNat = i.toNat + 1 by omega]; exact dk_mono HDc.out (by omega)⟩, HHs⟩
            | false =>
              have hsk := HSK.out
              unfold skip5 at hsk
              have hsy : shortB y = true := by
                cases h : shortB y with
                | true => rfl
                | false => rw [h] at hsk; simp at hsk
              rw [hsy] at hsk
              have hny : y.f1 ≠ x.f1 := fun h => by rw [decide_eq_true h] at hsk; simp at hsk
              have hn3 : y.f0 = 3 → y.f2 ≠ x.f1 := fun h h' => by rw [decide_eq_true h, decide_eq_true h'] at hsk; simp at hsk
              have hs4 : y.f4.length ≤ 4000 := by unfold shortB at hsy; simp at hsy; exact hsy.1
              clear hsk hsy
              by_cases hk0 : y.f0 = 0
              · have HNX := Aside0.mk (show Has (dWrite E y.f1 y.f3 y.f4).2 x.f1 x.f4 from has_write HHs.out HDc.out.2.2.2 hny _ _)
                have ct0 : (y.f0 == 0) = true := by simp; omega
                clear hn3 hny hk0
                go_wp2_with fail
                refine (dk_write (s := y.f1) (at_ := y.f3) (l := y.f4) HDc.out (by omega) HYD.out.name (Kd.C_below HY.out.C4 HDc.out.1) HY.out.l4 (by omega) (dk_argS HDc.out HY.out.C4)).mono ?_
                rintro e x2 ⟨rfl, S2, d2, _, _⟩
                have DN := Aside0.mk d2
                clear d2
                go_wp2_with fail
                go_roundg (gk - 1)
                case measure => omega
                case rel => exact ⟨i + 1, S2, (dWrite E y.f1 y.f3 y.f4).2, rfl, by omega, by omega, ⟨by rw [show (i + 1).toNat = i.toNat + 1 by omega]; exact dk_mono DN.out (by omega)⟩, HNX⟩
              by_cases hk1 : y.f0 = 1
              · have HNX := Aside0.mk (show Has (dCut E y.f1 y.f3).2 x.f1 x.f4 from has_cut HHs.out HDc.out.2.2.2 hny _)
                have ct0 : (y.f0 == 0) = false := by simp; omega
                have ct1 : (y.f0 == 1) = true := by simp; omega
                clear hn3 hny hk0 hk1
                go_wp2_with fail
                refine (dk_cut (s := y.f1) (z := y.f3) HDc.out (by omega) HYD.out.name).mono ?_
                rintro e x2 ⟨rfl, S2, d2, _, _⟩
                have DN := Aside0.mk d2
                clear d2
                go_wp2_with fail
                go_roundg (gk - 1)
                case measure => omega
                case rel => exact ⟨i + 1, S2, (dCut E y.f1 y.f3).2, rfl, by omega, by omega, ⟨by rw [show (i + 1).toNat = i.toNat + 1 by omega]; exact dk_mono DN.out (by omega)⟩, HNX⟩
              by_cases hk2 : y.f0 = 2
              · have HNX := Aside0.mk (show Has (dSync E y.f1).2 x.f1 x.f4 from has_sync HHs.out HDc.out.2.2.2 hny)
                have ct0 : (y.f0 == 0) = false := by simp; omega
                have ct1 : (y.f0 == 1) = false := by simp; omega
                have ct2 : (y.f0 == 2) = true := by simp; omega
                clear hn3 hny hk0 hk1 hk2
                go_wp2_with fail
                refine (dk_sync (s := y.f1) HDc.out (by omega) HYD.out.name).mono ?_
                rintro e x2 ⟨rfl, S2, d2, _, _⟩
                have DN := Aside0.mk d2
                clear d2
                go_wp2_with fail
                go_roundg (gk - 1)
                case measure => omega
                case rel => exact ⟨i + 1, S2, (dSync E y.f1).2, rfl, by omega, by omega, ⟨by rw [show (i + 1).toNat = i.toNat + 1 by omega]; exact dk_mono DN.out (by omega)⟩, HNX⟩
              by_cases hk3 : y.f0 = 3
              · have HNX := Aside0.mk (show Has (dRename E y.f1 y.f2).2 x.f1 x.f4 from has_rename HHs.out HDc.out.2.2.2 hny (hn3 hk3))
                have ct0 : (y.f0 == 0) = false := by simp; omega
                have ct1 : (y.f0 == 1) = false := by simp; omega
                have ct2 : (y.f0 == 2) = false := by simp; omega
                have ct3 : (y.f0 == 3) = true := by simp; omega
                clear hn3 hny hk0 hk1 hk2 hk3
                go_wp2_with fail
                refine (dk_rename (s := y.f1) (t := y.f2) HDc.out HYD.out.name HYD.out.to_).mono ?_
                rintro e x2 ⟨rfl, S2, d2, _, _⟩
                have DN := Aside0.mk d2
                clear d2
                go_wp2_with fail
                go_roundg (gk - 1)
                case measure => omega
                case rel => exact ⟨i + 1, S2, (dRename E y.f1 y.f2).2, rfl, by omega, by omega, ⟨by rw [show (i + 1).toNat = i.toNat + 1 by omega]; exact dk_mono DN.out (by omega)⟩, HNX⟩
              by_cases hk4 : y.f0 = 4
              · have HNX := Aside0.mk (show Has (dRemove E y.f1).2 x.f1 x.f4 from has_remove HHs.out HDc.out.2.2.2 hny)
                have ct0 : (y.f0 == 0) = false := by simp; omega
                have ct1 : (y.f0 == 1) = false := by simp; omega
                have ct2 : (y.f0 == 2) = false := by simp; omega
                have ct3 : (y.f0 == 3) = false := by simp; omega
                have ct4 : (y.f0 == 4) = true := by simp; omega
                clear hn3 hny hk0 hk1 hk2 hk3 hk4
                go_wp2_with fail
                refine (dk_remove (s := y.f1) HDc.out HYD.out.name).mono ?_
                rintro e x2 ⟨rfl, S2, d2, _, _⟩
                have DN := Aside0.mk d2
                clear d2
                go_wp2_with fail
                go_roundg (gk - 1)
                case measure => omega
                case rel => exact ⟨i + 1, S2, (dRemove E y.f1).2, rfl, by omega, by omega, ⟨by rw [show (i + 1).toNat = i.toNat + 1 by omega]; exact dk_mono DN.out (by omega)⟩, HNX⟩
              by_cases hk5 : y.f0 = 5
              · have HNX := Aside0.mk (show Has (dCrash E y.f5) x.f1 x.f4 from has_crash HHs.out _)
                have ct0 : (y.f0 == 0) = false := by simp; omega
                have ct1 : (y.f0 == 1) = false := by simp; omega
                have ct2 : (y.f0 == 2) = false := by simp; omega
                have ct3 : (y.f0 == 3) = false := by simp; omega
                have ct4 : (y.f0 == 4) = false := by simp; omega
                have ct5 : (y.f0 == 5) = true := by simp; omega
                clear hn3 hny hk0 hk1 hk2 hk3 hk4 hk5
                go_wp2_with fail
                refine (dk_crash (keep := y.f5) HDc.out (by omega) (Kd.C_below HY.out.C5 HDc.out.1) (dk_argS HDc.out HY.out.C5) (fun z hz => (HYD.out.keep.2 z hz).2)).mono ?_
                rintro e x2 ⟨rfl, S2, d2, _, _⟩
                have DN := Aside0.mk d2
                clear d2
                go_wp2_with fail
                go_roundg (gk - 1)
                case measure => omega
                case rel => exact ⟨i + 1, S2, (dCrash E y.f5), rfl, by omega, by omega, ⟨by rw [show (i + 1).toNat = i.toNat + 1 by omega]; exact dk_mono DN.out (by omega)⟩, HNX⟩
              have ct0 : (y.f0 == 0) = false := by simp; omega
              have ct1 : (y.f0 == 1) = false := by simp; omega
              have ct2 : (y.f0 == 2) = false := by simp; omega
              have ct3 : (y.f0 == 3) = false := by simp; omega
              have ct4 : (y.f0 == 4) = false := by simp; omega
              have ct5 : (y.f0 == 5) = false := by simp; omega
              clear hn3 hny hk0 hk1 hk2 hk3 hk4 hk5
              go_wp2_with fail
              go_roundg (gk - 1)
              case measure => omega
              case rel => exact ⟨i + 1, S, E, rfl, by omega, by omega, ⟨by rw [show (i + 1).toNat = i.toNat + 1 by omega]; exact dk_mono HDc.out (by omega)⟩, HHs⟩
        · have hI : ¬ (i < (more.length : Int)) ∨ (i < (more.length : Int) ∧ ¬ (i < 200)) := by omega
          have HIN := Aside0.mk hi
          clear hi
          have m0 : wr.cell? ⟨W.heap.size, 0, none⟩ = some (.int .i64 x.f0) := blk_cell ((HDr.out.1.block W.heap.size (blk_lt HBK.out)).trans HBK.out) 0
          have m1 : wr.cell? ⟨W.heap.size, 1, none⟩ = some (.string x.f1) := blk_cell ((HDr.out.1.block W.heap.size (blk_lt HBK.out)).trans HBK.out) 1
          have m2 : wr.cell? ⟨W.heap.size, 2, none⟩ = some (.string x.f2) := blk_cell ((HDr.out.1.block W.heap.size (blk_lt HBK.out)).trans HBK.out) 2
          have m3 : wr.cell? ⟨W.heap.size, 3, none⟩ = some (.int .i64 x.f3) := blk_cell ((HDr.out.1.block W.heap.size (blk_lt HBK.out)).trans HBK.out) 3
          have m4 : wr.cell? ⟨W.heap.size, 4, none⟩ = some (.slice A4 x.f4.length c4) := blk_cell ((HDr.out.1.block W.heap.size (blk_lt HBK.out)).trans HBK.out) 4
          have m5 : wr.cell? ⟨W.heap.size, 5, none⟩ = some (.slice A5 x.f5.length c5) := blk_cell ((HDr.out.1.block W.heap.size (blk_lt HBK.out)).trans HBK.out) 5
          rcases hI with q1 | ⟨q1, q2⟩
          · have c6 : decide (i < (more.length : Int)) = false := decide_eq_false q1
            go_wp2_with fail
            refine (dk_crash (keep := x.f5) HDr.out (by omega) (Kd.C_below HC5.out HDr.out.1) (dk_argS HDr.out HC5.out) (fun z hz => (HX.out.keep.2 z hz).2)).mono ?_
            rintro e x2 ⟨rfl, S2, d2, _, _⟩
            have DN := Aside0.mk d2
            clear d2 m0 m1 m2 m3 m4 m5
            have bk_x2 := (DN.out.1.block W.heap.size (blk_lt HBK.out)).trans HBK.out
            have m0 : x2.cell? ⟨W.heap.size, 0, none⟩ = some (.int .i64 x.f0) := blk_cell bk_x2 0
            have m1 : x2.cell? ⟨W.heap.size, 1, none⟩ = some (.string x.f1) := blk_cell bk_x2 1
            have m2 : x2.cell? ⟨W.heap.size, 2, none⟩ = some (.string x.f2) := blk_cell bk_x2 2
            have m3 : x2.cell? ⟨W.heap.size, 3, none⟩ = some (.int .i64 x.f3) := blk_cell bk_x2 3
            have m4 : x2.cell? ⟨W.heap.size, 4, none⟩ = some (.slice A4 x.f4.length c4) := blk_cell bk_x2 4
            have m5 : x2.cell? ⟨W.heap.size, 5, none⟩ = some (.slice A5 x.f5.length c5) := blk_cell bk_x2 5
            clear bk_x2
            go_wp2_with fail
            refine (dk_read (s := x.f1) DN.out (by omega) HX.out.name).mono ?_
            rintro e x3 ⟨B1, b1, rfl, hs1, hx1⟩
            have hrd := has_read (has_crash HHs.out x.f5)
            rw [hrd] at hs1 ⊢
            have HS1 := Aside0.mk hs1
            have HD3' := Aside0.mk (DN.out.step hx1)
            clear hs1 hx1 hrd m0 m1 m2 m3 m4 m5
            go_wp2_with fail
            refine (live_calls _).mono ?_
            rintro e x4 ⟨rfl, hx4⟩
            have HD4' := Aside0.mk (HD3'.out.step hx4)
            have hcs1 : (convert 22 9 (.slice B1 x.f4.length b1)).run Try.prog x4 = .ok (.string (strOfNums x.f4)) x4 := Kd.C_string Try.underlying22 Try.underlying5 Try.underlying9 (Kd.C_below (Kd.R_reads' HS1.out).2.2 hx4)
            have hcs2 : (convert 22 9 (.slice A4 x.f4.length c4)).run Try.prog x4 = .ok (.string (strOfNums x.f4)) x4 := Kd.C_string Try.underlying22 Try.underlying5 Try.underlying9 (Kd.C_below HC4.out HD4'.out.1)
            clear hx4
            have bk_x4 := (HD4'.out.1.block W.heap.size (blk_lt HBK.out)).trans HBK.out
            have m0 : x4.cell? ⟨W.heap.size, 0, none⟩ = some (.int .i64 x.f0) := blk_cell bk_x4 0
            have m1 : x4.cell? ⟨W.heap.size, 1, none⟩ = some (.string x.f1) := blk_cell bk_x4 1
            have m2 : x4.cell? ⟨W.heap.size, 2, none⟩ = some (.string x.f2) := blk_cell bk_x4 2
            have m3 : x4.cell? ⟨W.heap.size, 3, none⟩ = some (.int .i64 x.f3) := blk_cell bk_x4 3
            have m4 : x4.cell? ⟨W.heap.size, 4, none⟩ = some (.slice A4 x.f4.length c4) := blk_cell bk_x4 4
            have m5 : x4.cell? ⟨W.heap.size, 5, none⟩ = some (.slice A5 x.f5.length c5) := blk_cell bk_x4 5
            clear bk_x4
            go_wp2_with fail
            go_ret
            exact ⟨rfl, below_step HB1.out HD4'.out.1⟩
          · have c6 : decide (i < (more.length : Int)) = true := decide_eq_true q1
            have c7 : decide (i < 200) = false := decide_eq_false q2
            go_wp2_with fail
            refine (dk_crash (keep := x.f5) HDr.out (by omega) (Kd.C_below HC5.out HDr.out.1) (dk_argS HDr.out HC5.out) (fun z hz => (HX.out.keep.2 z hz).2)).mono ?_
            rintro e x2 ⟨rfl, S2, d2, _, _⟩
            have DN := Aside0.mk d2
            clear d2 m0 m1 m2 m3 m4 m5
            have bk_x2 := (DN.out.1.block W.heap.size (blk_lt HBK.out)).trans HBK.out
            have m0 : x2.cell? ⟨W.heap.size, 0, none⟩ = some (.int .i64 x.f0) := blk_cell bk_x2 0
            have m1 : x2.cell? ⟨W.heap.size, 1, none⟩ = some (.string x.f1) := blk_cell bk_x2 1
            have m2 : x2.cell? ⟨W.heap.size, 2, none⟩ = some (.string x.f2) := blk_cell bk_x2 2
            have m3 : x2.cell? ⟨W.heap.size, 3, none⟩ = some (.int .i64 x.f3) := blk_cell bk_x2 3
            have m4 : x2.cell? ⟨W.heap.size, 4, none⟩ = some (.slice A4 x.f4.length c4) := blk_cell bk_x2 4
            have m5 : x2.cell? ⟨W.heap.size, 5, none⟩ = some (.slice A5 x.f5.length c5) := blk_cell bk_x2 5
            clear bk_x2
            go_wp2_with fail
            refine (dk_read (s := x.f1) DN.out (by omega) HX.out.name).mono ?_
            rintro e x3 ⟨B1, b1, rfl, hs1, hx1⟩
            have hrd := has_read (has_crash HHs.out x.f5)
            rw [hrd] at hs1 ⊢
            have HS1 := Aside0.mk hs1
            have HD3' := Aside0.mk (DN.out.step hx1)
            clear hs1 hx1 hrd m0 m1 m2 m3 m4 m5
            go_wp2_with fail
            refine (live_calls _).mono ?_
            rintro e x4 ⟨rfl, hx4⟩
            have HD4' := Aside0.mk (HD3'.out.step hx4)
            have hcs1 : (convert 22 9 (.slice B1 x.f4.length b1)).run Try.prog x4 = .ok (.string (strOfNums x.f4)) x4 := Kd.C_string Try.underlying22 Try.underlying5 Try.underlying9 (Kd.C_below (Kd.R_reads' HS1.out).2.2 hx4)
            have hcs2 : (convert 22 9 (.slice A4 x.f4.length c4)).run Try.prog x4 = .ok (.string (strOfNums x.f4)) x4 := Kd.C_string Try.underlying22 Try.underlying5 Try.underlying9 (Kd.C_below HC4.out HD4'.out.1)
            clear hx4
            have bk_x4 := (HD4'.out.1.block W.heap.size (blk_lt HBK.out)).trans HBK.out
            have m0 : x4.cell? ⟨W.heap.size, 0, none⟩ = some (.int .i64 x.f0) := blk_cell bk_x4 0
            have m1 : x4.cell? ⟨W.heap.size, 1, none⟩ = some (.string x.f1) := blk_cell bk_x4 1
            have m2 : x4.cell? ⟨W.heap.size, 2, none⟩ = some (.string x.f2) := blk_cell bk_x4 2
            have m3 : x4.cell? ⟨W.heap.size, 3, none⟩ = some (.int .i64 x.f3) := blk_cell bk_x4 3
            have m4 : x4.cell? ⟨W.heap.size, 4, none⟩ = some (.slice A4 x.f4.length c4) := blk_cell bk_x4 4
            have m5 : x4.cell? ⟨W.heap.size, 5, none⟩ = some (.slice A5 x.f5.length c5) := blk_cell bk_x4 5
            clear bk_x4
            go_wp2_with fail
            go_ret
            exact ⟨rfl, below_step HB1.out HD4'.out.1⟩
    · have hce : (E == 0) = false := by simpa using he
      go_wp2_with fail
      refine (live_calls _).mono ?_
      rintro e w9 ⟨rfl, hb9⟩
      go_wp2_with fail
      go_ret
      exact ⟨rfl, below_step HB1.out (below_step D5.out.1 hb9)⟩
end Go.Proofs.Ytmmiipnmimjojaa.PS
