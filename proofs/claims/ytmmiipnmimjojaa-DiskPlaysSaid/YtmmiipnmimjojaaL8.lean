/- DiskPlays. -/
import Derived.Test.YtmmiipnmimjojaaP4
import Derived.Test.YtmmiipnmimjojaaL1
namespace Go.Proofs.Ytmmiipnmimjojaa.PS
open Go.RowKit Go.Proofs.YtmmiipnmimjojaaW.PrintWords Go.Proofs.YtmmiipnmimjojaaW.PrintLast Go.Proofs.YtmmiipnmimjojaaW.PrintMore
open Go.Maps Go.Proofs.Ytmmiipnmimjojaa.PD
set_option linter.unusedVariables false
set_option linter.unusedSimpArgs false
set_option maxHeartbeats 4000000 in
set_option maxRecDepth 100000 in
theorem plays_calls {W : World} {z : Int} {A : Option Addr} {c : Nat} {l : List S58} (hA : Kd.C k58 W A l.length l) (hc : l.length ≤ c) (hl : Script l) (hz : z ≤ 9223372036854775807) :
    Calls Try.prog 8 #[.int .i64 z, .slice A l.length c] W fun e w' => e = .returned (.bool true) ∧ Below W.heap.size W w' := by
  have HA := Aside0.mk hA
  have HL := Aside0.mk hl
  have hll := hl.1
  clear hA hl
  go_enter Try.func8, Try.ntmps8
  go_wp2_with fail
  refine (dk_new z hz W).mono ?_
  rintro e w1 ⟨g, S0, rfl, d1⟩
  have D1 := Aside0.mk d1
  clear d1
  go_wp2_with fail
  refine (both_new D1.out).mono ?_
  rintro e w2 ⟨r, S1, R1, rfl, p2⟩
  have P2 := Aside0.mk p2
  clear p2
  go_wp2_with fail
  go_loopg [7] (min l.length 200) (fun kq v7 w' => ∃ (i : Int) (S R : Nat → Prop) (D : Dsk), v7 = .int .i64 i ∧ 0 ≤ i ∧ i + kq = ((min l.length 200 : Nat) : Int) ∧ Aside0 (D.room = max 0 z) ∧ Aside0 (Pr W w' S R g r i.toNat D D.room (refL D.files)))
  case atStart => exact ⟨0, S1, R1, ⟨max 0 z, []⟩, rfl, by omega, by omega, ⟨rfl⟩, P2⟩
  case round =>
    obtain ⟨i, S, R, D, rfl, i0, i1, HRM, HP⟩ := hrel
    by_cases hi : i < ((min l.length 200 : Nat) : Int)
    · have q1 : i < (l.length : Int) := by omega
      have q2 : i < 200 := by omega
      have c6 : decide (i < (l.length : Int)) = true := decide_eq_true q1
      have c7 : decide (i < 200) = true := decide_eq_true q2
      obtain ⟨ad, x, A4, c4, A5, c5, rfl, hxl, hx⟩ := deedR_of HA.out i0 q1
      have hx' := hx.below HP.out.dk.1
      have n0 := hx'.n0
      have n1 := hx'.n1
      have n2 := hx'.n2
      have n3 := hx'.n3
      have n4 := hx'.n4
      have n5 := hx'.n5
      have p0 := eq_true i0
      have p1 := eq_true q1
      have hni : IntKind.i64.wrap (i + 1) = i + 1 := IntWalk.i64_in _ ⟨by omega, by omega⟩
      have HX := Aside0.mk hx
      have HX5 := Aside0.mk (HL.out.2 x hxl)
      have HI := Aside0.mk hi
      clear hx hx' hxl hi
      go_wp2_with fail
      refine (short_calls HX.out HP.out.dk.1).mono ?_
      rintro e w3 ⟨rfl, hb3⟩
      have HP3 := Aside0.mk (HP.out.below hb3)
      have n0 := (hb3.cell (World.block_lt_of_cell? wr _ n0)).trans n0
      have n1 := (hb3.cell (World.block_lt_of_cell? wr _ n1)).trans n1
      have n2 := (hb3.cell (World.block_lt_of_cell? wr _ n2)).trans n2
      have n3 := (hb3.cell (World.block_lt_of_cell? wr _ n3)).trans n3
      have n4 := (hb3.cell (World.block_lt_of_cell? wr _ n4)).trans n4
      have n5 := (hb3.cell (World.block_lt_of_cell? wr _ n5)).trans n5
      clear hb3 HP
      cases hsx : shortB x with
      | false =>
        go_wp2_with fail
        go_roundg (gk - 1)
        case measure => omega
        case rel => exact ⟨i + 1, S, R, D, rfl, by omega, by omega, HRM, ⟨HP3.out.mono (by omega)⟩⟩
      | true =>
        have HSX := Aside0.mk hsx
        clear hsx
        go_wp2_with fail
        refine (do_deed HP3.out (by omega) HX5.out HX.out HSX.out).mono ?_
        rintro e w4 ⟨rfl, S4, R4, hp4, hf4⟩
        have HP4 := Aside0.mk hp4
        have n0 := (HX.out.below hp4.dk.1).n0
        have HD := Aside0.mk (room_do D x)
        clear hp4 hf4
        by_cases hk : x.f0 > 4
        · have ck : decide (x.f0 > 4) = true := decide_eq_true hk
          go_wp2_with fail
          refine (same_calls (by rw [HD.out]; exact HP4.out) (by omega)).mono ?_
          rintro e w5 ⟨rfl, hb5⟩
          have HP5 := Aside0.mk (HP4.out.below hb5)
          clear hb5
          go_wp2_with fail
          go_roundg (gk - 1)
          case measure => omega
          case rel => exact ⟨i + 1, S4, R4, dDo D x, rfl, by omega, by omega, ⟨by rw [room_do]; exact HRM.out⟩, ⟨by rw [room_do, show (i + 1).toNat = i.toNat + 1 by omega]; exact HP5.out⟩⟩
        · have ck : decide (x.f0 > 4) = false := decide_eq_false hk
          go_wp2_with fail
          go_roundg (gk - 1)
          case measure => omega
          case rel => exact ⟨i + 1, S4, R4, dDo D x, rfl, by omega, by omega, ⟨by rw [room_do]; exact HRM.out⟩, ⟨by rw [room_do, show (i + 1).toNat = i.toNat + 1 by omega]; exact HP4.out⟩⟩
    · have hI : ¬ (i < (l.length : Int)) ∨ (i < (l.length : Int) ∧ ¬ (i < 200)) := by omega
      rcases hI with q1 | ⟨q1, q2⟩
      · have c6 : decide (i < (l.length : Int)) = false := decide_eq_false q1
        have HI := Aside0.mk hi
        clear hi
        go_wp2_with fail
        refine (dk_read (s := lA) HP.out.dk (by omega) (by decide)).mono ?_
        rintro e x1 ⟨B1, d1, rfl, hs1, hx1⟩
        have HP1 := Aside0.mk (HP.out.below hx1)
        clear hs1 hx1
        go_wp2_with fail
        refine (rread_calls (s := lA) HP1.out.rf HP1.out.dk.2.2.2 (by omega)).mono ?_
        rintro e x2 ⟨B2, d2, rfl, hs2, hx2⟩
        have HP2 := Aside0.mk (HP1.out.below hx2)
        clear hs2 hx2
        go_wp2_with fail
        refine (live_calls _).mono ?_
        rintro e x3 ⟨rfl, hx3⟩
        have HP3 := Aside0.mk (HP2.out.below hx3)
        clear hx3
        go_wp2_with fail
        refine (same_calls HP3.out (by omega)).mono ?_
        rintro e x4 ⟨rfl, hx4⟩
        have HP4 := Aside0.mk (HP3.out.below hx4)
        clear hx4
        go_wp2_with fail
        go_ret
        exact ⟨rfl, HP4.out.dk.1⟩
      · have c6 : decide (i < (l.length : Int)) = true := decide_eq_true q1
        have c7 : decide (i < 200) = false := decide_eq_false q2
        have HI := Aside0.mk hi
        clear hi
        go_wp2_with fail
        refine (dk_read (s := lA) HP.out.dk (by omega) (by decide)).mono ?_
        rintro e x1 ⟨B1, d1, rfl, hs1, hx1⟩
        have HP1 := Aside0.mk (HP.out.below hx1)
        clear hs1 hx1
        go_wp2_with fail
        refine (rread_calls (s := lA) HP1.out.rf HP1.out.dk.2.2.2 (by omega)).mono ?_
        rintro e x2 ⟨B2, d2, rfl, hs2, hx2⟩
        have HP2 := Aside0.mk (HP1.out.below hx2)
        clear hs2 hx2
        go_wp2_with fail
        refine (live_calls _).mono ?_
        rintro e x3 ⟨rfl, hx3⟩
        have HP3 := Aside0.mk (HP2.out.below hx3)
        clear hx3
        go_wp2_with fail
        refine (same_calls HP3.out (by omega)).mono ?_
        rintro e x4 ⟨rfl, hx4⟩
        have HP4 := Aside0.mk (HP3.out.below hx4)
        clear hx4
        go_wp2_with fail
        go_ret
        exact ⟨rfl, HP4.out.dk.1⟩
end Go.Proofs.Ytmmiipnmimjojaa.PS
