/- law 05's play: a script on both. -/
import Derived.Test.YtmmiipnmimjojaaP2
import Derived.Test.YtmmiipnmimjojaaP3
import Derived.Test.YtmmiipnmimjojaaPSx22
namespace Go.Proofs.Ytmmiipnmimjojaa.PS
open Go.RowKit Go.Proofs.YtmmiipnmimjojaaW.PrintWords Go.Proofs.YtmmiipnmimjojaaW.PrintLast Go.Proofs.YtmmiipnmimjojaaW.PrintMore
open Go.Maps Go.Proofs.Ytmmiipnmimjojaa.PD
set_option linter.unusedVariables false
set_option linter.unusedSimpArgs false
def shortB (x : S58) : Bool := decide (x.f4.length ≤ 4000) && decide (x.f5.length ≤ 100)
/-- A deed of a script, as it is read. -/
structure DeedR (W : World) (ad : Addr) (i : Int) (x : S58) (A4 : Option Addr) (c4 : Nat) (A5 : Option Addr) (c5 : Nat) : Prop where
  n0 : W.cell? (ad.add (i.toNat * 6)) = some (.int .i64 x.f0)
  n1 : W.cell? ⟨(ad.add (i.toNat * 6)).block, (ad.add (i.toNat * 6)).off + 1, none⟩ = some (.string x.f1)
  n2 : W.cell? ⟨(ad.add (i.toNat * 6)).block, (ad.add (i.toNat * 6)).off + 2, none⟩ = some (.string x.f2)
  n3 : W.cell? ⟨(ad.add (i.toNat * 6)).block, (ad.add (i.toNat * 6)).off + 3, none⟩ = some (.int .i64 x.f3)
  n4 : W.cell? ⟨(ad.add (i.toNat * 6)).block, (ad.add (i.toNat * 6)).off + 4, none⟩ = some (.slice A4 x.f4.length c4)
  n5 : W.cell? ⟨(ad.add (i.toNat * 6)).block, (ad.add (i.toNat * 6)).off + 5, none⟩ = some (.slice A5 x.f5.length c5)
  l4 : x.f4.length ≤ c4
  C4 : k8.C W A4 x.f4.length x.f4
  l5 : x.f5.length ≤ c5
  C5 : (Kd.int .i64).C W A5 x.f5.length x.f5
theorem DeedR.below {W W1 : World} {ad : Addr} {i : Int} {x : S58} {A4 A5 : Option Addr} {c4 c5 : Nat} (h : DeedR W ad i x A4 c4 A5 c5) (hb : Below W.heap.size W W1) : DeedR W1 ad i x A4 c4 A5 c5 :=
  ⟨(hb.cell (World.block_lt_of_cell? W _ h.n0)).trans h.n0, (hb.cell (World.block_lt_of_cell? W _ h.n1)).trans h.n1, (hb.cell (World.block_lt_of_cell? W _ h.n2)).trans h.n2, (hb.cell (World.block_lt_of_cell? W _ h.n3)).trans h.n3,
    (hb.cell (World.block_lt_of_cell? W _ h.n4)).trans h.n4, (hb.cell (World.block_lt_of_cell? W _ h.n5)).trans h.n5, h.l4, Kd.C_below h.C4 hb, h.l5, Kd.C_below h.C5 hb⟩
theorem deedR_of {W : World} {A : Option Addr} {l : List S58} {i : Int} (h : Kd.C k58 W A l.length l) (h0 : 0 ≤ i) (h1 : i < (l.length : Int)) : ∃ ad x A4 c4 A5 c5, A = some ad ∧ x ∈ l ∧ DeedR W ad i x A4 c4 A5 c5 := by
  obtain ⟨ad, A4, c4, A5, c5, e, x0, x1, x2, x3, x4, x5, l4, C4, l5, C5⟩ := at_T58 h i h0 h1
  refine ⟨ad, rd_T58 l i, A4, c4, A5, c5, e, ?_, ⟨x0, x1, x2, x3, x4, x5, l4, C4, l5, C5⟩⟩
  unfold rd_T58
  rw [List.getD_eq_getElem?_getD, List.getElem?_eq_getElem (by omega)]
  exact List.getElem_mem _
theorem short_f (x : S58) : tollgatelaw05_short.f x.f0 x.f1 x.f2 x.f3 x.f4 x.f5 = some (shortB x) := by
  unfold tollgatelaw05_short.f shortB
  by_cases h : x.f4.length ≤ 4000
  · rw [if_pos (by omega), decide_eq_true h]
    by_cases h2 : x.f5.length ≤ 100
    · rw [decide_eq_true h2, decide_eq_true (by omega)]; rfl
    · rw [decide_eq_false h2, decide_eq_false (by omega)]; rfl
  · rw [if_neg (by omega), decide_eq_false h]; rfl
theorem short_calls {W w : World} {ad : Addr} {i : Int} {x : S58} {A4 A5 : Option Addr} {c4 c5 : Nat} (h : DeedR W ad i x A4 c4 A5 c5) (hb : Below W.heap.size W w) :
    Calls Try.prog 33 #[.agg #[.int .i64 x.f0, .string x.f1, .string x.f2, .int .i64 x.f3, .slice A4 x.f4.length c4, .slice A5 x.f5.length c5]] w fun e w' => e = .returned (.bool (shortB x)) ∧ Below w.heap.size w w' :=
  tollgatelaw05_short.calls x.f0 x.f1 x.f2 x.f3 A4 c4 x.f4 A5 c5 x.f5 (shortB x) w (Kd.C_below h.C4 hb) h.l4 (Kd.C_below h.C5 hb) h.l5 (short_f x)
/-- Both at the beginning. -/
def NewP (z : Int) (W : World) (g : Nat) (w1 : World) (e : Ending) (w' : World) : Prop := ∃ r S R, e = .returned (.pointer (some ⟨r, 0, none⟩)) ∧ Pr W w' S R g r 0 ⟨max 0 z, []⟩ (max 0 z) (refL [])
theorem both_new {z : Int} {W w1 : World} {S : Nat → Prop} {g : Nat} (h : Dk W w1 S g 0 ⟨max 0 z, []⟩) : Calls Try.prog 36 #[.int .i64 z] w1 (NewP z W g w1) := by
  refine (rnew_calls z w1).mono ?_
  rintro e w' ⟨r, R, he, hr, hb, hR⟩
  have h1 := h.1.size
  exact ⟨r, S, R, he, ⟨h.step hb, hr, fun k hk => by have := hR k hk; omega, fun k hk hS => by have := hR k hk; have := (h.2.1 k hS).2; omega⟩⟩
/-- The deed, as do asks for it. -/
theorem do_deed {W0 w : World} {S R : Nat → Prop} {g r N : Nat} {D : Dsk} {ad : Addr} {i : Int} {x : S58} {A4 A5 : Option Addr} {c4 c5 : Nat} (h : Pr W0 w S R g r N D D.room (refL D.files)) (hN : N ≤ 900000) (hx : Deed5 x) (hr : DeedR W0 ad i x A4 c4 A5 c5) (hs : shortB x = true) :
    Calls Try.prog 37 #[.pointer (some ⟨g, 0, none⟩), .pointer (some ⟨r, 0, none⟩), .agg #[.int .i64 x.f0, .string x.f1, .string x.f2, .int .i64 x.f3, .slice A4 x.f4.length c4, .slice A5 x.f5.length c5]] w (DoP W0 w S R g r N D x) := by
  unfold shortB at hs
  have h4 : x.f4.length ≤ 4000 := by simp at hs; exact hs.1
  exact do_calls h hN hx.name hx.to_ hx.at_ h4 (fun z hz => (hx.keep.2 z hz).2) hr.C4 hr.l4 hr.C5
def PlayP (z : Int) (W : World) (e : Ending) (w' : World) : Prop := ∃ g r S R N D, e = .returned (.tuple #[.pointer (some ⟨g, 0, none⟩), .pointer (some ⟨r, 0, none⟩), .bool true]) ∧ N ≤ 200 ∧ D.room = max 0 z ∧ Pr W w' S R g r N D D.room (refL D.files)
set_option maxHeartbeats 4000000 in
set_option maxRecDepth 100000 in
theorem play_calls {W : World} {z : Int} {A : Option Addr} {c : Nat} {l : List S58} (hA : Kd.C k58 W A l.length l) (hc : l.length ≤ c) (hl : Script l) (hz : z ≤ 9223372036854775807) :
    Calls Try.prog 32 #[.int .i64 z, .slice A l.length c] W (PlayP z W) := by
  have HA := Aside0.mk hA
  have HL := Aside0.mk hl
  have hll := hl.1
  clear hA hl
  go_enter Try.func32, Try.ntmps32
  go_wp2_with fail
  refine (dk_new z hz W).mono ?_
  rintro e w1 ⟨g, S0, rfl, d1⟩
  have D1 := Aside0.mk d1
  clear d1
  go_wp2_with fail
  refine (both_new D1.out).mono ?_
  rintro e w2 ⟨r, S1, R1, rfl, p2⟩
  have P2 := Aside0.mk p2
  clear p2
  go_wp2_with fail
  go_loopg [9] (min l.length 200) (fun kq v9 w' => ∃ (i : Int) (S R : Nat → Prop) (D : Dsk), v9 = .int .i64 i ∧ 0 ≤ i ∧ i + kq = ((min l.length 200 : Nat) : Int) ∧ Aside0 (D.room = max 0 z) ∧ Aside0 (Pr W w' S R g r i.toNat D D.room (refL D.files)))
  case atStart => exact ⟨0, S1, R1, ⟨max 0 z, []⟩, rfl, by omega, by omega, ⟨rfl⟩, P2⟩
  case round =>
    obtain ⟨i, S, R, D, rfl, i0, i1, HRM, HP⟩ := hrel
    by_cases hi : i < ((min l.length 200 : Nat) : Int)
    · have q1 : i < (l.length : Int) := by omega
      have q2 : i < 200 := by omega
      have c6 : decide (i < (l.length : Int)) = true := decide_eq_true q1
      have c7 : decide (i < 200) = true := decide_eq_true q2
      obtain ⟨ad, x, A4, c4, A5, c5, rfl, hxl, hx⟩ := deedR_of HA.out i0 q1
      have hx' := hx.below HP.out.dk.1
      have n0 := hx'.n0
      have n1 := hx'.n1
      have n2 := hx'.n2
      have n3 := hx'.n3
      have n4 := hx'.n4
      have n5 := hx'.n5
      have p0 := eq_true i0
      have p1 := eq_true q1
      have hni : IntKind.i64.wrap (i + 1) = i + 1 := IntWalk.i64_in _ ⟨by omega, by omega⟩
      have HX := Aside0.mk hx
      have HX5 := Aside0.mk (HL.out.2 x hxl)
      have HI := Aside0.mk hi
      clear hx hx' hxl hi
      go_wp2_with fail
      refine (short_calls HX.out HP.out.dk.1).mono ?_
      rintro e w3 ⟨rfl, hb3⟩
      have HP3 := Aside0.mk (HP.out.below hb3)
      have n0 := (hb3.cell (World.block_lt_of_cell? wr _ n0)).trans n0
      have n1 := (hb3.cell (World.block_lt_of_cell? wr _ n1)).trans n1
      have n2 := (hb3.cell (World.block_lt_of_cell? wr _ n2)).trans n2
      have n3 := (hb3.cell (World.block_lt_of_cell? wr _ n3)).trans n3
      have n4 := (hb3.cell (World.block_lt_of_cell? wr _ n4)).trans n4
      have n5 := (hb3.cell (World.block_lt_of_cell? wr _ n5)).trans n5
      clear hb3 HP
      cases hsx : shortB x with
      | false =>
        go_wp2_with fail
        go_roundg (gk - 1)
        case measure => omega
        case rel => exact ⟨i + 1, S, R, D, rfl, by omega, by omega, HRM, ⟨HP3.out.mono (by omega)⟩⟩
      | true =>
        have HSX := Aside0.mk hsx
        clear hsx
        go_wp2_with fail
        refine (do_deed HP3.out (by omega) HX5.out HX.out HSX.out).mono ?_
        rintro e w4 ⟨rfl, S4, R4, hp4, hf4⟩
        have HP4 := Aside0.mk hp4
        clear hp4 hf4
        go_wp2_with fail
        go_roundg (gk - 1)
        case measure => omega
        case rel => exact ⟨i + 1, S4, R4, dDo D x, rfl, by omega, by omega, ⟨by rw [room_do]; exact HRM.out⟩, ⟨by rw [room_do, show (i + 1).toNat = i.toNat + 1 by omega]; exact HP4.out⟩⟩
    · have hI : ¬ (i < (l.length : Int)) ∨ (i < (l.length : Int) ∧ ¬ (i < 200)) := by omega
      rcases hI with q1 | ⟨q1, q2⟩
      · have c6 : decide (i < (l.length : Int)) = false := decide_eq_false q1
        have HI := Aside0.mk hi
        clear hi
        go_wp2_with fail
        go_ret3
        exact ⟨g, r, S, R, i.toNat, D, rfl, by omega, HRM.out, HP.out⟩
      · have c6 : decide (i < (l.length : Int)) = true := decide_eq_true q1
        have c7 : decide (i < 200) = false := decide_eq_false q2
        have HI := Aside0.mk hi
        clear hi
        go_wp2_with fail
        go_ret3
        exact ⟨g, r, S, R, i.toNat, D, rfl, by omega, HRM.out, HP.out⟩
end Go.Proofs.Ytmmiipnmimjojaa.PS
