/- The law's texts and its row. -/
import Derived.Test.YtmmiipnmimjojaaJ18
import Derived.Test.YtmmiipnmimjojaaRows
import Derived.WalkKit
import Derived.ProofKit
import Derived.OpenShut
import Derived.ShutString
import Derived.ChangeOld
import Derived.Below
import Derived.SizedLaws
section
namespace Go.Proofs.Ytmmiipnmimjojaa.PS
open Go.RowKit Go.Proofs.YtmmiipnmimjojaaW.PrintWords Go.Proofs.YtmmiipnmimjojaaW.PrintLast Go.Proofs.YtmmiipnmimjojaaW.PrintMore
open Go.Maps Go.Proofs.Ytmmiipnmimjojaa.PD
set_option linter.unusedVariables false
set_option linter.unusedSimpArgs false
section
variable {W w w1 w2 w3 : World} {S R S1 R1 : Nat → Prop} {g r g1 r1 N : Nat} {D : Dsk} {room : Int} {l : List S144}
theorem do_deedk {W0 w : World} {S R : Nat → Prop} {g r N : Nat} {D : Dsk} {ad : Addr} {i : Int} {x : S58} {A4 A5 : Option Addr} {c4 c5 : Nat} (h : Pr W0 w S R g r N D D.room (refL D.files)) (hN : N ≤ 900000) (hx : Deed5 x) (hr : DeedR W0 ad i x A4 c4 A5 c5) (hs : shortB x = true) :
    Calls Try.prog 37 #[.pointer (some ⟨g, 0, none⟩), .pointer (some ⟨r, 0, none⟩), .agg #[.int .i64 x.f0, .string x.f1, .string x.f2, .int .i64 x.f3, .slice A4 x.f4.length c4, .slice A5 x.f5.length c5]] w (DoPk W0 w S R g r N D x) := by
  unfold shortB at hs
  have h4 : x.f4.length ≤ 4000 := by simp at hs; exact hs.1
  exact do_callsk h hN hx.name hx.to_ hx.at_ h4 (fun z hz => (hx.keep.2 z hz).2) hr.C4 hr.l4 hr.C5
/-- A pair stays what it is where its blocks stay. -/
theorem Pr.stay (h : Pr W w S R g r N D room l) (hb : Below W.heap.size W w1) (hm : ∀ k, S k ∨ R k → w1.heap[k]? = w.heap[k]?) : Pr W w1 S R g r N D room l := by
  have hlt : ∀ k, S k ∨ R k → k < w1.heap.size := fun k hk => by
    have h1 : k < w.heap.size := hk.elim (fun h' => (h.dk.2.1 k h').2) (fun h' => h.rf.lt k h')
    exact blk_lt ((hm k hk).trans (Array.getElem?_eq_getElem h1))
  obtain ⟨hown, hl, A, c, hh, hv⟩ := h.rf
  exact ⟨⟨hb, fun k hk => ⟨(h.dk.2.1 k hk).1, hlt k (.inl hk)⟩, h.dk.2.2.1.step (fun _ _ hk => hk) (fun k _ hk => hm k (.inl hk)), h.dk.2.2.2⟩, ⟨hown, fun k hk => hlt k (.inr hk), A, c, (hm r (.inr hown)).trans hh, Kd.V_step hv (fun k hk _ => hm k (.inr hk.1))⟩, h.new, h.dis⟩
/-- The forks are a pair too, and no call of theirs writes a block of the first. -/
theorem forks_pair (h : Pr W w1 S R g r N D D.room (refL D.files)) (hroom : 0 ≤ D.room) (b2 : Below w1.heap.size w1 w2) (hd : DskAt w2 S1 g1 ⟨max 0 D.room, D.files⟩) (hS : ∀ k, S1 k → (w1.heap.size ≤ k ∧ k < w2.heap.size) ∨ RO w1 S k)
    (hr : RefAt w3 R1 r1 D.room (refL D.files)) (b3 : Below w2.heap.size w2 w3) (hr1 : w2.heap.size ≤ r1) (hR : ∀ k, R1 k → (R k ∧ k ≠ r) ∨ w2.heap.size ≤ k) :
    Pr W w3 S1 R1 g1 r1 N D D.room (refL D.files) ∧ ∀ k o, S k ∨ R k → w3.heap[k]? = some o → Bk w3 S1 r1 k o := by
  have s0 := h.dk.1.size
  have s2 := b2.size
  have s3 := b3.size
  have hD : (⟨max 0 D.room, D.files⟩ : Dsk) = D := by
    obtain ⟨a, b⟩ := D
    have h1 : max 0 a = a := by have : 0 ≤ a := hroom; omega
    show (⟨max 0 a, b⟩ : Dsk) = ⟨a, b⟩
    rw [h1]
  rw [hD] at hd
  have hSw : ∀ k, S k → k < w1.heap.size := fun k hk => (h.dk.2.1 k hk).2
  have hRw : ∀ k, R k → k < w1.heap.size := fun k hk => h.rf.lt k hk
  refine ⟨⟨⟨below_step (below_step h.dk.1 b2) b3, fun k hk => ?_, hd.below b3, h.dk.2.2.2⟩, hr, fun k hk => ?_, fun k hk hs => ?_⟩, fun k o hk ho => ⟨ho, fun hw => ?_, fun e => ?_⟩⟩
  · rcases hS k hk with h1 | h1
    · omega
    · have := h.dk.2.1 k h1.1; omega
  · rcases hR k hk with h1 | h1
    · exact h.new k h1.1
    · omega
  · rcases hR k hk with h1 | h1
    · rcases hS k hs with h2 | h2
      · have := hRw k h1.1; omega
      · exact h.dis k h1.1 h2.1
    · rcases hS k hs with h2 | h2
      · omega
      · have := hSw k h2.1; omega
  · rcases hS k hw.1 with h2 | h2
    · rcases hk with hk | hk
      · have := hSw k hk; omega
      · have := hRw k hk; omega
    · have hlt := hSw k h2.1
      exact hw.2 (h2.2.of_same ((b3.block k (by omega)).trans (b2.block k hlt)))
  · subst e
    rcases hk with hk | hk
    · have := hSw _ hk; omega
    · have := hRw _ hk; omega
end
set_option maxHeartbeats 4000000 in
set_option maxRecDepth 100000 in
theorem forks_calls {W : World} {A0 : Option Addr} {c0 : Nat} {l0 : List S58} {A : Option Addr} {c : Nat} {l : List S58} (hA0 : Kd.C k58 W A0 l0.length l0) (hc0 : l0.length ≤ c0) (hl0 : Script l0) (hA : Kd.C k58 W A l.length l) (hc : l.length ≤ c) (hl : Script l) :
    Calls Try.prog 11 #[.slice A0 l0.length c0, .slice A l.length c] W fun e w' => e = .returned (.bool true) ∧ Below W.heap.size W w' := by
  have HA0 := Aside0.mk hA0
  have HL0 := Aside0.mk hl0
  have HA := Aside0.mk hA
  have HL := Aside0.mk hl
  have hll := hl.1
  clear hA hl hA0 hl0
  go_enter Try.func11, Try.ntmps11
  go_wp2_with fail
  refine (play_calls (z := 3000) HA0.out hc0 HL0.out (by decide)).mono ?_
  rintro e w1 ⟨g, r, S, R, N, D, rfl, hN, hroom, p1⟩
  have HROOM := Aside0.mk (show 0 ≤ D.room from by rw [hroom]; omega)
  have P1 := Aside0.mk p1
  clear p1 hroom
  go_wp2_with fail
  refine (fork_calls P1.out.dk.2.2.1 (P1.out.dk.2.2.2.ok (by omega)) P1.out.dk.2.2.2.few).mono ?_
  rintro e w2 ⟨g1, S1, rfl, b2, hd, hS⟩
  have B2 := Aside0.mk b2
  have HD := Aside0.mk hd
  have HS := Aside0.mk hS
  clear b2 hd hS
  go_wp2_with fail
  refine (rfork_calls (P1.out.rf.below B2.out) (by have := P1.out.dk.2.2.2.few; simp only [refL, List.length_map]; omega)).mono ?_
  rintro e w3 ⟨r1, R1, rfl, hr, b3, hr1, hR⟩
  have HPF := Aside0.mk (forks_pair P1.out HROOM.out B2.out HD.out HS.out hr b3 hr1 hR)
  have P3 := Aside0.mk ((P1.out.below B2.out).below b3)
  clear hr b3 hr1 hR P1 B2 HD HS
  go_wp2_with fail
  go_loopg [10] (min l.length 100) (fun kq v10 w' => ∃ (i : Int) (S4 R4 : Nat → Prop) (D4 : Dsk), v10 = .int .i64 i ∧ 0 ≤ i ∧ i + kq = ((min l.length 100 : Nat) : Int) ∧ Aside0 (Pr W w' S4 R4 g1 r1 (N + i.toNat) D4 D4.room (refL D4.files)) ∧ Aside0 (∀ b o, Bk w3 S1 r1 b o → Bk w' S4 r1 b o))
  case atStart => exact ⟨0, S1, R1, D, rfl, by omega, by omega, ⟨HPF.out.1⟩, ⟨fun _ _ h => h⟩⟩
  case round =>
    obtain ⟨i, S4, R4, D4, rfl, i0, i1, HP, HF⟩ := hrel
    by_cases hi : i < ((min l.length 100 : Nat) : Int)
    · have q1 : i < (l.length : Int) := by omega
      have q2 : i < 100 := by omega
      have c6 : decide (i < (l.length : Int)) = true := decide_eq_true q1
      have c7 : decide (i < 100) = true := decide_eq_true q2
      obtain ⟨ad, x, A4, c4, A5, c5, rfl, hxl, hx⟩ := deedR_of HA.out i0 q1
      have hx' := hx.below HP.out.dk.1
      have n0 := hx'.n0
      have n1 := hx'.n1
      have n2 := hx'.n2
      have n3 := hx'.n3
      have n4 := hx'.n4
      have n5 := hx'.n5
      have p0 := eq_true i0
      have p1 := eq_true q1
      have hni : IntKind.i64.wrap (i + 1) = i + 1 := IntWalk.i64_in _ ⟨by omega, by omega⟩
      have HX := Aside0.mk hx
      have HX5 := Aside0.mk (HL.out.2 x hxl)
      have HI := Aside0.mk hi
      clear hx hx' hxl hi
      go_wp2_with fail
      refine (short_calls HX.out HP.out.dk.1).mono ?_
      rintro e w5 ⟨rfl, hb3⟩
      have HP5 := Aside0.mk (HP.out.below hb3)
      have HF5 := Aside0.mk (show ∀ b o, Bk w3 S1 r1 b o → Bk w5 S4 r1 b o from fun b o hb => (HF.out b o hb).below hb3)
      have n0 := (hb3.cell (World.block_lt_of_cell? wr _ n0)).trans n0
      have n1 := (hb3.cell (World.block_lt_of_cell? wr _ n1)).trans n1
      have n2 := (hb3.cell (World.block_lt_of_cell? wr _ n2)).trans n2
      have n3 := (hb3.cell (World.block_lt_of_cell? wr _ n3)).trans n3
      have n4 := (hb3.cell (World.block_lt_of_cell? wr _ n4)).trans n4
      have n5 := (hb3.cell (World.block_lt_of_cell? wr _ n5)).trans n5
      clear hb3 HP HF
      cases hsx : shortB x with
      | false =>
        go_wp2_with fail
        go_roundg (gk - 1)
        case measure => omega
        case rel => exact ⟨i + 1, S4, R4, D4, rfl, by omega, by omega, ⟨HP5.out.mono (by omega)⟩, HF5⟩
      | true =>
        have HSX := Aside0.mk hsx
        clear hsx
        go_wp2_with fail
        refine (do_deedk HP5.out (by omega) HX5.out HX.out HSX.out).mono ?_
        rintro e w6 ⟨rfl, S6, R6, hp6, hf6⟩
        have HP6 := Aside0.mk hp6
        have HF6 := Aside0.mk (show ∀ b o, Bk w3 S1 r1 b o → Bk w6 S6 r1 b o from fun b o hb => hf6 b o (HF5.out b o hb))
        clear hp6 hf6 HF5 HP5
        go_wp2_with fail
        go_roundg (gk - 1)
        case measure => omega
        case rel => exact ⟨i + 1, S6, R6, dDo D4 x, rfl, by omega, by omega, ⟨by rw [room_do, show N + (i + 1).toNat = N + i.toNat + 1 by omega]; exact HP6.out⟩, HF6⟩
    · have HPD := Aside0.mk (show Pr W wr S R g r N D D.room (refL D.files) from P3.out.stay HP.out.dk.1 (fun k hk => by
        have h1 : k < w3.heap.size := hk.elim (fun h' => (P3.out.dk.2.1 k h').2) (fun h' => P3.out.rf.lt k h')
        have h2 := Array.getElem?_eq_getElem (xs := w3.heap) h1
        exact (HF.out k _ (HPF.out.2 k _ hk h2)).at_.trans h2.symm))
      have hI : ¬ (i < (l.length : Int)) ∨ (i < (l.length : Int) ∧ ¬ (i < 100)) := by omega
      rcases hI with q1 | ⟨q1, q2⟩
      · have c6 : decide (i < (l.length : Int)) = false := decide_eq_false q1
        have HI := Aside0.mk hi
        clear hi
        go_wp2_with fail
        refine (live_calls _).mono ?_
        rintro e x3 ⟨rfl, hx3⟩
        have HQ3 := Aside0.mk (HP.out.below hx3)
        have HD3 := Aside0.mk (HPD.out.below hx3)
        clear hx3
        go_wp2_with fail
        refine (same_calls HD3.out (by omega)).mono ?_
        rintro e x4 ⟨rfl, hx4⟩
        have HQ4 := Aside0.mk (HQ3.out.below hx4)
        clear hx4
        go_wp2_with fail
        refine (same_calls HQ4.out (by omega)).mono ?_
        rintro e x5 ⟨rfl, hx5⟩
        have HQ5 := Aside0.mk (HQ4.out.below hx5)
        clear hx5
        go_wp2_with fail
        go_ret
        exact ⟨rfl, HQ5.out.dk.1⟩
      · have c6 : decide (i < (l.length : Int)) = true := decide_eq_true q1
        have c7 : decide (i < 100) = false := decide_eq_false q2
        have HI := Aside0.mk hi
        clear hi
        go_wp2_with fail
        refine (live_calls _).mono ?_
        rintro e x3 ⟨rfl, hx3⟩
        have HQ3 := Aside0.mk (HP.out.below hx3)
        have HD3 := Aside0.mk (HPD.out.below hx3)
        clear hx3
        go_wp2_with fail
        refine (same_calls HD3.out (by omega)).mono ?_
        rintro e x4 ⟨rfl, hx4⟩
        have HQ4 := Aside0.mk (HQ3.out.below hx4)
        clear hx4
        go_wp2_with fail
        refine (same_calls HQ4.out (by omega)).mono ?_
        rintro e x5 ⟨rfl, hx5⟩
        have HQ5 := Aside0.mk (HQ4.out.below hx5)
        clear hx5
        go_wp2_with fail
        go_ret
        exact ⟨rfl, HQ5.out.dk.1⟩
end Go.Proofs.Ytmmiipnmimjojaa.PS
end
section
namespace Go.Proofs.Ytmmiipnmimjojaa.PS
open Go.RowKit Go.Proofs.YtmmiipnmimjojaaW.PrintWords
set_option linter.unusedVariables false
theorem Pure.DiskForks_pure (l0 l : List S58) (g0 : l0.length * 96 ≤ reachBytes ∧ l0.length ≤ maxLen ∧ ∀ y ∈ l0, Good58 y) (g1 : l.length * 96 ≤ reachBytes ∧ l.length ≤ maxLen ∧ ∀ y ∈ l, Good58 y) : Script l0 ∧ Script l := ⟨script_of g0, script_of g1⟩
theorem tollgatelaw05_DiskForks.calls (A0 : Option Addr) (c0 : Nat) (l0 : List S58) (A : Option Addr) (c : Nat) (l : List S58) (_b : Bool) (W : World) (h0 : Kd.C k58 W A0 l0.length l0) (q0 : l0.length ≤ c0) (h1 : Kd.C k58 W A l.length l) (q1 : l.length ≤ c) (hp : Script l0 ∧ Script l) :
    Calls Try.prog 11 #[.slice A0 l0.length c0, .slice A l.length c] W fun e w' => e = .returned (.bool true) ∧ Below W.heap.size W w' := forks_calls h0 q0 hp.1 h1 q1 hp.2
end Go.Proofs.Ytmmiipnmimjojaa.PS
end
section
namespace Go.Proofs.Ytmmiipnmimjojaa.diskForks
open Go.ChangeShapes Go.WideShapes Go.ChangeAt Go.RowKit Go.Proofs.YtmmiipnmimjojaaW.PrintWords Go.Proofs.Ytmmiipnmimjojaa.OpenK Go.Proofs.Ytmmiipnmimjojaa.PS
open Go.ChangeMaps (open_string shut_string)
set_option linter.unusedVariables false
theorem own : ownKnob Try.prog.godebug = none := by kernel_rfl
theorem laidOut : laidOutB Try.prog = true := by kernel_rfl
set_option maxRecDepth 1000000 in
set_option maxHeartbeats 1000000 in
theorem contract (H : Type) (enc : TypeId × Value → H) (W : World) (base : Nat) (args : Array Value) (ds gs : List (DataW H)) (before : List MemPlace)
    (hval0 : ∀ (j : Nat) t v, Try.f11.params[j]? = some t → args[j]? = some v → Value.okWide Try.prog W .any base t v)
    (hW : DataW.Whole enc Try.prog Try.f11.params.toList Rows.diskForksSpec.vars false W args.toList ds gs before)
    (hsz0 : (DataW.weightsEach Try.prog (Try.f11.params.toList ++ Rows.diskForksSpec.plain.varTypes Try.prog) (ds ++ gs)).all (· ≤ reachBytes) = true) :
    Calls Try.prog 11 args W fun e W' => ∃ v, e = .returned v ∧ Rows.diskForksSpec.post enc Try.prog Try.f11 false true false false W args v W' := by
  have hsz : (DataW.weightsEach Try.prog (Try.f11.params.toList ++ Rows.diskForksSpec.plain.varTypes Try.prog) (ds ++ gs)).all (· ≤ reachBytes) = true := hsz0
  have hval : ∀ (j : Nat) t v, Try.f11.params[j]? = some t → args[j]? = some v → Value.okWide Try.prog W .any base t v := hval0
  have hW' := hW
  obtain ⟨p, q, hA0, hV, rfl, hfz, hnd⟩ := hW
  have hA : DataW.TrodAll enc Try.prog W 0 (fun _ => true) true Try.f11.params.toList args.toList ds p := hA0
  rw [Try.params11] at hA hval hsz
  obtain ⟨v0, vs0, d0, ds0, p0, q0, hargs, rfl, rfl, h0, r0⟩ := trodAll_cons hA
  obtain ⟨v1, vs1, d1, ds1, p1, q1, rfl, rfl, rfl, h1, r1⟩ := trodAll_cons r0
  obtain ⟨rfl, rfl, rfl⟩ := trodAll_nil r1
  obtain rfl : args = #[v0, v1] := by cases args; simp_all
  obtain ⟨rfl, rfl⟩ := trodVars_none hV
  have k0 := h0
  have lt0 : ∀ x ∈ p0, x.block < W.heap.size := by obtain ⟨m, hm⟩ := k0; exact DataW.trod_lt m _ _ _ hm
  have z0 := arg_sized hsz (j := 0) (t := 56) rfl rfl
  obtain ⟨a0, len0, cap0, rfl⟩ := okWide_slice Try.underlying56 (hval 0 56 v0 rfl rfl)
  obtain ⟨fuel0, hf0⟩ := h0
  obtain ⟨x0, ⟨A0, c0, e0, l0, C0⟩, g0, s0⟩ := (opens_slice (B := 96) Try.underlying56 opens58 (by kernel_rfl) (by kernel_rfl)).open_ hf0 z0
  have e0' : Value.slice a0 len0 cap0 = .slice A0 x0.length c0 := by simpa [Value.cells] using e0
  rw [e0']
  have k1 := h1
  have lt1 : ∀ x ∈ p1, x.block < W.heap.size := by obtain ⟨m, hm⟩ := k1; exact DataW.trod_lt m _ _ _ hm
  have z1 := arg_sized hsz (j := 1) (t := 56) rfl rfl
  obtain ⟨a1, len1, cap1, rfl⟩ := okWide_slice Try.underlying56 (hval 1 56 v1 rfl rfl)
  obtain ⟨fuel1, hf1⟩ := h1
  obtain ⟨x1, ⟨A1, c1, e1, l1, C1⟩, g1, s1⟩ := (opens_slice (B := 96) Try.underlying56 opens58 (by kernel_rfl) (by kernel_rfl)).open_ hf1 z1
  have e1' : Value.slice a1 len1 cap1 = .slice A1 x1.length c1 := by simpa [Value.cells] using e1
  rw [e1']
  clear hA0 hval0 hsz0 hsz
  have hp := Pure.DiskForks_pure x0 x1 g0 g1
  refine (PS.tollgatelaw05_DiskForks.calls A0 c0 x0 A1 c1 x1 true W C0 l0 C1 l1 hp).mono ?_
  rintro e W' ⟨rfl, hd⟩
  have bel : Below W.heap.size W W' := hd
  rw [← e0', ← e1']
  exact ⟨_, rfl, _, _, _, [], _, [], hW', trodAll_mk1 (shut_bool Try.underlying4 _), (trodAll_cons_mk (Below.trod laidOut (by kernel_rfl) (of_decide_eq_true (by kernel_rfl)) k0 bel lt0) (trodAll_cons_mk (Below.trod laidOut (by kernel_rfl) (of_decide_eq_true (by kernel_rfl)) k1 bel lt1) trodAll_mk0)), rfl, bel.frame _, fun h => by cases h⟩
set_option maxRecDepth 100000 in
theorem lifted (os : Os) (started : os.Started) (H : Type) (enc : TypeId × Value → H) :
    ReturnsInHanded {} Try.checked os 11 .any (Rows.diskForksSpec.pre6 enc Try.prog Try.f11 Rows.diskForksRow.domain false) (Rows.diskForksSpec.post enc Try.prog Try.f11 false true false false) := by
  refine returnsInHanded_of_change_sized (C := Try.checked) own started (by kernel_rfl) Try.func11
    (ChangeSpec.witness6 (enc := enc) (C := Try.checked) false ⟨#[], #[.slice none 0 0, .slice none 0 0], []⟩ 8 (by kernel_rfl) (by kernel_rfl) (by kernel_rfl) (by kernel_rfl)) ?_
  intro W base args ds gs before hval0 hW hcnd hsz0 _
  exact contract H enc W base args ds gs before hval0 hW hsz0
theorem over : Rows.diskForksRow.holds Try.pinned (OpenSpec.ofChange Rows.diskForksSpec) :=
  OpenClaim.holds_of_wide 11 Try.f11 rfl rfl rfl rfl rfl rfl rfl ⟨rfl, rfl, rfl, rfl, rfl⟩ rfl rfl rfl rfl rfl (by kernel_rfl) Try.func11 (by kernel_rfl)
    (of_decide_eq_true (by kernel_rfl)) (by unfold Func.isWrapper; first | (rw [if_pos (by decide +kernel)]; kernel_rfl) | (rw [if_neg (by decide +kernel)]; exact ⟨rfl, rfl⟩))
    (fun os started H enc _ => lifted os started H enc)
end Go.Proofs.Ytmmiipnmimjojaa.diskForks
namespace Go.Proofs.Ytmmiipnmimjojaa
theorem diskForks_holds : Rows.DiskForksSaid := diskForks.over
end Go.Proofs.Ytmmiipnmimjojaa
end
