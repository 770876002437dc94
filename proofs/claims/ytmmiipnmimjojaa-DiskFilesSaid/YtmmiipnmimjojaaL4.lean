/- DiskFiles. -/
import Derived.Test.YtmmiipnmimjojaaQ4
import Derived.Deep.QuietTactic
import Derived.BigQuiet
import Derived.WalkLawsBesides
namespace Go.Proofs.Ytmmiipnmimjojaa.PS
open Go.RowKit Go.Proofs.YtmmiipnmimjojaaW.PrintWords Go.Proofs.YtmmiipnmimjojaaW.PrintLast Go.Proofs.YtmmiipnmimjojaaW.PrintMore
open Go.Maps Go.Proofs.Ytmmiipnmimjojaa.PD
set_option linter.unusedVariables false
set_option linter.unusedSimpArgs false
theorem info9 : (Try.prog.info? 9).map (fun i => (i.zero, i.size, i.bytes)) = some (some (.string ByteArray.empty), 1, 16) := by kernel_rfl
theorem leq_no {x y : ByteArray} (h : nlt y.data.toList x.data.toList = true) : (Op.bytesLess x.toList y.toList || x.toList == y.toList) = false := by
  rw [beq_str, ByteArray.toList_eq, ByteArray.toList_eq, show Op.bytesLess x.data.toList y.data.toList = false from nlt_asymm h, decide_eq_false (fun e => nlt_ne h (by rw [e]))]
  rfl
theorem cellS {w : World} {ad : Addr} {n : Nat} {l : List ByteArray} (h : Kd.string.C w (some ad) n l) {i : Int} (h0 : 0 ≤ i) (h1 : i < n) : w.cell? (ad.add i.toNat) = some (.string (l.getD i.toNat ByteArray.empty)) := by
  obtain ⟨ad', c, e, _, hcs, hx0⟩ := Kd.C_get h ByteArray.empty i h0 h1
  cases e
  rw [show c = [.string (l.getD i.toNat ByteArray.empty)] from hcs] at hx0
  have := hx0 0 _ rfl
  rwa [Nat.add_zero, show i.toNat * Kd.string.sz = i.toNat from Nat.mul_one _] at this
theorem C_some {α : Type} {d : Kd α} {w : World} {A : Option Addr} {l : List α} (h : d.C w A l.length l) (hn : l ≠ []) : ∃ ad, A = some ad := by
  cases A with
  | none => exact absurd (nil_of_C h) hn
  | some ad => exact ⟨ad, rfl⟩
set_option maxHeartbeats 2000000 in
set_option maxRecDepth 100000 in
theorem files_calls {W : World} {A : Option Addr} {c : Nat} {l : List ByteArray} (hA : Kd.string.C W A l.length l) (hc : l.length ≤ c) (hs : ∀ s ∈ l, s.size ≤ maxLen) :
    Calls Try.prog 4 #[.slice A l.length c] W fun e w' => e = .returned (.bool true) ∧ Below W.heap.size W w' := by
  have HA := Aside0.mk hA
  have HS := Aside0.mk hs
  clear hA hs
  go_enter Try.func4, Try.ntmps4
  go_wp2_with fail
  refine (dk_new 0 (by decide) W).mono ?_
  rintro e w1 ⟨g, S1, rfl, d1⟩
  have D1 := Aside0.mk d1
  clear d1
  go_wp2_with fail
  go_loopg [4, 5] (min l.length 100) (fun kq v4 v5 w' => ∃ (i : Int) (th : List ByteArray) (D : Dsk) (S : Nat → Prop), v5 = .int .i64 i ∧ 0 ≤ i ∧ i + kq = ((min l.length 100 : Nat) : Int) ∧
    Aside0 (Kd.R Kd.string 9 w' W.heap.size (fun k => ¬ S k) v4 th) ∧ Aside0 (Dk W w' S g i.toNat D) ∧ Aside0 (FJ i.toNat D th))
  case atStart => exact ⟨0, [], _, S1, rfl, by omega, by omega, ⟨Kd.R_nil _ _ _ _ _⟩, D1, ⟨fj_zero⟩⟩
  case round =>
    obtain ⟨i, th, D, S, rfl, i0, i1, HT, HD, HJ⟩ := hrel
    by_cases hi : i < ((min l.length 100 : Nat) : Int)
    · have q1 : i < (l.length : Int) := by omega
      have q2 : i < 100 := by omega
      have hne : l ≠ [] := fun e => by subst e; simp at q1; omega
      have hC := Kd.C_below HA.out HD.out.1
      obtain ⟨ad, rfl⟩ := C_some hC hne
      obtain ⟨s, hs⟩ : ∃ s, l.getD i.toNat ByteArray.empty = s := ⟨_, rfl⟩
      have hsm : s ∈ l := by rw [← hs, List.getD_eq_getElem?_getD, List.getElem?_eq_getElem (by omega)]; exact List.getElem_mem _
      have hssz := HS.out s hsm
      have hcell := cellS hC i0 q1
      rw [hs] at hcell
      have c6 : decide (i < (l.length : Int)) = true := decide_eq_true q1
      have c7 : decide (i < 100) = true := decide_eq_true q2
      have p0 := eq_true i0
      have p1 := eq_true q1
      have HSZ := Aside0.mk hssz
      clear hC hne hs hsm hssz
      go_wp2_with fail
      refine (dk_write (s := s) (at_ := 0) (l := []) (A := none) (c := 0) HD.out (by omega) HSZ.out (Kd.C_nil _ _) (by decide) (by decide) (fun ad e => by cases e)).mono ?_
      rintro e w2 ⟨rfl, S2, d2, k2, s2⟩
      have ht2 : Kd.R Kd.string 9 w2 W.heap.size (fun k => ¬ S2 k) u4 th := Kd.R_mono (Kd.R_keptB HT.out k2.kept (fun _ h => h)) (fun k hk hx => hk.1 (s2 k hk.2.2 hx))
      have hc2 := cellS (Kd.C_below HA.out d2.1) i0 q1
      have hcell2 : w2.cell? (ad.add i.toNat) = some (.string s) := by
        rw [← hcell]
        exact (k2.cell (World.block_lt_of_cell? wr _ hcell) (fun hx => by
          have h1 := Kd.C_lt HA.out (by omega) (by show 0 < 1; decide)
          have h2 := (HD.out.2.1 _ hx).1
          rw [add_block] at h2
          omega))
      obtain ⟨E, hE⟩ : ∃ E, (dWrite D s 0 []).1 = E := ⟨_, rfl⟩
      obtain ⟨At, ct, rfl⟩ := Kd.R_slice ht2
      rw [hE]
      have HE := Aside0.mk hE
      have HT2 := Aside0.mk ht2
      have D2 := Aside0.mk d2
      clear ht2 d2 k2 s2 hE hc2 HT hcell
      go_wp2_with fail
      obtain ⟨wo, rfl⟩ : ∃ wo : World, wo = wr := ⟨_, rfl⟩
      obtain ⟨go, rfl⟩ : ∃ x : Nat, x = gk := ⟨_, rfl⟩
      go_loopg [7, 8] th.length (fun mq v7 v8 w3 => ∃ k : Int, v8 = .int .i64 k ∧ 0 ≤ k ∧ k + mq = th.length ∧ v7 = .bool (knownB (th.take k.toNat) s) ∧ Aside0 (Below w2.heap.size w2 w3))
      case atStart => exact ⟨0, rfl, by omega, by omega, rfl, ⟨Below.refl _ _⟩⟩
      case round =>
        obtain ⟨k, rfl, k0, k1, rfl, HB3⟩ := hrel
        by_cases hk : k < (th.length : Int)
        · have c8 : decide (k < (th.length : Int)) = true := decide_eq_true hk
          have hne : th ≠ [] := fun e => by subst e; simp at hk; omega
          have hC := Kd.C_below (Kd.R_reads' HT2.out).2.2 HB3.out
          obtain ⟨at_, rfl⟩ := C_some hC hne
          have hct := cellS hC k0 hk
          have hcl : wr.cell? (ad.add i.toNat) = some (.string s) := (HB3.out.cell (World.block_lt_of_cell? w2 _ hcell2)).trans hcell2
          have p2 := eq_true k0
          have p3 := eq_true hk
          have hthl : th.length ≤ 16 := by rw [HJ.out.len]; exact HJ.out.inv.few
          obtain ⟨x, hx⟩ : ∃ x, th.getD k.toNat ByteArray.empty = x := ⟨_, rfl⟩
          rw [hx] at hct
          have hstep : knownB (th.take (k + 1).toNat) s = (knownB (th.take k.toNat) s || decide (x = s)) := by
            exact known_take k0 hk hx
          obtain ⟨b, hb⟩ : ∃ b, knownB (th.take k.toNat) s = b := ⟨_, rfl⟩
          rw [hb] at hstep ⊢
          have HST := Aside0.mk hstep
          clear hC hne hx hb hstep
          have hnk : IntKind.i64.wrap (k + 1) = k + 1 := IntWalk.i64_in _ ⟨by omega, by omega⟩
          cases b with
          | true =>
            go_wp2_with fail
            go_quiet (fail)
            go_wp2_with fail
            go_roundg (gk - 1)
            case measure => omega
            case rel => exact ⟨k + 1, rfl, by omega, by omega, by rw [HST.out]; rfl, ⟨Below.trans HB3.out (by exact below_drewN (Below.refl _ _) _)⟩⟩
          | false =>
            go_wp2_with fail
            go_quiet (fail)
            go_wp2_with fail
            go_roundg (gk - 1)
            case measure => omega
            case rel => exact ⟨k + 1, rfl, by omega, by omega, by rw [HST.out, beq_str]; rfl, ⟨Below.trans HB3.out (by exact below_drewN (Below.refl _ _) _)⟩⟩
        · have hke : k = th.length := by omega
          have hkt : th.take k.toNat = th := List.take_of_length_le (by omega)
          rw [hkt]
          have c8 : decide (k < (th.length : Int)) = false := decide_eq_false hk
          have hcl : wr.cell? (ad.add i.toNat) = some (.string s) := (HB3.out.cell (World.block_lt_of_cell? w2 _ hcell2)).trans hcell2
          have hthl : th.length ≤ 16 := by rw [HJ.out.len]; exact HJ.out.inv.few
          have HDn := Aside0.mk (D2.out.step HB3.out)
          have HTn := Aside0.mk (Kd.R_below HT2.out HB3.out)
          have hni : IntKind.i64.wrap (i + 1) = i + 1 := IntWalk.i64_in _ ⟨by omega, by omega⟩
          clear hke hkt hcell2 HT2 D2 HB3
          by_cases hn : namedB s = false
          · rw [fj_bad hn] at HE HDn
            have hE := HE.out
            dsimp only at hE
            subst hE
            have HN := Aside0.mk hn
            clear HE hn
            go_wp2_with fail
            refine (rnamed_calls s HSZ.out _).mono ?_
            rintro e w4 ⟨rfl, hdr⟩
            rw [HN.out]
            obtain ⟨nq, rfl⟩ := hdr.out
            go_wp2_with fail
            go_roundg (go - 1)
            case measure => omega
            case rel => exact ⟨i + 1, th, D, S2, rfl, by omega, by omega, ⟨Kd.R_drewN HTn.out _⟩, ⟨by rw [show (i + 1).toNat = i.toNat + 1 by omega]; exact HDn.out.step (below_drewN (Below.refl _ _) _)⟩, ⟨fj_mono HJ.out (by omega)⟩⟩
          · replace hn : namedB s = true := by simpa using hn
            have HN := Aside0.mk hn
            have HHJ := Aside0.mk HJ.out
            have hlen := HJ.out.len
            by_cases hb : knownB th s = true
            · have hst := fj_step HJ.out hn (.inl (known_iff.1 hb))
              rw [if_pos hb] at hst
              have h0 := fj_ok HJ.out hn (.inl (known_iff.1 hb))
              have hE := HE.out
              rw [h0] at hE
              dsimp only at hE
              subst hE
              have HST := Aside0.mk hst
              rw [hb]
              clear HE hn hst h0 hb hlen
              go_wp2_with fail
              refine (rnamed_calls s HSZ.out _).mono ?_
              rintro e w4 ⟨rfl, hdr⟩
              rw [HN.out]
              obtain ⟨nq, rfl⟩ := hdr.out
              go_wp2_with fail
              go_roundg (go - 1)
              case measure => omega
              case rel => exact ⟨i + 1, th, (dWrite D s 0 []).2, S2, rfl, by omega, by omega, ⟨Kd.R_drewN HTn.out _⟩, ⟨by rw [show (i + 1).toNat = i.toNat + 1 by omega]; exact HDn.out.step (below_drewN (Below.refl _ _) _)⟩, ⟨by rw [show (i + 1).toNat = i.toNat + 1 by omega]; exact HST.out⟩⟩
            · have hnm : s ∉ th := fun h => hb (known_iff.2 h)
              have hbf : knownB th s = false := by simpa using hb
              by_cases hfull : 16 ≤ th.length
              · have h0 := fj_full HJ.out hn hnm hfull
                have hE := HE.out
                rw [h0] at hE HDn
                dsimp only at hE
                subst hE
                have cf : decide ((th.length : Int) ≥ 16) = true := decide_eq_true (by omega)
                have HF := Aside0.mk hfull
                rw [hbf]
                clear HE hn h0 hb hbf hnm hlen hfull
                go_wp2_with fail
                refine (rnamed_calls s HSZ.out _).mono ?_
                rintro e w4 ⟨rfl, hdr⟩
                rw [HN.out]
                obtain ⟨nq, rfl⟩ := hdr.out
                go_wp2_with fail
                go_roundg (go - 1)
                case measure => omega
                case rel => exact ⟨i + 1, th, D, S2, rfl, by omega, by omega, ⟨Kd.R_drewN HTn.out _⟩, ⟨by rw [show (i + 1).toNat = i.toNat + 1 by omega]; exact HDn.out.step (below_drewN (Below.refl _ _) _)⟩, ⟨fj_mono HJ.out (by omega)⟩⟩
              · have hst := fj_step HJ.out hn (.inr (by omega))
                rw [if_neg hb] at hst
                have h0 := fj_ok HJ.out hn (.inr (by omega))
                have hE := HE.out
                rw [h0] at hE
                dsimp only at hE
                subst hE
                have HST := Aside0.mk hst
                have cf : decide ((th.length : Int) ≥ 16) = false := decide_eq_false (by omega)
                have HF := Aside0.mk hfull
                rw [hbf]
                clear HE hn hst h0 hb hbf hnm hlen hfull
                go_wp2_with fail
                refine (rnamed_calls s HSZ.out _).mono ?_
                rintro e w4 ⟨rfl, hdr⟩
                rw [HN.out]
                obtain ⟨nq, rfl⟩ := hdr.out
                go_wp2_with ((with_reducible refine gate_builtin (b := .append) (xs := #[.tmp 50, .tmp 55]) rfl ?_); at_builtin; refine Kd.R_append Kd.string (w0 := W) W.heap.size rfl (.tmp 50) (.tmp 55) 36 9 (.string ByteArray.empty) 16 rfl Try.underlying36 info9 rfl (by decide) (by omega) (.slice At th.length ct) th s [.string s] (fun k => ¬ S2 k) (fun _ => False) rfl rfl ?aP (fun _ hk => hk.elim) (fun k hk hS => by have h2 := (HDn.out.2.1 k hS).2; have h3 : wr.heap.size ≤ k := hk; omega) (Kd.R_drewN HTn.out nq) (below_drewN HDn.out.1 nq) (HDn.out.1.size) ?aL ?_; (case aP => exact rfl); (case aL => have := HF.out; omega); intro v4 w4 ho hb hg hat; have HO4 := Aside0.mk ho; have HW4 := Aside0.mk hb; have HG4 := Aside0.mk hg; clear ho hb hg hat)
                have hD4 := HDn.out.kp (P := fun k => (Value.slice At th.length ct).ownBlock = some k) HW4.out (((Kp.refl wr _).drewN nq).grown HG4.out (fun k hk => .inl hk)) (fun k hS hk => HTn.out.1 k hk hS)
                have HD4 := Aside0.mk hD4
                clear hD4
                go_roundg (go - 1)
                case measure => omega
                case rel => exact ⟨i + 1, th ++ [s], (dWrite D s 0 []).2, S2, rfl, by omega, by omega, ⟨HO4.out⟩, ⟨by rw [show (i + 1).toNat = i.toNat + 1 by omega]; exact HD4.out⟩, ⟨by rw [show (i + 1).toNat = i.toNat + 1 by omega]; exact HST.out⟩⟩
    · have hnl : (namesB D.files).length = th.length := by rw [HJ.out.len]; unfold namesB; rw [List.length_map]
      have hfew := HJ.out.inv.few
      rw [← HJ.out.len] at hfew
      obtain ⟨At, ct, rfl⟩ := Kd.R_slice HT.out
      have hI : ¬ (i < (l.length : Int)) ∨ (i < (l.length : Int) ∧ ¬ (i < 100)) := by omega
      rcases hI with q1 | ⟨q1, q2⟩
      · have c6 : decide (i < (l.length : Int)) = false := decide_eq_false q1
        have HI := Aside0.mk hi
        clear hi
        go_wp2_with fail
        refine (dk_names HD.out).mono ?_
        rintro e w2 ⟨An, cn, rfl, hrn, hbn⟩
        rw [hnl] at hrn ⊢
        have HRN := Aside0.mk hrn
        have HBN := Aside0.mk hbn
        have HNL := Aside0.mk hnl
        clear hrn hbn hnl
        go_wp2_with fail
        obtain ⟨wo, rfl⟩ : ∃ wo : World, wo = wr := ⟨_, rfl⟩
        obtain ⟨go, rfl⟩ : ∃ x : Nat, x = gk := ⟨_, rfl⟩
        go_loopg [10] th.length (fun mq v10 w3 => ∃ j : Int, v10 = .int .i64 j ∧ 1 ≤ j ∧ j - 1 + mq = th.length ∧ Aside0 (Below w2.heap.size w2 w3))
        case atStart => exact ⟨1, rfl, by omega, by omega, ⟨Below.refl _ _⟩⟩
        case round =>
          obtain ⟨j, rfl, j0, j1, HB3⟩ := hrel
          by_cases hj : j < (th.length : Int)
          · have c8 : decide (j < (th.length : Int)) = true := decide_eq_true hj
            have hC := Kd.C_below (Kd.R_reads' HRN.out).2.2 HB3.out
            have hne : namesB D.files ≠ [] := fun e => by have := HNL.out; rw [e] at this; simp at this; omega
            obtain ⟨an, rfl⟩ := C_some hC hne
            have hx1 := cellS hC (show 0 ≤ j by omega) (by rw [HNL.out]; exact hj)
            have hx0 := cellS hC (show 0 ≤ j - 1 by omega) (by rw [HNL.out]; omega)
            have hrise := names_rise HJ.out.inv.srt (i := j.toNat) (by omega) (by rw [HNL.out]; omega)
            rw [show j.toNat - 1 = (j - 1).toNat by omega] at hrise
            obtain ⟨x, hx⟩ : ∃ x, (namesB D.files).getD j.toNat ByteArray.empty = x := ⟨_, rfl⟩
            obtain ⟨y, hy⟩ : ∃ y, (namesB D.files).getD (j - 1).toNat ByteArray.empty = y := ⟨_, rfl⟩
            rw [hx] at hx1 hrise
            rw [hy] at hx0 hrise
            have hno := leq_no hrise
            have hx0' : wr.cell? (an.add (j.toNat - 1)) = some (.string y) := by rw [← hx0, show j.toNat - 1 = (j - 1).toNat by omega]
            have p2 : 0 ≤ j := by omega
            have p3 := eq_true p2
            have p4 := eq_true hj
            have p5 : 0 ≤ j - 1 := by omega
            have p6 := eq_true p5
            have p7 := eq_true j0
            have p8 : (j - 1 < (th.length : Int)) = True := eq_true (by omega)
            have p9 : (j ≤ (th.length : Int)) = True := eq_true (by omega)
            have p10 : (j < (th.length : Int) + 1) = True := eq_true (by omega)
            have hnj : IntKind.i64.wrap (j + 1) = j + 1 := IntWalk.i64_in _ ⟨by omega, by omega⟩
            have hmj : IntKind.i64.wrap (j - 1) = j - 1 := IntWalk.i64_in _ ⟨by omega, by omega⟩
            clear hC hne hx hy hrise
            go_wp2_with fail
            go_quiet (fail)
            go_wp2_with fail
            go_roundg (gk - 1)
            case measure => omega
            case rel => exact ⟨j + 1, rfl, by omega, by omega, ⟨Below.trans HB3.out (by exact below_drewN (Below.refl _ _) _)⟩⟩
          · have c8 : decide (j < (th.length : Int)) = false := decide_eq_false hj
            go_wp2_with fail
            refine (live_calls _).mono ?_
            rintro e w4 ⟨rfl, hb4⟩
            go_wp2_with fail
            go_ret
            exact ⟨rfl, below_step (below_step HD.out.1 (below_step HBN.out HB3.out)) hb4⟩
      · have c6 : decide (i < (l.length : Int)) = true := decide_eq_true q1
        have c7 : decide (i < 100) = false := decide_eq_false q2
        have HI := Aside0.mk hi
        clear hi
        go_wp2_with fail
        refine (dk_names HD.out).mono ?_
        rintro e w2 ⟨An, cn, rfl, hrn, hbn⟩
        rw [hnl] at hrn ⊢
        have HRN := Aside0.mk hrn
        have HBN := Aside0.mk hbn
        have HNL := Aside0.mk hnl
        clear hrn hbn hnl
        go_wp2_with fail
        obtain ⟨wo, rfl⟩ : ∃ wo : World, wo = wr := ⟨_, rfl⟩
        obtain ⟨go, rfl⟩ : ∃ x : Nat, x = gk := ⟨_, rfl⟩
        go_loopg [10] th.length (fun mq v10 w3 => ∃ j : Int, v10 = .int .i64 j ∧ 1 ≤ j ∧ j - 1 + mq = th.length ∧ Aside0 (Below w2.heap.size w2 w3))
        case atStart => exact ⟨1, rfl, by omega, by omega, ⟨Below.refl _ _⟩⟩
        case round =>
          obtain ⟨j, rfl, j0, j1, HB3⟩ := hrel
          by_cases hj : j < (th.length : Int)
          · have c8 : decide (j < (th.length : Int)) = true := decide_eq_true hj
            have hC := Kd.C_below (Kd.R_reads' HRN.out).2.2 HB3.out
            have hne : namesB D.files ≠ [] := fun e => by have := HNL.out; rw [e] at this; simp at this; omega
            obtain ⟨an, rfl⟩ := C_some hC hne
            have hx1 := cellS hC (show 0 ≤ j by omega) (by rw [HNL.out]; exact hj)
            have hx0 := cellS hC (show 0 ≤ j - 1 by omega) (by rw [HNL.out]; omega)
            have hrise := names_rise HJ.out.inv.srt (i := j.toNat) (by omega) (by rw [HNL.out]; omega)
            rw [show j.toNat - 1 = (j - 1).toNat by omega] at hrise
            obtain ⟨x, hx⟩ : ∃ x, (namesB D.files).getD j.toNat ByteArray.empty = x := ⟨_, rfl⟩
            obtain ⟨y, hy⟩ : ∃ y, (namesB D.files).getD (j - 1).toNat ByteArray.empty = y := ⟨_, rfl⟩
            rw [hx] at hx1 hrise
            rw [hy] at hx0 hrise
            have hno := leq_no hrise
            have hx0' : wr.cell? (an.add (j.toNat - 1)) = some (.string y) := by rw [← hx0, show j.toNat - 1 = (j - 1).toNat by omega]
            have p2 : 0 ≤ j := by omega
            have p3 := eq_true p2
            have p4 := eq_true hj
            have p5 : 0 ≤ j - 1 := by omega
            have p6 := eq_true p5
            have p7 := eq_true j0
            have p8 : (j - 1 < (th.length : Int)) = True := eq_true (by omega)
            have p9 : (j ≤ (th.length : Int)) = True := eq_true (by omega)
            have p10 : (j < (th.length : Int) + 1) = True := eq_true (by omega)
            have hnj : IntKind.i64.wrap (j + 1) = j + 1 := IntWalk.i64_in _ ⟨by omega, by omega⟩
            have hmj : IntKind.i64.wrap (j - 1) = j - 1 := IntWalk.i64_in _ ⟨by omega, by omega⟩
            clear hC hne hx hy hrise
            go_wp2_with fail
            go_quiet (fail)
            go_wp2_with fail
            go_roundg (gk - 1)
            case measure => omega
            case rel => exact ⟨j + 1, rfl, by omega, by omega, ⟨Below.trans HB3.out (by exact below_drewN (Below.refl _ _) _)⟩⟩
          · have c8 : decide (j < (th.length : Int)) = false := decide_eq_false hj
            go_wp2_with fail
            refine (live_calls _).mono ?_
            rintro e w4 ⟨rfl, hb4⟩
            go_wp2_with fail
            go_ret
            exact ⟨rfl, below_step (below_step HD.out.1 (below_step HBN.out HB3.out)) hb4⟩
end Go.Proofs.Ytmmiipnmimjojaa.PS
