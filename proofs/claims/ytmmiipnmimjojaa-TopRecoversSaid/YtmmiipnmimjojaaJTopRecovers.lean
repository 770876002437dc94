/- The law's texts and its row. -/
import Derived.Test.YtmmiipnmimjojaaJ23
import Derived.Test.YtmmiipnmimjojaaRows
import Derived.WalkKit
import Derived.ProofKit
import Derived.OpenShut
import Derived.ShutString
import Derived.ChangeOld
import Derived.Below
import Derived.SizedLaws
section
namespace Go.Proofs.Ytmmiipnmimjojaa.PS
open Go.RowKit Go.Proofs.YtmmiipnmimjojaaW.PrintWords Go.Proofs.YtmmiipnmimjojaaW.PrintLast Go.Proofs.YtmmiipnmimjojaaW.PrintMore
open Go.Maps Go.Proofs.Ytmmiipnmimjojaa.PD
set_option linter.unusedVariables false
set_option linter.unusedSimpArgs false
/-- Pairs of bytes. -/
def kA : Kd (Int × Int) := Kd.pair (Kd.int .u8) (Kd.int .u8)
theorem at_A {w : World} {A : Option Addr} {n : Nat} {xs : List (Int × Int)} (h : kA.C w A n xs) (i : Nat) (h1 : i < n) : ∃ ad, A = some ad ∧ w.cell? (ad.add (i * 2)) = some (.int .u8 (xs.getD i (0, 0)).1) ∧ w.cell? (ad.add (i * 2 + 1)) = some (.int .u8 (xs.getD i (0, 0)).2) := by
  obtain ⟨ad, c, e, _, hK, hc0⟩ := Kd.C_get h (0, 0) (i : Int) (by omega) (by omega)
  have hc : ∀ j u, c[j]? = some u → w.cell? (ad.add (i * 2 + j)) = some u := hc0
  obtain ⟨ca, cb, rfl, ha, hb⟩ := hK
  rw [Int.toNat_natCast] at ha hb
  obtain rfl : ca = [.int .u8 (xs.getD i (0, 0)).1] := ha
  obtain rfl : cb = [.int .u8 (xs.getD i (0, 0)).2] := hb
  exact ⟨ad, e, hc 0 _ rfl, hc 1 _ rfl⟩
set_option maxHeartbeats 8000000 in
set_option maxRecDepth 100000 in
theorem topRecovers_calls {W : World} {A Ak : Option Addr} {c ck : Nat} {l : List (Int × Int)} {keep : List Int} (h : kA.C W A l.length l) (hc : l.length ≤ c) (hk : (Kd.int .i64).C W Ak keep.length keep) (hck : keep.length ≤ ck) (hl : l.length ≤ 140737488355328) (hkl : keep.length ≤ 140737488355328) (hkb : ∀ z ∈ keep, -9223372036854775808 ≤ z ∧ z ≤ 9223372036854775807) (hd : ∀ x ∈ l, (0 ≤ x.1 ∧ x.1 ≤ 255) ∧ 0 ≤ x.2 ∧ x.2 ≤ 255) :
    Calls Try.prog 5 #[.slice A l.length c, .slice Ak keep.length ck] W fun e w' => e = .returned (.bool true) ∧ Below W.heap.size W w' := by
  have HC := Aside0.mk h
  have HK := Aside0.mk hk
  have HD := Aside0.mk hd
  have HKB := Aside0.mk hkb
  clear h hk hd hkb
  go_enter Try.func5, Try.ntmps5
  go_wp2_with fail
  refine (dk_new 131072 (by decide) W).mono ?_
  rintro e w1 ⟨g, S1, rfl, hd1⟩
  have HD1 := Aside0.mk (show Dk W w1 S1 g 0 ⟨131072, []⟩ from hd1)
  clear hd1
  go_wp2_with fail
  refine (lg_begin HD1.out (by decide)).mono ?_
  rintro e w2 ⟨S2, Q2, L2, D2, M2, rfl, hl2, hn2, hs2, hr2, hB2, hL2, hq2⟩
  have HI2 := Aside0.mk (show TrI W w2 S2 Q2 g 2 L2 D2 M2 WS.zero.recs 2 [] 0 from ⟨hl2, hs2, hr2, by simp, TrE.nil 0⟩)
  clear hl2 hn2 hs2 hr2 hB2 hL2 hq2
  go_wp2_with fail
  go_loopg [6, 8, 9] 30 (fun kq v6 v8 v9 w' => ∃ (i L : Nat) (E : List S48), v6 = .pointer (some ⟨L, 0, none⟩) ∧ v8 = .int .i64 (E.length : Int) ∧ v9 = .int .i64 (i : Int) ∧ i + kq = 30 ∧ i ≤ l.length ∧ E.length ≤ 22 * i ∧ Aside0 (∃ S Q N D M recs p, TrI W w' S Q g N L D M recs p E i ∧ N ≤ 2 + 50 * i ∧ 2 ≤ p))
  case atStart => exact ⟨0, L2, [], rfl, rfl, rfl, by omega, by omega, by simp, ⟨_, _, _, _, _, _, _, HI2.out, by omega, by omega⟩⟩
  case round =>
    obtain ⟨i, L, E, rfl, rfl, rfl, hik, hil, hE, HREL⟩ := hrel
    obtain ⟨S, Q, N, D, M, recs, p, hi, hN, hp⟩ := HREL.out
    have HI := Aside0.mk hi
    clear hi HREL HI2
    by_cases h1 : (i : Int) < (l.length : Int)
    · by_cases h2 : (i : Int) < 30
      · have c6 : decide ((i : Int) < (l.length : Int)) = true := decide_eq_true h1
        have c7 : decide ((i : Int) < 30) = true := decide_eq_true h2
        have p0 := eq_true (show (0 : Int) ≤ (i : Int) by omega)
        have p1 := eq_true h1
        have hni : IntKind.i64.wrap ((i : Int) + 1) = (i : Int) + 1 := IntWalk.i64_in _ ⟨by omega, by omega⟩
        obtain ⟨ad, hAd, hu0, hu1⟩ := at_A HC.out i (by omega)
        obtain ⟨z, hz⟩ : ∃ z, l.getD i (0, 0) = z := ⟨_, rfl⟩
        have hzl : z ∈ l := by rw [← hz, List.getD_eq_getElem?_getD, List.getElem?_eq_getElem (by omega)]; exact List.getElem_mem _
        have hzb := HD.out z hzl
        rw [hz] at hu0 hu1
        subst hAd
        have HU0 := Aside0.mk hu0
        have HU1 := Aside0.mk hu1
        obtain ⟨a0, ha0⟩ : ∃ a0, z.1 = a0 := ⟨_, rfl⟩
        obtain ⟨a1, ha1⟩ : ∃ a1, z.2 = a1 := ⟨_, rfl⟩
        rw [ha0] at HU0 hzb
        rw [ha1] at HU1 hzb
        clear hz hzl hu0 hu1 ha0 ha1
        obtain ⟨e0, he0⟩ : ∃ e0 : Nat, E.length = e0 := ⟨_, rfl⟩
        rw [he0]
        have HE0 := Aside0.mk he0
        clear he0
        go_wp2_with fail
        go_loopg [8, 10, 11] 2 (fun kq v8 v10 v11 w' => ∃ (part su : Nat) (E : List S48), v11 = .int .i64 (part : Int) ∧ v8 = .int .i64 (E.length : Int) ∧ v10 = .int .i64 (su : Int) ∧ part + kq = 2 ∧ su ≤ E.length ∧ Aside0 (E.length ≤ 22 * i + 11 * part ∧ ∃ S Q N D M recs p, TrI W w' S Q g N L D M recs p E ((i : Int) + 1) ∧ N ≤ 2 + 50 * i + 24 * part ∧ 2 ≤ p ∧ (part = 0 ∨ p = 2 + su)))
        case atStart => exact ⟨0, e0, E, rfl, by rw [HE0.out], rfl, by omega, by rw [HE0.out]; exact Nat.le_refl _, ⟨by omega, S, Q, N, D, M, recs, p, ⟨HI.out.lg, HI.out.st, HI.out.room, HI.out.recs, HI.out.ents.mono (by omega)⟩, by omega, hp, .inl rfl⟩⟩
        case round =>
          obtain ⟨part, su, E, rfl, rfl, rfl, hpk, hsu, HREL⟩ := hrel
          obtain ⟨hE2, S, Q, N, D, M, recs, p, hi, hN, hp, hps⟩ := HREL.out
          have HI := Aside0.mk hi
          have HPS := Aside0.mk hps
          obtain ⟨e0, he0⟩ : ∃ e0 : Nat, E.length = e0 := ⟨_, rfl⟩
          rw [he0] at hsu hE2
          rw [he0]
          have HE0 := Aside0.mk he0
          clear hi HREL hps he0
          by_cases hpt : part = 0
          · subst hpt
            have hcell := cell_below HI.out.lg.wl.dk.1 HU0.out
            go_wp2_with fail
            have hub := hzb.1
            obtain ⟨m, hm⟩ : ∃ m : Nat, a0.tmod 12 = m := ⟨(a0.tmod 12).toNat, by rw [Int.tmod_eq_emod_of_nonneg hub.1]; omega⟩
            have hm12 : m ≤ 11 := by rw [Int.tmod_eq_emod_of_nonneg hub.1] at hm; omega
            have hwu : IntKind.i64.wrap a0 = a0 := IntWalk.i64_in _ ⟨by omega, by omega⟩
            have hwm : IntKind.i64.wrap (m : Int) = (m : Int) := IntWalk.i64_in _ ⟨by omega, by omega⟩
            go_loopg [8, 12] m (fun kq v8 v12 w' => ∃ (k : Nat) (E : List S48), v12 = .int .i64 (k : Int) ∧ v8 = .int .i64 (E.length : Int) ∧ k + kq = m ∧ Aside0 (e0 ≤ E.length ∧ E.length ≤ e0 + k ∧ ∃ S Q N' D M recs, TrI W w' S Q g N' L D M recs p E ((i : Int) + 1) ∧ N' ≤ N + 2 * k))
            case atStart => exact ⟨0, E, rfl, by rw [HE0.out], by omega, ⟨by rw [HE0.out]; exact Nat.le_refl _, by rw [HE0.out]; omega, S, Q, N, D, M, recs, HI.out, by omega⟩⟩
            case round =>
              obtain ⟨k, E, rfl, rfl, hkm, HREL⟩ := hrel
              obtain ⟨hE3, hE4, S, Q, N', D, M, recs, hi, hN3⟩ := HREL.out
              have HI := Aside0.mk hi
              obtain ⟨e1, he1⟩ : ∃ e1 : Nat, E.length = e1 := ⟨_, rfl⟩
              rw [he1] at hE3 hE4
              rw [he1]
              have HE1 := Aside0.mk he1
              clear hi HREL he1
              have hcell := cell_below HI.out.lg.wl.dk.1 HU0.out
              by_cases hk : (k : Int) < (m : Int)
              · have c8 : decide ((k : Int) < (m : Int)) = true := decide_eq_true hk
                have hne : IntKind.i64.wrap ((e1 : Int) + 1) = (e1 : Int) + 1 := IntWalk.i64_in _ ⟨by omega, by omega⟩
                have hnk : IntKind.i64.wrap ((k : Int) + 1) = (k : Int) + 1 := IntWalk.i64_in _ ⟨by omega, by omega⟩
                have HLF := Aside0.mk (tr_lit HI.out.lg.wl ((i : Int) + 1) ((e1 : Int) + 1) (b8 ((e1 : Int) + 1)))
                have HIB := Aside0.mk (HI.out.below (below_alloc (below_alloc (Below.refl _ _) (.cells #[.int .u8 (b8 ((e1 : Int) + 1))] 5)) (.cells #[.int .i64 2, .int .i64 ((i : Int) + 1), .int .i64 ((e1 : Int) + 1), .slice (some ⟨wr.heap.size, 0, none⟩) 1 1] 48)))
                have HCA := Aside0.mk (tr_append (cb := 1) HIB.out ⟨by omega, by omega⟩ HE1.out (by omega) (by omega) HLF.out (Nat.le_refl _))
                go_wp2_with fail
                refine HCA.out.mono ?_
                rintro e w5 ⟨rfl, S', Q', D', M', recs', hi', _⟩
                have HI5 := Aside0.mk hi'
                clear hi' HCA HIB HLF hcell
                go_wp2_with fail
                go_roundg (gk - 1)
                case measure => omega
                case rel => exact ⟨k + 1, _, rfl, by rw [List.length_append, HE1.out]; rfl, by omega, ⟨by rw [List.length_append, HE1.out]; simp; omega, by rw [List.length_append, HE1.out]; simp; omega, S', Q', N' + 2, D', M', recs', HI5.out, by omega⟩⟩
              · have c8 : decide ((k : Int) < (m : Int)) = false := decide_eq_false hk
                have HSY := Aside0.mk (lg_sync HI.out.lg (by omega))
                obtain ⟨DD, hDD⟩ : ∃ DD, (dSync D (nameB M.n)).2 = DD := ⟨_, rfl⟩
                have HDD := Aside0.mk hDD
                clear hDD
                go_wp2_with fail
                refine HSY.out.mono ?_
                rintro e w5 ⟨rfl, S5, Q5, recs5, p5, hl5, ⟨rfl, rfl⟩, hB5, hq5⟩
                have HI5 := Aside0.mk (HI.out.sync hl5)
                clear hl5 hB5 hq5 HSY
                go_wp2_with fail
                go_roundg 1
                case measure => omega
                case rel => exact ⟨1, e1, E, rfl, by rw [HE1.out], rfl, by omega, by rw [HE1.out]; exact Nat.le_refl _, ⟨by rw [HE1.out]; omega, S5, Q5, N', _, M, recs5, 2 + E.length, HI5.out, by omega, by omega, .inr (by rw [HE1.out])⟩⟩
          · by_cases hpt1 : part = 1
            · subst hpt1
              have hcell := cell_below HI.out.lg.wl.dk.1 HU1.out
              go_wp2_with fail
              have hub := hzb.2
              obtain ⟨m, hm⟩ : ∃ m : Nat, a1.tmod 12 = m := ⟨(a1.tmod 12).toNat, by rw [Int.tmod_eq_emod_of_nonneg hub.1]; omega⟩
              have hm12 : m ≤ 11 := by rw [Int.tmod_eq_emod_of_nonneg hub.1] at hm; omega
              have hwu : IntKind.i64.wrap a1 = a1 := IntWalk.i64_in _ ⟨by omega, by omega⟩
              have hwm : IntKind.i64.wrap (m : Int) = (m : Int) := IntWalk.i64_in _ ⟨by omega, by omega⟩
              go_loopg [8, 12] m (fun kq v8 v12 w' => ∃ (k : Nat) (E : List S48), v12 = .int .i64 (k : Int) ∧ v8 = .int .i64 (E.length : Int) ∧ k + kq = m ∧ Aside0 (e0 ≤ E.length ∧ E.length ≤ e0 + k ∧ ∃ S Q N' D M recs, TrI W w' S Q g N' L D M recs p E ((i : Int) + 1) ∧ N' ≤ N + 2 * k))
              case atStart => exact ⟨0, E, rfl, by rw [HE0.out], by omega, ⟨by rw [HE0.out]; exact Nat.le_refl _, by rw [HE0.out]; omega, S, Q, N, D, M, recs, HI.out, by omega⟩⟩
              case round =>
                obtain ⟨k, E, rfl, rfl, hkm, HREL⟩ := hrel
                obtain ⟨hE3, hE4, S, Q, N', D, M, recs, hi, hN3⟩ := HREL.out
                have HI := Aside0.mk hi
                obtain ⟨e1, he1⟩ : ∃ e1 : Nat, E.length = e1 := ⟨_, rfl⟩
                rw [he1] at hE3 hE4
                rw [he1]
                have HE1 := Aside0.mk he1
                clear hi HREL he1
                have hcell := cell_below HI.out.lg.wl.dk.1 HU1.out
                have hcell2 := hcell
                rw [show ad.add (i * 2 + 1) = ⟨(ad.add (i * 2)).block, (ad.add (i * 2)).off + 1, none⟩ from add_field _ _ 1 (by omega)] at hcell2
                have hcell3 : wr.cell? ((ad.add (i * 2)).add 1) = some (.int .u8 a1) := by rw [Go.Deep.add_add]; exact hcell
                by_cases hk : (k : Int) < (m : Int)
                · have c8 : decide ((k : Int) < (m : Int)) = true := decide_eq_true hk
                  have hne : IntKind.i64.wrap ((e1 : Int) + 1) = (e1 : Int) + 1 := IntWalk.i64_in _ ⟨by omega, by omega⟩
                  have hnk : IntKind.i64.wrap ((k : Int) + 1) = (k : Int) + 1 := IntWalk.i64_in _ ⟨by omega, by omega⟩
                  have HLF := Aside0.mk (tr_lit HI.out.lg.wl ((i : Int) + 1) ((e1 : Int) + 1) (b8 ((e1 : Int) + 1)))
                  have HIB := Aside0.mk (HI.out.below (below_alloc (below_alloc (Below.refl _ _) (.cells #[.int .u8 (b8 ((e1 : Int) + 1))] 5)) (.cells #[.int .i64 2, .int .i64 ((i : Int) + 1), .int .i64 ((e1 : Int) + 1), .slice (some ⟨wr.heap.size, 0, none⟩) 1 1] 48)))
                  have HCA := Aside0.mk (tr_append (cb := 1) HIB.out ⟨by omega, by omega⟩ HE1.out (by omega) (by omega) HLF.out (Nat.le_refl _))
                  go_wp2_with fail
                  refine HCA.out.mono ?_
                  rintro e w5 ⟨rfl, S', Q', D', M', recs', hi', _⟩
                  have HI5 := Aside0.mk hi'
                  clear hi' HCA HIB HLF hcell hcell2 hcell3
                  go_wp2_with fail
                  go_roundg (gk - 1)
                  case measure => omega
                  case rel => exact ⟨k + 1, _, rfl, by rw [List.length_append, HE1.out]; rfl, by omega, ⟨by rw [List.length_append, HE1.out]; simp; omega, by rw [List.length_append, HE1.out]; simp; omega, S', Q', N' + 2, D', M', recs', HI5.out, by omega⟩⟩
                · have c8 : decide ((k : Int) < (m : Int)) = false := decide_eq_false hk
                  go_wp2_with fail
                  go_roundg 0
                  case measure => omega
                  case rel => exact ⟨2, su, E, rfl, by rw [HE1.out], rfl, by omega, by rw [HE1.out]; omega, ⟨by rw [HE1.out]; omega, S, Q, N', D, M, recs, p, HI.out, by omega, hp, .inr (HPS.out.elim (fun h => absurd h (by omega)) id)⟩⟩
            · have hpt2 : part = 2 := by omega
              subst hpt2
              have hp2 : p = 2 + su := HPS.out.elim (fun h => absurd h (by omega)) id
              obtain ⟨wo, rfl⟩ : ∃ wo : World, wo = wr := ⟨_, rfl⟩
              go_upto_if 77 with (fail)
              go_cut [13] (fun v13 w' => ∃ z : Int, v13 = .int .i64 z ∧ (-9223372036854775808 ≤ z ∧ z ≤ 9223372036854775807) ∧ wo = w')
              case first =>
                by_cases hik2 : (i : Int) < (keep.length : Int)
                · have c9 : decide ((i : Int) < (keep.length : Int)) = true := decide_eq_true hik2
                  have hC := Kd.C_below HK.out HI.out.lg.wl.dk.1
                  obtain ⟨aa, hak⟩ := C_some hC (fun e => by subst e; simp at hik2; omega)
                  rw [hak] at hC
                  obtain ⟨z, hz⟩ : ∃ z, keep.getD (i : Int).toNat 0 = z := ⟨_, rfl⟩
                  have hzc := cellI hC (by omega) hik2 hz
                  rw [Int.toNat_natCast] at hzc
                  have hzb2 := HKB.out z (by rw [← hz, Int.toNat_natCast, List.getD_eq_getElem?_getD, List.getElem?_eq_getElem (by omega)]; exact List.getElem_mem _)
                  have p2 := eq_true hik2
                  clear hz hC
                  subst hak
                  go_wp2_with fail
                  go_meet
                  case rel => exact ⟨z, rfl, hzb2, rfl⟩
                · have c9 : decide ((i : Int) < (keep.length : Int)) = false := decide_eq_false hik2
                  go_wp2_with fail
                  go_meet
                  case rel => exact ⟨0, rfl, by omega, rfl⟩
              case rest =>
                obtain ⟨z, rfl, hzb2, rfl⟩ := hcut
                have HCR := Aside0.mk (dk_crash (keep := [z]) (c := 1) (HI.out.lg.wl.dk.step (below_alloc (Below.refl _ _) _)) (by omega) (C_lit .i64 wo [z] 3 (by simp) (0, 0) rfl) (fun ad e _ hS => by cases e; have := HI.out.lg.wl.dk.2.1 _ hS; dsimp only at this; omega) (by intro q hq; simp at hq; omega))
                obtain ⟨m, zz, hm1, hm2, ho⟩ := tr_crash HI.out hp [z]
                rw [HE0.out] at hm2
                have HO := Aside0.mk ho
                clear ho
                go_wp2_with fail
                refine HCR.out.mono ?_
                rintro e w6 ⟨rfl, S6, hd6, _, _⟩
                have HOP := Aside0.mk (lg_open hd6 (by omega) HO.out HI.out.lg.n)
                clear hd6 HCR
                go_wp2_with fail
                refine HOP.out.mono ?_
                rintro e w7 ⟨S7, Q7, L7, D7, M7, rfl, hl7, hn7, hst7, hr7, hB7, hL7, hq7⟩
                obtain ⟨E7, hE7⟩ : ∃ E7, E.take m = E7 := ⟨_, rfl⟩
                have hlen7 : E7.length = m := by rw [← hE7, List.length_take, HE0.out]; omega
                rw [hE7] at hst7 hl7
                have HI7 := Aside0.mk (show TrI W w7 S7 Q7 g (N + 2) L7 D7 M7 (WS.zero.recs ++ E7.map Rc.ent) (WS.zero.recs ++ E7.map Rc.ent).length E7 ((i : Int) + 1) from ⟨hl7, hst7, by rw [hr7]; exact HI.out.room, rfl, by rw [← hE7]; exact HI.out.ents.take m⟩)
                have HLEN := Aside0.mk hlen7
                have hlast : M7.st.last = (m : Int) := by rw [hst7]; unfold WS.last; rw [hlen7]; simp
                have HLC := Aside0.mk (fun (X : World) (hX : Below w7.heap.size w7 X) => (HI7.out.below hX).lg.wl.last (HI7.out.below hX).lg.mok)
                rw [hlast] at HLC
                have HEC := Aside0.mk (fun (X : World) (hX : Below w7.heap.size w7 X) => entries_calls (a := 1) (b := (m : Int)) (HI7.out.below hX).lg.wl (HI7.out.below hX).lg.mok ⟨by decide, by decide⟩ ⟨by omega, by omega⟩)
                rw [hst7, tr_from hlen7] at HEC
                clear hl7 hn7 hst7 hr7 hB7 hL7 hq7 hE7 hlen7 hlast HOP
                have d1 : decide ((m : Int) < (su : Int)) = false := decide_eq_false (by omega)
                have d2 : decide ((m : Int) > (e0 : Int)) = false := decide_eq_false (by omega)
                go_wp2_with fail
                refine (HLC.out _ (by first | exact Below.refl _ _ | exact below_drew1 (Below.refl _ _) | exact pw_below_drewN (Below.refl _ _) _)).mono ?_
                rintro e w8 ⟨rfl, rfl⟩
                go_wp2_with fail
                refine (HLC.out _ (by first | exact Below.refl _ _ | exact below_drew1 (Below.refl _ _) | exact pw_below_drewN (Below.refl _ _) _)).mono ?_
                rintro e w9 ⟨rfl, rfl⟩
                go_wp2_with fail
                refine (HLC.out _ (by first | exact Below.refl _ _ | exact below_drew1 (Below.refl _ _) | exact pw_below_drewN (Below.refl _ _) _)).mono ?_
                rintro e w10 ⟨rfl, rfl⟩
                go_wp2_with fail
                refine (HEC.out _ (by first | exact Below.refl _ _ | exact below_drew1 (Below.refl _ _) | exact pw_below_drewN (Below.refl _ _) _)).mono ?_
                rintro e wE ⟨vE, rfl, hnE, hbE⟩
                obtain ⟨Ae, ce, rfl⟩ := Kd.N_slice hnE
                have hnr := Kd.N_reads' hnE
                rw [HLEN.out] at hnr ⊢
                have HNR := Aside0.mk hnr
                have HIE := Aside0.mk (HI7.out.below (by first | exact hbE | exact below_step (by first | exact Below.refl _ _ | exact below_drew1 (Below.refl _ _) | exact pw_below_drewN (Below.refl _ _) _) hbE))
                clear hnE hbE hnr
                go_wp2_with fail
                go_loopg [15] m (fun kq v15 w' => ∃ j : Nat, v15 = .int .i64 (j : Int) ∧ j + kq = m ∧ Aside0 (Below wE.heap.size wE w'))
                case atStart => exact ⟨0, rfl, by omega, ⟨Below.refl _ _⟩⟩
                case round =>
                  obtain ⟨j, rfl, hjm, HBj⟩ := hrel
                  by_cases hj : (j : Int) < (m : Int)
                  · have c9 : decide ((j : Int) < (m : Int)) = true := decide_eq_true hj
                    have hC := Kd.C_below HNR.out.2.2 HBj.out
                    have hml := HLEN.out
                    obtain ⟨x, hx⟩ : ∃ x, rd_T48 E7 (j : Int) = x := ⟨_, rfl⟩
                    have hxj : E7[j]? = some x := by rw [← hx]; unfold rd_T48; rw [Int.toNat_natCast, List.getD_eq_getElem?_getD, List.getElem?_eq_getElem (by omega)]; rfl
                    have hx2 := HI7.out.ents.at_ j x hxj
                    have hx3 := HI7.out.ents.dat j x hxj
                    have hnj : IntKind.i64.wrap ((j : Int) + 1) = (j : Int) + 1 := IntWalk.i64_in _ ⟨by omega, by omega⟩
                    have hnj2 : IntKind.i64.wrap ((j : Int) - 1) = (j : Int) - 1 := IntWalk.i64_in _ ⟨by omega, by omega⟩
                    obtain ⟨t1, ht1⟩ : ∃ t1, x.f1 = t1 := ⟨_, rfl⟩
                    have HT : Aside0 (∀ x', j ≠ 0 → E7[j - 1]? = some x' → x'.f1 ≤ t1) := ⟨fun x' h0 hx' => by
                      rw [← ht1]
                      obtain ⟨h5, h6⟩ := List.getElem?_eq_some_iff.1 hx'
                      obtain ⟨h7, h8⟩ := List.getElem?_eq_some_iff.1 hxj
                      have := List.pairwise_iff_getElem.1 HI7.out.ents.mon (j - 1) j h5 h7 (by omega)
                      rw [h6, h8] at this
                      exact this⟩
                    obtain ⟨ade, A3, c3, he, y0, y1, y2, y3, l3, C3⟩ := at_T48 hC (j : Int) (by omega) hj
                    subst he
                    rw [hx] at y0 y1 y2 y3 l3 C3
                    rw [Int.toNat_natCast] at y0 y1 y2 y3
                    rw [hx2] at y2
                    rw [ht1] at y1
                    rw [hx3] at y3 C3
                    obtain ⟨aa, haa⟩ := C_some C3 (by simp)
                    rw [haa] at y3 C3
                    have y3 : wr.cell? ⟨(ade.add (j * 4)).block, (ade.add (j * 4)).off + 3, none⟩ = some (.slice (some aa) 1 c3) := y3
                    have hd0 := cellI C3 (i := 0) (by omega) (by simp) (x := b8 ((j : Int) + 1)) rfl
                    unfold b8 at hd0
                    have hd0 : wr.cell? (aa.add 0) = some (.int .u8 (((j : Int) + 1) % 256)) := hd0
                    have ea : aa.add 0 = aa := by unfold Addr.add; simp
                    have hd1 : wr.cell? aa = some (.int .u8 (((j : Int) + 1) % 256)) := by rw [ea] at hd0; exact hd0
                    clear ea
                    have p2 := eq_true (show (0 : Int) ≤ (j : Int) by omega)
                    have p3 := eq_true hj
                    clear hx hxj hx2 hx3 ht1 C3 haa l3 y0
                    by_cases hj0 : j = 0
                    · have c11 : decide ((j : Int) > 0) = false := decide_eq_false (by omega)
                      have c12 : decide (0 < j) = false := decide_eq_false (by omega)
                      have c13 : decide ((0 : Int) < (j : Int)) = false := decide_eq_false (by omega)
                      have hj9 := Aside0.mk hj0
                      clear hC hml hnj2 hj0
                      go_wp2_with fail
                      go_quiet (fail)
                      go_wp2_with fail
                      go_roundg (gk - 1)
                      case measure => omega
                      case rel => exact ⟨j + 1, rfl, by omega, ⟨by first | exact HBj.out | exact below_step HBj.out (pw_below_drewN (Below.refl _ _) _)⟩⟩
                    · obtain ⟨x', hx'⟩ : ∃ x', rd_T48 E7 ((j : Int) - 1) = x' := ⟨_, rfl⟩
                      have hxj' : E7[j - 1]? = some x' := by rw [← hx']; unfold rd_T48; rw [show ((j : Int) - 1).toNat = j - 1 by omega, List.getD_eq_getElem?_getD, List.getElem?_eq_getElem (by omega)]; rfl
                      obtain ⟨ade', A3', c3', he', _, z1, _, _, _, _⟩ := at_T48 hC ((j : Int) - 1) (by omega) (by omega)
                      injection he' with he'
                      subst he'
                      rw [hx'] at z1
                      rw [show ((j : Int) - 1).toNat = j - 1 by omega] at z1
                      obtain ⟨t2, ht2⟩ : ∃ t2, x'.f1 = t2 := ⟨_, rfl⟩
                      rw [ht2] at z1
                      have c10 : decide (t1 < t2) = false := decide_eq_false (by have := HT.out x' hj0 hxj'; omega)
                      have c11 : decide ((j : Int) > 0) = true := decide_eq_true (by omega)
                      have p4 := eq_true (show (0 : Int) ≤ (j : Int) - 1 by omega)
                      have p5 := eq_true (show (j : Int) - 1 < (m : Int) by omega)
                      have p6 := eq_true (show (1 : Int) ≤ (j : Int) by omega)
                      have p7 : 0 < j := by omega
                      clear hx' hxj' ht2 hC hml
                      go_wp2_with fail
                      go_quiet (fail)
                      go_wp2_with fail
                      go_roundg (gk - 1)
                      case measure => omega
                      case rel => exact ⟨j + 1, rfl, by omega, ⟨by first | exact HBj.out | exact below_step HBj.out (pw_below_drewN (Below.refl _ _) _)⟩⟩
                  · have c9 : decide ((j : Int) < (m : Int)) = false := decide_eq_false hj
                    go_wp2_with fail
                    go_roundg (29 - i)
                    case measure => omega
                    case rel => exact ⟨i + 1, L7, E7, rfl, by rw [HLEN.out], rfl, by omega, by omega, by rw [HLEN.out]; omega, ⟨S7, Q7, N + 2, D7, M7, _, _, HIE.out.below HBj.out, by omega, by rw [List.length_append]; have : WS.zero.recs.length = 2 := rfl; omega⟩⟩
      · have c6 : decide ((i : Int) < (l.length : Int)) = true := decide_eq_true h1
        have c7 : decide ((i : Int) < 30) = false := decide_eq_false h2
        have HLC := Aside0.mk (HI.out.lg.wl.last HI.out.lg.mok)
        have hla : M.st.last = (E.length : Int) := by rw [HI.out.st]; unfold WS.last; simp
        rw [hla] at HLC
        clear hla
        go_wp2_with fail
        refine HLC.out.mono ?_
        rintro e w3 ⟨rfl, rfl⟩
        go_wp2_with fail
        go_ret
        exact ⟨rfl, (by first | exact HI.out.lg.wl.dk.1 | exact below_step HI.out.lg.wl.dk.1 (pw_below_drewN (Below.refl _ _) _))⟩
    · have c6 : decide ((i : Int) < (l.length : Int)) = false := decide_eq_false h1
      have HLC := Aside0.mk (HI.out.lg.wl.last HI.out.lg.mok)
      have hla : M.st.last = (E.length : Int) := by rw [HI.out.st]; unfold WS.last; simp
      rw [hla] at HLC
      clear hla
      go_wp2_with fail
      refine HLC.out.mono ?_
      rintro e w3 ⟨rfl, rfl⟩
      go_wp2_with fail
      go_ret
      exact ⟨rfl, (by first | exact HI.out.lg.wl.dk.1 | exact below_step HI.out.lg.wl.dk.1 (pw_below_drewN (Below.refl _ _) _))⟩
end Go.Proofs.Ytmmiipnmimjojaa.PS
end
section
namespace Go.Proofs.Ytmmiipnmimjojaa.PS
open Go.RowKit Go.ChangeShapes Go.WideShapes Go.ChangeAt Go.Proofs.YtmmiipnmimjojaaW.PrintWords Go.Proofs.Ytmmiipnmimjojaa.OpenK
set_option linter.unusedVariables false
theorem trod_pair {H : Type} {enc : TypeId × Value → H} {P : Program} {w : World} {base : Nat} {spare : Nat → Bool} {held : Bool} {t e : TypeId} {fuel : Nat} {cs : List Value} {x : DataW H × List MemPlace} (ht : P.underlying t = some (.array 2 e)) (hce : P.cellsOf e = 1) (hct : P.cellsOf t = 2)
    (h : DataW.trod enc P w base spare held fuel t cs = some x) : ∃ c0 c1 y0 y1 n, cs = [c0, c1] ∧ DataW.trod enc P w base spare held n e [c0] = some y0 ∧ DataW.trod enc P w base spare held n e [c1] = some y1 := by
  cases fuel with
  | zero => simp [DataW.trod] at h
  | succ n =>
    unfold DataW.trod at h
    rw [ht] at h
    have r2 : List.range 2 = [0, 1] := rfl
    simp [r2, hce] at h
    obtain ⟨hl, h⟩ := h
    rw [hct] at hl
    match cs, hl with
    | [c0, c1], _ =>
      simp at h
      cases h0 : DataW.trod enc P w base spare held n e [c0] with
      | none => simp [h0] at h
      | some y0 =>
        cases h1 : DataW.trod enc P w base spare held n e [c1] with
        | none => simp [h0, h1] at h
        | some y1 => exact ⟨c0, c1, y0, y1, n, rfl, h0, h1⟩
theorem cells44 : Try.prog.cellsOf 44 = 2 := by kernel_rfl
theorem cells5 : Try.prog.cellsOf 5 = 1 := by kernel_rfl
def GoodA (x : Int × Int) : Prop := (Lit.int .u8 x.1).wf = true ∧ (Lit.int .u8 x.2).wf = true
def SmallA (B : Nat) (x : Int × Int) : Prop := True
theorem opensA : Opens Try.prog 44 kA GoodA SmallA where
  mono := fun _ _ _ _ h => h
  open_ := by
    intro H enc w base spare held n cs x h hs
    obtain ⟨c0, c1, y0, y1, m, rfl, h0, h1⟩ := trod_pair Try.underlying44 cells5 cells44 h
    obtain ⟨a, e1, _, w1⟩ := DataW.trod_int Try.underlying5 h0
    obtain ⟨b, e2, _, w2⟩ := DataW.trod_int Try.underlying5 h1
    injection e1 with e1
    injection e2 with e2
    subst e1
    subst e2
    exact ⟨(a, b), ⟨[.int .u8 a], [.int .u8 b], rfl, rfl, rfl⟩, ⟨w1, w2⟩, trivial⟩
theorem tollgatetop_TopRecovers.calls (A0 : Option Addr) (c0 : Nat) (x0 : List (Int × Int)) (A1 : Option Addr) (c1 : Nat) (x1 : List Int) (r : Bool) (W : World) (h0 : kA.C W A0 x0.length x0) (l0 : x0.length ≤ c0) (h1 : (Kd.int .i64).C W A1 x1.length x1) (l1 : x1.length ≤ c1) (hp : r = true ∧ x0.length ≤ 140737488355328 ∧ (∀ x ∈ x0, (0 ≤ x.1 ∧ x.1 ≤ 255) ∧ 0 ≤ x.2 ∧ x.2 ≤ 255) ∧ Nums x1) :
    Calls Try.prog 5 #[.slice A0 x0.length c0, .slice A1 x1.length c1] W fun e w' => e = .returned (.bool r) ∧ Below W.heap.size W w' := by
  obtain ⟨rfl, h2, h3, h4⟩ := hp
  exact topRecovers_calls h0 l0 h1 l1 h2 (by have := h4.1; omega) h4.2 h3
end Go.Proofs.Ytmmiipnmimjojaa.PS
namespace Go.Proofs.Ytmmiipnmimjojaa.Pure
open Go.RowKit Go.Proofs.YtmmiipnmimjojaaW.PrintWords Go.Proofs.Ytmmiipnmimjojaa.OpenK Go.Proofs.Ytmmiipnmimjojaa.PS
theorem TopRecovers_pure (x0 : List (Int × Int)) (x1 : List Int) (g0 : x0.length * 2 ≤ reachBytes ∧ x0.length ≤ maxLen ∧ ∀ y ∈ x0, GoodA y) (g1 : x1.length * 8 ≤ reachBytes ∧ x1.length ≤ maxLen ∧ ∀ y ∈ x1, (Lit.int .i64 y).wf = true) : true = true ∧ x0.length ≤ 140737488355328 ∧ (∀ x ∈ x0, (0 ≤ x.1 ∧ x.1 ≤ 255) ∧ 0 ≤ x.2 ∧ x.2 ≤ 255) ∧ Nums x1 :=
  ⟨rfl, by have h1 : x0.length * 2 ≤ 140737488351232 := g0.1; omega, fun x hx => ⟨u8_of (g0.2.2 x hx).1, u8_of (g0.2.2 x hx).2⟩, nums_of g1⟩
end Go.Proofs.Ytmmiipnmimjojaa.Pure
end
section
namespace Go.Proofs.Ytmmiipnmimjojaa.topRecovers
open Go.ChangeShapes Go.WideShapes Go.ChangeAt Go.RowKit Go.Proofs.YtmmiipnmimjojaaW.PrintWords Go.Proofs.Ytmmiipnmimjojaa.OpenK Go.Proofs.Ytmmiipnmimjojaa.PS
open Go.ChangeMaps (open_string shut_string)
set_option linter.unusedVariables false
theorem own : ownKnob Try.prog.godebug = none := by kernel_rfl
theorem laidOut : laidOutB Try.prog = true := by kernel_rfl
set_option maxRecDepth 1000000 in
set_option maxHeartbeats 1000000 in
theorem contract (H : Type) (enc : TypeId × Value → H) (W : World) (base : Nat) (args : Array Value) (ds gs : List (DataW H)) (before : List MemPlace)
    (hval0 : ∀ (j : Nat) t v, Try.f5.params[j]? = some t → args[j]? = some v → Value.okWide Try.prog W .any base t v)
    (hW : DataW.Whole enc Try.prog Try.f5.params.toList Rows.topRecoversSpec.vars false W args.toList ds gs before)
    (hsz0 : (DataW.weightsEach Try.prog (Try.f5.params.toList ++ Rows.topRecoversSpec.plain.varTypes Try.prog) (ds ++ gs)).all (· ≤ reachBytes) = true) :
    Calls Try.prog 5 args W fun e W' => ∃ v, e = .returned v ∧ Rows.topRecoversSpec.post enc Try.prog Try.f5 false true false false W args v W' := by
  have hsz : (DataW.weightsEach Try.prog (Try.f5.params.toList ++ Rows.topRecoversSpec.plain.varTypes Try.prog) (ds ++ gs)).all (· ≤ reachBytes) = true := hsz0
  have hval : ∀ (j : Nat) t v, Try.f5.params[j]? = some t → args[j]? = some v → Value.okWide Try.prog W .any base t v := hval0
  have hW' := hW
  obtain ⟨p, q, hA0, hV, rfl, hfz, hnd⟩ := hW
  have hA : DataW.TrodAll enc Try.prog W 0 (fun _ => true) true Try.f5.params.toList args.toList ds p := hA0
  rw [Try.params5] at hA hval hsz
  obtain ⟨v0, vs0, d0, ds0, p0, q0, hargs, rfl, rfl, h0, r0⟩ := trodAll_cons hA
  obtain ⟨v1, vs1, d1, ds1, p1, q1, rfl, rfl, rfl, h1, r1⟩ := trodAll_cons r0
  obtain ⟨rfl, rfl, rfl⟩ := trodAll_nil r1
  obtain rfl : args = #[v0, v1] := by cases args; simp_all
  obtain ⟨rfl, rfl⟩ := trodVars_none hV
  have k0 := h0
  have lt0 : ∀ x ∈ p0, x.block < W.heap.size := by obtain ⟨m, hm⟩ := k0; exact DataW.trod_lt m _ _ _ hm
  have z0 := arg_sized hsz (j := 0) (t := 40) rfl rfl
  obtain ⟨a0, len0, cap0, rfl⟩ := okWide_slice Try.underlying40 (hval 0 40 v0 rfl rfl)
  obtain ⟨fuel0, hf0⟩ := h0
  obtain ⟨x0, ⟨A0, c0, e0, l0, C0⟩, g0, s0⟩ := (opens_slice (B := 2) Try.underlying40 opensA (by kernel_rfl) (by kernel_rfl)).open_ hf0 z0
  have e0' : Value.slice a0 len0 cap0 = .slice A0 x0.length c0 := by simpa [Value.cells] using e0
  rw [e0']
  have k1 := h1
  have lt1 : ∀ x ∈ p1, x.block < W.heap.size := by obtain ⟨m, hm⟩ := k1; exact DataW.trod_lt m _ _ _ hm
  have z1 := arg_sized hsz (j := 1) (t := 32) rfl rfl
  obtain ⟨a1, len1, cap1, rfl⟩ := okWide_slice Try.underlying32 (hval 1 32 v1 rfl rfl)
  obtain ⟨fuel1, hf1⟩ := h1
  obtain ⟨x1, ⟨A1, c1, e1, l1, C1⟩, g1, s1⟩ := (opens_slice (B := 8) Try.underlying32 (opens_int Try.underlying3) (by kernel_rfl) (by kernel_rfl)).open_ hf1 z1
  have e1' : Value.slice a1 len1 cap1 = .slice A1 x1.length c1 := by simpa [Value.cells] using e1
  rw [e1']
  clear hA0 hval0 hsz0 hsz
  have hp := Pure.TopRecovers_pure x0 x1 g0 g1
  refine (PS.tollgatetop_TopRecovers.calls A0 c0 x0 A1 c1 x1 true W C0 l0 C1 l1 hp).mono ?_
  rintro e W' ⟨rfl, hd⟩
  have bel : Below W.heap.size W W' := hd
  rw [← e0', ← e1']
  exact ⟨_, rfl, _, _, _, [], _, [], hW', trodAll_mk1 (shut_bool Try.underlying4 _), (trodAll_cons_mk (Below.trod laidOut (by kernel_rfl) (of_decide_eq_true (by kernel_rfl)) k0 bel lt0) (trodAll_cons_mk (Below.trod laidOut (by kernel_rfl) (of_decide_eq_true (by kernel_rfl)) k1 bel lt1) trodAll_mk0)), rfl, bel.frame _, fun h => by cases h⟩
set_option maxRecDepth 100000 in
theorem lifted (os : Os) (started : os.Started) (H : Type) (enc : TypeId × Value → H) :
    ReturnsInHanded {} Try.checked os 5 .any (Rows.topRecoversSpec.pre6 enc Try.prog Try.f5 Rows.topRecoversRow.domain false) (Rows.topRecoversSpec.post enc Try.prog Try.f5 false true false false) := by
  refine returnsInHanded_of_change_sized (C := Try.checked) own started (by kernel_rfl) Try.func5
    (ChangeSpec.witness6 (enc := enc) (C := Try.checked) false ⟨#[], #[.slice none 0 0, .slice none 0 0], []⟩ 8 (by kernel_rfl) (by kernel_rfl) (by kernel_rfl) (by kernel_rfl)) ?_
  intro W base args ds gs before hval0 hW hcnd hsz0 _
  exact contract H enc W base args ds gs before hval0 hW hsz0
theorem over : Rows.topRecoversRow.holds Try.pinned (OpenSpec.ofChange Rows.topRecoversSpec) :=
  OpenClaim.holds_of_wide 5 Try.f5 rfl rfl rfl rfl rfl rfl rfl ⟨rfl, rfl, rfl, rfl, rfl⟩ rfl rfl rfl rfl rfl (by kernel_rfl) Try.func5 (by kernel_rfl)
    (of_decide_eq_true (by kernel_rfl)) (by unfold Func.isWrapper; first | (rw [if_pos (by decide +kernel)]; kernel_rfl) | (rw [if_neg (by decide +kernel)]; exact ⟨rfl, rfl⟩))
    (fun os started H enc _ => lifted os started H enc)
end Go.Proofs.Ytmmiipnmimjojaa.topRecovers
namespace Go.Proofs.Ytmmiipnmimjojaa
theorem topRecovers_holds : Rows.TopRecoversSaid := topRecovers.over
end Go.Proofs.Ytmmiipnmimjojaa
end
