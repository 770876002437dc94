/- DiskOwn. -/
import Derived.Test.YtmmiipnmimjojaaP4
import Derived.Test.YtmmiipnmimjojaaL1
namespace Go.Proofs.Ytmmiipnmimjojaa.PS
open Go.RowKit Go.Proofs.YtmmiipnmimjojaaW.PrintWords Go.Proofs.YtmmiipnmimjojaaW.PrintLast Go.Proofs.YtmmiipnmimjojaaW.PrintMore
open Go.Maps Go.Proofs.Ytmmiipnmimjojaa.PD
set_option linter.unusedVariables false
set_option linter.unusedSimpArgs false
theorem read_len {N : Nat} {D : Dsk} (h : DInv N D) (s : ByteArray) : (dRead D s).1.length ≤ 262144 ∧ (dSure D s).1.length ≤ 262144 := by
  unfold dRead dSure
  cases hg : aget s.data.toList D.files with
  | none => exact ⟨Nat.zero_le _, Nat.zero_le _⟩
  | some f =>
    refine ⟨(h.get hg).short, ?_⟩
    dsimp only
    split
    · exact (h.get hg).ch.len
    · exact Nat.zero_le _
set_option maxHeartbeats 4000000 in
set_option maxRecDepth 100000 in
theorem own_calls {W : World} {A : Option Addr} {c : Nat} {l : List S58} (hA : Kd.C k58 W A l.length l) (hc : l.length ≤ c) (hl : Script l) :
    Calls Try.prog 10 #[.slice A l.length c] W fun e w' => e = .returned (.bool true) ∧ Below W.heap.size W w' := by
  have HPL := Aside0.mk (play_calls (z := 3000) hA hc hl (by decide))
  clear hA hl
  go_enter Try.func10, Try.ntmps10
  go_wp2_with fail
  refine HPL.out.mono ?_
  rintro e w1 ⟨g, r, S, R, N, D, rfl, hN, hrm, hp⟩
  have HP := Aside0.mk hp
  have HSZ := Aside0.mk (names_sz hp.dk.2.2.2)
  have HRL := Aside0.mk (fun s => read_len hp.dk.2.2.2 s)
  have hnl : (namesB D.files).length ≤ 16 := by rw [names_len]; exact hp.dk.2.2.2.few
  clear hp hrm
  go_wp2_with fail
  refine (dk_names HP.out.dk).mono ?_
  rintro e w3 ⟨A3, c3, rfl, hr3, hb3⟩
  have HP3 := Aside0.mk (HP.out.below hb3)
  have HR3 := Aside0.mk hr3
  clear hr3 hb3
  obtain ⟨NL, hNL⟩ : ∃ NL, namesB D.files = NL := ⟨_, rfl⟩
  rw [hNL] at HSZ hnl HR3 ⊢
  clear hNL
  go_wp2_with fail
  go_loopg [7] NL.length (fun kq v7 w' => ∃ i : Int, v7 = .int .i64 i ∧ 0 ≤ i ∧ i + kq = NL.length ∧ Aside0 (Below w3.heap.size w3 w'))
  case atStart => exact ⟨0, rfl, by omega, by omega, ⟨Below.refl _ _⟩⟩
  case round =>
    obtain ⟨i, rfl, i0, i1, HBB⟩ := hrel
    have hC0 := Kd.C_below (Kd.R_reads' HR3.out).2.2 HBB.out
    by_cases hi : i < (NL.length : Int)
    · have c6 : decide (i < (NL.length : Int)) = true := decide_eq_true hi
      have hne : NL ≠ [] := fun e => by subst e; simp at hi; omega
      obtain ⟨a1, rfl⟩ := C_some hC0 hne
      have hcell := cellS hC0 i0 hi
      have hssz := HSZ.out _ (nth_mem i0 hi)
      obtain ⟨s, hs⟩ : ∃ s, NL.getD i.toNat ByteArray.empty = s := ⟨_, rfl⟩
      rw [hs] at hcell hssz
      have p0 := eq_true i0
      have p1 := eq_true hi
      have hni : IntKind.i64.wrap (i + 1) = i + 1 := IntWalk.i64_in _ ⟨by omega, by omega⟩
      have HPr := Aside0.mk (HP3.out.below HBB.out)
      have HSS := Aside0.mk hssz
      obtain ⟨hl1, hl2⟩ := HRL.out s
      obtain ⟨bb, hbb⟩ : ∃ bb, dRead D s = bb := ⟨_, rfl⟩
      obtain ⟨ss, hss⟩ : ∃ ss, dSure D s = ss := ⟨_, rfl⟩
      rw [hbb] at hl1
      rw [hss] at hl2
      have HRD := Aside0.mk hbb
      have HSR := Aside0.mk hss
      clear hne hC0 hs hssz hbb hss
      obtain ⟨wo, rfl⟩ : ∃ wo : World, wo = wr := ⟨_, rfl⟩
      obtain ⟨go, rfl⟩ : ∃ x : Nat, x = gk := ⟨_, rfl⟩
      go_wp2_with fail
      refine (dk_read HPr.out.dk (by omega) HSS.out).mono ?_
      rintro e x1 ⟨B1, d1, rfl, hs1, hx1⟩
      rw [HRD.out] at hs1 ⊢
      have HS1 := Aside0.mk (Kd.R_mono (Kd.R_bound hs1) (ok' := fun k => k < x1.heap.size) (fun k hk => hk.2.2.1))
      have HX1 := Aside0.mk hx1
      have HPr1 := Aside0.mk (HPr.out.below hx1)
      have hcell1 := (hx1.cell (World.block_lt_of_cell? wo _ hcell)).trans hcell
      clear hs1 hx1 hcell
      go_wp2_with fail
      refine (dk_sure HPr1.out.dk (by omega) HSS.out).mono ?_
      rintro e x2 ⟨B2, d2, rfl, hs2, hx2⟩
      rw [HSR.out] at hs2 ⊢
      have HS2 := Aside0.mk (Kd.R_lower (Kd.R_mono (Kd.R_bound hs2) (ok' := fun k => x1.heap.size ≤ k) (fun k hk => hk.2.1)) HX1.out.size)
      have HS1b := Aside0.mk (Kd.R_below HS1.out hx2)
      have HX2 := Aside0.mk (below_step HX1.out hx2)
      clear hs2 hx2 hcell1 HS1 HPr1
      obtain ⟨b1, b2⟩ := bb
      obtain ⟨s1, s2⟩ := ss
      dsimp only at hl1 hl2 HS1b HS2
      go_wp2_with fail
      go_loopg [12] b1.length (fun kq v12 w' => ∃ (k : Int) (l' : List Int), v12 = .int .i64 k ∧ 0 ≤ k ∧ k + kq = b1.length ∧ Aside0 (l'.length = b1.length) ∧ Aside0 (k8.R 5 w' wo.heap.size (fun k => k < x1.heap.size) (.slice B1 b1.length d1) l') ∧ Aside0 (k8.R 5 w' wo.heap.size (fun k => x1.heap.size ≤ k) (.slice B2 s1.length d2) s1) ∧ Aside0 (Below wo.heap.size wo w'))
      case atStart => exact ⟨0, b1, rfl, by omega, by omega, ⟨rfl⟩, HS1b, HS2, HX2⟩
      case round =>
        clear HS1b HS2 HX2
        obtain ⟨k, l', rfl, k0, k1, HLN, HRa, HRb, HB⟩ := hrel
        by_cases hk : k < (b1.length : Int)
        · have c7 : decide (k < (b1.length : Int)) = true := decide_eq_true hk
          have HR' := HRa.out
          obtain ⟨gL, cap, e9, hgb, hgl, cl, hgc⟩ := Kd.R_form HR' (by have := HLN.out; omega)
          injection e9 with ea en ec
          subst ea
          subst ec
          clear en
          obtain ⟨hx, hfr⟩ := Kd.R_celln 0 HR' k k0 hk
          have hgx : gL < x1.heap.size := HR'.1 gL (by simp [Value.ownBlock])
          have q0 := eq_true k0
          have q1 := eq_true hk
          have hnk : IntKind.i64.wrap (k + 1) = k + 1 := IntWalk.i64_in _ ⟨by omega, by omega⟩
          have HGB := Aside0.mk hgb
          have HGX := Aside0.mk hgx
          clear HR' hgc hgb hgl hgx
          go_wp2_with fail
          go_roundg (gk - 1)
          case measure => omega
          case rel => exact ⟨k + 1, l'.set k.toNat _, rfl, by omega, by omega, ⟨by rw [List.length_set]; exact HLN.out⟩, ⟨(Kd.R_putg HRa.out k _).1⟩, ⟨Kd.R_mono (Kd.R_far (p := ⟨gL, k.toNat, none⟩) HRb.out (fun k hk => by have := HGX.out; dsimp only; omega) _) (fun k hk => hk)⟩, ⟨below_set HB.out HGB.out⟩⟩
        · have c7 : decide (k < (b1.length : Int)) = false := decide_eq_false hk
          have hll := HLN.out
          go_wp2_with ((with_reducible refine gate_dst (N := 62) rfl ?_); refine Kd.R_append_rows k8 (w0 := wo) wo.heap.size (by rfl) (.tmp 60) (.tmp 61) 22 5 (.int .u8 0) 1 (by rfl) Try.underlying22 info5 (by rfl) (by decide) (by decide) (.slice B1 b1.length d1) l' [1, 2, 3] (some ⟨wr.heap.size, 0, none⟩) 3 3 (fun _ => True) (fun _ => False) (by rfl) (by rfl) (Kd.R_alloc (Kd.R_mono HRa.out (fun _ _ => trivial)) _) (C_lit .u8 wr [1, 2, 3] 5 (by decide) (0, 0) rfl) (fun _ _ h => h) (fun _ h => h.elim) (fun _ _ => trivial) (below_alloc HB.out _) (below_alloc HB.out _).size (by omega) ?_; intro v6 w6 hR hb6 hg6 hat; obtain ⟨A6, c6', rfl⟩ := Kd.R_slice hR; have HRb6 := Aside0.mk (Kd.R_grown (Kd.R_alloc HRb.out _) hg6 (fun k hk e => by have h1 := HRa.out.1 k e.symm; omega)); have HB6 := Aside0.mk hb6; clear hR hb6 hg6 hat)
          clear HRa HRb HB hll
          go_loopg [13] s1.length (fun kq v13 w' => ∃ (m : Int) (l2 : List Int), v13 = .int .i64 m ∧ 0 ≤ m ∧ m + kq = s1.length ∧ Aside0 (l2.length = s1.length) ∧ Aside0 (k8.R 5 w' wo.heap.size (fun k => x1.heap.size ≤ k) (.slice B2 s1.length d2) l2) ∧ Aside0 (Below wo.heap.size wo w'))
          case atStart => exact ⟨0, s1, rfl, by omega, by omega, ⟨rfl⟩, HRb6, HB6⟩
          case round =>
            clear HRb6 HB6
            obtain ⟨m, l2, rfl, m0, m1, HLM, HRb, HB⟩ := hrel
            by_cases hm : m < (s1.length : Int)
            · have c8 : decide (m < (s1.length : Int)) = true := decide_eq_true hm
              have HR' := HRb.out
              obtain ⟨gL, cap, e9, hgb, hgl, cl, hgc⟩ := Kd.R_form HR' (by have := HLM.out; omega)
              injection e9 with ea en ec
              subst ea
              subst ec
              clear en
              obtain ⟨hx, hfr⟩ := Kd.R_celln 0 HR' m m0 hm
              have q0 := eq_true m0
              have q1 := eq_true hm
              have hnm : IntKind.i64.wrap (m + 1) = m + 1 := IntWalk.i64_in _ ⟨by omega, by omega⟩
              have HGB := Aside0.mk hgb
              clear HR' hgc hgb hgl
              go_wp2_with fail
              go_roundg (gk - 1)
              case measure => omega
              case rel => exact ⟨m + 1, l2.set m.toNat _, rfl, by omega, by omega, ⟨by rw [List.length_set]; exact HLM.out⟩, ⟨(Kd.R_putg HRb.out m _).1⟩, ⟨below_set HB.out HGB.out⟩⟩
            · have c8 : decide (m < (s1.length : Int)) = false := decide_eq_false hm
              have hll := HLM.out
              have t1 : decide (((b1.length : Int) + 3) < 3) = false := decide_eq_false (by omega)
              have t2 : decide (((s1.length : Int) + 1) < 1) = false := decide_eq_false (by omega)
              go_wp2_with ((with_reducible refine gate_dst (N := 77) rfl ?_); refine Kd.R_append_rows k8 (w0 := wo) wo.heap.size (by rfl) (.tmp 75) (.tmp 76) 22 5 (.int .u8 0) 1 (by rfl) Try.underlying22 info5 (by rfl) (by decide) (by decide) (.slice B2 s1.length d2) l2 [4] (some ⟨wr.heap.size, 0, none⟩) 1 1 (fun _ => True) (fun _ => False) (by rfl) (by rfl) (Kd.R_alloc (Kd.R_mono HRb.out (fun _ _ => trivial)) _) (C_lit .u8 wr [4] 5 (by decide) (0, 0) rfl) (fun _ _ h => h) (fun _ h => h.elim) (fun _ _ => trivial) (below_alloc HB.out _) (below_alloc HB.out _).size (by omega) ?_; intro v7 w7 hR hb7 hg7 hat; obtain ⟨A7, c7', rfl⟩ := Kd.R_slice hR; have HB7 := Aside0.mk hb7; clear hR hb7 hg7 hat)
              go_roundg (go - 1)
              case measure => omega
              case rel => exact ⟨i + 1, rfl, by omega, by omega, ⟨below_step HBB.out HB7.out⟩⟩
    · have c6 : decide (i < (NL.length : Int)) = false := decide_eq_false hi
      have HPr := Aside0.mk (HP3.out.below HBB.out)
      clear hC0
      go_wp2_with fail
      refine (same_calls HPr.out (by omega)).mono ?_
      rintro e x1 ⟨rfl, hx1⟩
      have HPr1 := Aside0.mk (HPr.out.below hx1)
      clear hx1
      go_wp2_with fail
      refine (pd_crash (keep := []) HPr1.out (by omega) (Kd.C_nil _ _) (fun ad e => by cases e) (fun z hz => (List.not_mem_nil hz).elim)).mono ?_
      rintro e x2 ⟨rfl, S2, hp2, _⟩
      have HPr2 := Aside0.mk hp2
      clear hp2
      go_wp2_with fail
      refine (pr_crash (keep := []) HPr2.out HPr1.out.dk.2.2.2 (by omega) (Kd.C_nil _ _) (fun z hz => (List.not_mem_nil hz).elim)).mono ?_
      rintro e x3 ⟨rfl, R3, hp3, _⟩
      have HPr3 := Aside0.mk hp3
      clear hp3
      go_wp2_with fail
      refine (live_calls _).mono ?_
      rintro e x4 ⟨rfl, hx4⟩
      have HPr4 := Aside0.mk (HPr3.out.below hx4)
      clear hx4
      go_wp2_with fail
      refine (same_calls (D := dCrash D []) HPr4.out (by omega)).mono ?_
      rintro e x5 ⟨rfl, hx5⟩
      have HPr5 := Aside0.mk (HPr4.out.below hx5)
      clear hx5
      go_wp2_with fail
      go_ret
      exact ⟨rfl, HPr5.out.dk.1⟩
end Go.Proofs.Ytmmiipnmimjojaa.PS
