/- law 05's same: both tell the same. -/
import Derived.Test.YtmmiipnmimjojaaP1
import Derived.Test.YtmmiipnmimjojaaR7
namespace Go.Proofs.Ytmmiipnmimjojaa.PS
open Go.RowKit Go.Proofs.YtmmiipnmimjojaaW.PrintWords Go.Proofs.YtmmiipnmimjojaaW.PrintLast Go.Proofs.YtmmiipnmimjojaaW.PrintMore
open Go.Maps Go.Proofs.Ytmmiipnmimjojaa.PD
set_option linter.unusedVariables false
set_option linter.unusedSimpArgs false
theorem names_sz {N : Nat} {D : Dsk} (h : DInv N D) : ∀ s ∈ namesB D.files, s.size ≤ maxLen := by
  intro s hs
  obtain ⟨p, hp, rfl⟩ := List.mem_map.1 hs
  have := namedB_size (h.files p.1 p.2 hp).named
  unfold maxLen
  omega
theorem nth_mem {l : List ByteArray} {i : Int} (h0 : 0 ≤ i) (h1 : i < (l.length : Int)) : l.getD i.toNat ByteArray.empty ∈ l := by
  rw [List.getD_eq_getElem?_getD, List.getElem?_eq_getElem (by omega)]
  exact List.getElem_mem _
set_option maxHeartbeats 4000000 in
set_option maxRecDepth 100000 in
theorem same_calls {W0 W : World} {S R : Nat → Prop} {g r N : Nat} {D : Dsk} (h : Pr W0 W S R g r N D D.room (refL D.files)) (hN : N ≤ 1000000) :
    Calls Try.prog 38 #[.pointer (some ⟨g, 0, none⟩), .pointer (some ⟨r, 0, none⟩)] W fun e w' => e = .returned (.bool true) ∧ Below W.heap.size W w' := by
  have HP := Aside0.mk h
  have HI := Aside0.mk h.dk.2.2.2
  have hnl : (namesB D.files).length ≤ 16 := by rw [names_len]; exact h.dk.2.2.2.few
  have hu := h.dk.2.2.2.used
  have HSZ := Aside0.mk (names_sz h.dk.2.2.2)
  have HNL := Aside0.mk hnl
  clear h
  have hcs : ∀ (A : Option Addr) (c : Nat) (l : List Int) (w : World), k8.C w A l.length l → (convert 22 9 (.slice A l.length c)).run Try.prog w = .ok (.string (strOfNums l)) w := fun A c l w h => Kd.C_string Try.underlying22 Try.underlying5 Try.underlying9 h
  have HCS := Aside0.mk hcs
  clear hcs
  go_enter Try.func38, Try.ntmps38
  go_wp2_with fail
  refine (rnames_calls HP.out.rf HI.out).mono ?_
  rintro e w1 ⟨A1, c1, rfl, hr1, hb1⟩
  have HR1 := Aside0.mk hr1
  have HB1 := Aside0.mk hb1
  have HP1 := Aside0.mk (HP.out.below hb1)
  clear hr1 hb1
  go_wp2_with fail
  refine (dk_names HP1.out.dk).mono ?_
  rintro e w2 ⟨A2, c2, rfl, hr2, hb2⟩
  have HR2 := Aside0.mk hr2
  have HB2 := Aside0.mk hb2
  have HP2 := Aside0.mk (HP1.out.below hb2)
  clear hr2 hb2
  go_wp2_with fail
  refine (tollgateref05_SameTexts.calls _ A2 c2 (namesB D.files) A1 c1 (namesB D.files) true w2 (Kd.R_reads' HR2.out).2.2 (Kd.R_reads' HR2.out).2.1 (Kd.C_below (Kd.R_reads' HR1.out).2.2 HB2.out) (Kd.R_reads' HR1.out).2.1 (sameT_f _ _ (by omega) rfl)).mono ?_
  rintro e w3 ⟨rfl, hdr⟩
  have hb3 : Below w2.heap.size w2 w3 := by obtain ⟨n, rfl⟩ := hdr.out; exact pw_below_drewN (Below.refl _ _) _
  have HB3 := Aside0.mk hb3
  have HP3 := Aside0.mk (HP2.out.below hb3)
  clear hb3 hdr
  go_wp2_with fail
  refine (dk_used HP3.out.dk).mono ?_
  rintro e w4 ⟨rfl, hb4⟩
  have HB4 := Aside0.mk hb4
  have HP4 := Aside0.mk (HP3.out.below hb4)
  clear hb4
  go_wp2_with fail
  refine (rused_calls HP4.out.rf HI.out hN).mono ?_
  rintro e w5 ⟨rfl, hb5⟩
  have HP5 := Aside0.mk (HP4.out.below hb5)
  have HB5 := Aside0.mk (below_step (below_step (below_step HB2.out HB3.out) HB4.out) hb5)
  clear hb5
  obtain ⟨NL, hNL⟩ : ∃ NL, namesB D.files = NL := ⟨_, rfl⟩
  rw [hNL] at HSZ HNL HR1 ⊢
  have hnl2 := HNL.out
  clear hNL HR2 hu hnl
  go_wp2_with fail
  go_loopg [6] NL.length (fun kq v6 w' => ∃ i : Int, v6 = .int .i64 i ∧ 0 ≤ i ∧ i + kq = NL.length ∧ Aside0 (Below w5.heap.size w5 w'))
  case atStart => exact ⟨0, rfl, by omega, by omega, ⟨Below.refl _ _⟩⟩
  case round =>
    obtain ⟨i, rfl, i0, i1, HB⟩ := hrel
    by_cases hi : i < (NL.length : Int)
    · have c6 : decide (i < (NL.length : Int)) = true := decide_eq_true hi
      have hne : NL ≠ [] := fun e => by subst e; simp at hi; omega
      have hC := Kd.C_below (Kd.C_below (Kd.R_reads' HR1.out).2.2 HB5.out) HB.out
      obtain ⟨a1, rfl⟩ := C_some hC hne
      have hcell := cellS hC i0 hi
      have hssz := HSZ.out _ (nth_mem i0 hi)
      obtain ⟨s, hs⟩ : ∃ s, NL.getD i.toNat ByteArray.empty = s := ⟨_, rfl⟩
      rw [hs] at hcell hssz
      have p0 := eq_true i0
      have p1 := eq_true hi
      have hni : IntKind.i64.wrap (i + 1) = i + 1 := IntWalk.i64_in _ ⟨by omega, by omega⟩
      have HPr := Aside0.mk (HP5.out.below HB.out)
      have HSS := Aside0.mk hssz
      clear hne hC hs hssz
      go_wp2_with fail
      refine (dk_read HPr.out.dk hN HSS.out).mono ?_
      rintro e x1 ⟨B1, d1, rfl, hs1, hx1⟩
      have HS1 := Aside0.mk hs1
      have HX1 := Aside0.mk hx1
      have HPr1 := Aside0.mk (HPr.out.below hx1)
      have hcell1 := (hx1.cell (World.block_lt_of_cell? wr _ hcell)).trans hcell
      clear hs1 hx1 hcell
      go_wp2_with fail
      refine (rread_calls HPr1.out.rf HI.out hN).mono ?_
      rintro e x2 ⟨B2, d2, rfl, hs2, hx2⟩
      have HS2 := Aside0.mk hs2
      have HX2 := Aside0.mk hx2
      have HPr2 := Aside0.mk (HPr1.out.below hx2)
      have hcell2 := (hx2.cell (World.block_lt_of_cell? x1 _ hcell1)).trans hcell1
      clear hs2 hx2 hcell1
      go_wp2_with fail
      refine (dk_sure HPr2.out.dk hN HSS.out).mono ?_
      rintro e x3 ⟨B3, d3, rfl, hs3, hx3⟩
      have HS3 := Aside0.mk hs3
      have HX3 := Aside0.mk hx3
      have HPr3 := Aside0.mk (HPr2.out.below hx3)
      have hcell3 := (hx3.cell (World.block_lt_of_cell? x2 _ hcell2)).trans hcell2
      clear hs3 hx3 hcell2
      go_wp2_with fail
      refine (rsure_calls HPr3.out.rf HI.out hN).mono ?_
      rintro e x4 ⟨B4, d4, rfl, hs4, hx4⟩
      obtain ⟨rd, hrd⟩ : ∃ rd, dRead D s = rd := ⟨_, rfl⟩
      obtain ⟨sd, hsd⟩ : ∃ sd, dSure D s = sd := ⟨_, rfl⟩
      rw [hrd] at HS1 HS2 ⊢
      rw [hsd] at HS3 hs4 ⊢
      have q1 := HCS.out B1 d1 rd.1 x4 (Kd.C_below (Kd.C_below (Kd.C_below (Kd.R_reads' HS1.out).2.2 HX2.out) HX3.out) hx4)
      have q2 := HCS.out B2 d2 rd.1 x4 (Kd.C_below (Kd.C_below (Kd.R_reads' HS2.out).2.2 HX3.out) hx4)
      have q3 := HCS.out B3 d3 sd.1 x4 (Kd.C_below (Kd.R_reads' HS3.out).2.2 hx4)
      have q4 := HCS.out B4 d4 sd.1 x4 (Kd.R_reads' hs4).2.2
      have HX4 := Aside0.mk hx4
      clear hs4 hx4 hcell3 hrd hsd
      go_wp2_with fail
      go_roundg (gk - 1)
      case measure => omega
      case rel => exact ⟨i + 1, rfl, by omega, by omega, ⟨below_step (below_step (below_step (below_step HB.out HX1.out) HX2.out) HX3.out) HX4.out⟩⟩
    · have c6 : decide (i < (NL.length : Int)) = false := decide_eq_false hi
      go_wp2_with fail
      go_ret
      exact ⟨rfl, below_step (below_step HB1.out HB5.out) HB.out⟩
end Go.Proofs.Ytmmiipnmimjojaa.PS
