/- DiskTwice. -/
import Derived.Test.YtmmiipnmimjojaaP4
import Derived.Test.YtmmiipnmimjojaaL1
import Derived.Deep.QuietTactic
import Derived.BigQuiet
namespace Go.Proofs.Ytmmiipnmimjojaa.PS
open Go.RowKit Go.Proofs.YtmmiipnmimjojaaW.PrintWords Go.Proofs.YtmmiipnmimjojaaW.PrintLast Go.Proofs.YtmmiipnmimjojaaW.PrintMore
open Go.Maps Go.Proofs.Ytmmiipnmimjojaa.PD
set_option linter.unusedVariables false
set_option linter.unusedSimpArgs false
theorem dk_arg {W W1 : World} {S : Nat → Prop} {g N : Nat} {D : Dsk} (h : Dk W W1 S g N D) {K : IntKind} {A : Option Addr} {l : List Int} (hr : (Kd.int K).C W A l.length l) : ∀ ad, A = some ad → 0 < l.length → ¬ S ad.block := fun ad e hn hS => by
  subst e
  have h1 := Kd.C_lt hr hn (by show 0 < 1; decide)
  have h2 := (h.2.1 _ hS).1
  omega
/-- All bytes last. -/
def Firm (f : Fil) : Prop := f = ⟨f.f1, f.f1, true, []⟩
theorem crF_firm {f f' : Fil} {k : Int} (h : crF f k = some f') : Firm f' := by
  unfold crF at h
  split at h
  · cases h
  · injection h with h
    rw [← h]
    rfl
theorem firm_crF {f : Fil} (h : Firm f) (k : Int) : crF f k = some f := by
  rw [h]
  unfold crF
  rw [if_neg (by rintro ⟨h, _⟩; cases h)]
  rfl
theorem crL_firm (keep : List Int) : ∀ (i : Nat) (l : List (Nm × Fil)), ∀ p ∈ crL keep i l, Firm p.2
  | _, [], p, hp => (List.not_mem_nil hp).elim
  | i, (n, f) :: l, p, hp => by
    have ih := crL_firm keep (i + 1) l
    unfold crL at hp
    split at hp
    · exact ih p hp
    · next f' hc =>
      rcases List.mem_cons.1 hp with e | hp
      · rw [e]; exact crF_firm hc
      · exact ih p hp
theorem firm_crL (keep : List Int) : ∀ (i : Nat) (l : List (Nm × Fil)), (∀ p ∈ l, Firm p.2) → crL keep i l = l
  | _, [], _ => rfl
  | i, (n, f) :: l, h => by
    have hf := firm_crF (h _ (.head _)) (kOf keep i)
    unfold crL
    rw [hf, firm_crL keep (i + 1) l (fun p hp => h p (.tail _ hp))]
theorem crash_twice (D : Dsk) (a b : List Int) : dCrash (dCrash D a) b = dCrash D a := by
  show (⟨D.room, crL b 0 (crL a 0 D.files)⟩ : Dsk) = ⟨D.room, crL a 0 D.files⟩
  rw [firm_crL b 0 _ (crL_firm a 0 D.files)]
theorem firm_read {N : Nat} {D : Dsk} (h : DInv N D) (hF : ∀ p ∈ D.files, Firm p.2) {s : ByteArray} (hs : s ∈ namesB D.files) : ∃ b, dRead D s = (b, 0) ∧ dSure D s = (b, 0) := by
  obtain ⟨p, hp, rfl⟩ := List.mem_map.1 hs
  have hg : aget p.1 D.files = some p.2 := aget_of_mem h.srt hp
  have hf := hF p hp
  refine ⟨p.2.f0, ?_, ?_⟩
  · unfold dRead
    rw [show (str p.1).data.toList = p.1 from rfl, hg]
  · unfold dSure
    rw [show (str p.1).data.toList = p.1 from rfl, hg]
    dsimp only
    rw [hf]
    rfl
set_option maxHeartbeats 4000000 in
set_option maxRecDepth 100000 in
theorem twice_calls {W : World} {A A1 A2 : Option Addr} {c c1 c2 : Nat} {l : List S58} {a b : List Int} (hA : Kd.C k58 W A l.length l) (hc : l.length ≤ c) (hl : Script l) (ha : (Kd.int .i64).C W A1 a.length a) (hb : (Kd.int .i64).C W A2 b.length b)
    (hka : ∀ z ∈ a, z ≤ 9223372036854775807) (hkb : ∀ z ∈ b, z ≤ 9223372036854775807) :
    Calls Try.prog 9 #[.slice A l.length c, .slice A1 a.length c1, .slice A2 b.length c2] W fun e w' => e = .returned (.bool true) ∧ Below W.heap.size W w' := by
  have HPL := Aside0.mk (play_calls (z := 5000) hA hc hl (by decide))
  have HA := Aside0.mk ha
  have HB := Aside0.mk hb
  have HKA := Aside0.mk hka
  have HKB := Aside0.mk hkb
  clear hA hl ha hb hka hkb
  by_cases h1 : (100 : Int) < (a.length : Int)
  · go_enter Try.func9, Try.ntmps9
    go_wp2_with fail
    refine HPL.out.mono ?_
    rintro e w1 ⟨g, r, S, R, N, D, rfl, hN, hrm, hp⟩
    have HP := Aside0.mk hp
    clear hp
    go_wp2_with fail
    refine (live_calls _).mono ?_
    rintro e w2 ⟨rfl, hb2⟩
    go_wp2_with fail
    go_ret
    exact ⟨rfl, below_step HP.out.dk.1 hb2⟩
  by_cases h2 : (100 : Int) < (b.length : Int)
  · go_enter Try.func9, Try.ntmps9
    go_wp2_with fail
    refine HPL.out.mono ?_
    rintro e w1 ⟨g, r, S, R, N, D, rfl, hN, hrm, hp⟩
    have HP := Aside0.mk hp
    clear hp
    go_wp2_with fail
    refine (live_calls _).mono ?_
    rintro e w2 ⟨rfl, hb2⟩
    go_wp2_with fail
    go_ret
    exact ⟨rfl, below_step HP.out.dk.1 hb2⟩
  go_enter Try.func9, Try.ntmps9
  go_wp2_with fail
  refine HPL.out.mono ?_
  rintro e w1 ⟨g, r, S, R, N, D, rfl, hN, hrm, hp⟩
  have HD := Aside0.mk hp.dk
  clear hp hrm
  go_wp2_with fail
  refine (dk_crash (keep := a) HD.out (by omega) (Kd.C_below HA.out HD.out.1) (dk_arg HD.out HA.out) HKA.out).mono ?_
  rintro e w2 ⟨rfl, S1, d1, _, _⟩
  obtain ⟨D1, hD1⟩ : ∃ D1, dCrash D a = D1 := ⟨_, rfl⟩
  have hfirm : ∀ p ∈ D1.files, Firm p.2 := by rw [← hD1]; exact crL_firm a 0 D.files
  have htw : dCrash D1 b = D1 := by rw [← hD1]; exact crash_twice D a b
  rw [hD1] at d1
  have D1' := Aside0.mk d1
  have HFM := Aside0.mk hfirm
  have HTW := Aside0.mk htw
  have HSZ := Aside0.mk (names_sz d1.2.2.2)
  have hnl : (namesB D1.files).length ≤ 16 := by rw [names_len]; exact d1.2.2.2.few
  have HFR := Aside0.mk (show ∀ s ∈ namesB D1.files, ∃ b, dRead D1 s = (b, 0) ∧ dSure D1 s = (b, 0) from fun s hs => firm_read d1.2.2.2 hfirm hs)
  clear hD1 hfirm htw d1
  go_wp2_with fail
  refine (dk_names D1'.out).mono ?_
  rintro e w3 ⟨A3, c3, rfl, hr3, hb3⟩
  have D3 := Aside0.mk (D1'.out.step hb3)
  have HSN := Aside0.mk (show ∀ k, w2.heap.size ≤ k → ¬ S1 k from fun k hk hS => by have := (D1'.out.2.1 k hS).2; omega)
  have HR3 := Aside0.mk (Kd.R_mono (Kd.R_bound hr3) (ok' := fun k => ¬ S1 k) (fun k hk => HSN.out k hk.2.1))
  have HW3 := Aside0.mk (show w2.heap.size ≤ w3.heap.size from hb3.size)
  have HNM := Aside0.mk (names_len D1.files)
  clear hr3 hb3
  obtain ⟨NL, hNL⟩ : ∃ NL, namesB D1.files = NL := ⟨_, rfl⟩
  rw [hNL] at HSZ hnl HR3 HFR ⊢
  have HNL := Aside0.mk hNL
  clear hNL
  go_wp2_with fail
  go_loopg [11, 12] NL.length (fun kq v11 v12 w' => ∃ i : Int, v12 = .int .i64 i ∧ 0 ≤ i ∧ i + kq = NL.length ∧ Aside0 (Kd.R Kd.string 9 w' w3.heap.size (fun k => ¬ S1 k) v11 ((NL.take i.toNat).map fun s => strOfNums (dRead D1 s).1)) ∧ Aside0 (Below w3.heap.size w3 w'))
  case atStart => exact ⟨0, rfl, by omega, by omega, ⟨Kd.R_nil _ _ _ _ _⟩, ⟨Below.refl _ _⟩⟩
  case round =>
    obtain ⟨i, rfl, i0, i1, HWS, HBB⟩ := hrel
    have hC0 := Kd.C_below (Kd.R_reads' HR3.out).2.2 HBB.out
    by_cases hi : i < (NL.length : Int)
    · have c6 : decide (i < (NL.length : Int)) = true := decide_eq_true hi
      have hne : NL ≠ [] := fun e => by subst e; simp at hi; omega
      obtain ⟨a1, rfl⟩ := C_some hC0 hne
      have hcell := cellS hC0 i0 hi
      have hmem := nth_mem i0 hi
      have hssz := HSZ.out _ hmem
      obtain ⟨bb, hrd, hsr⟩ := HFR.out _ hmem
      have hst : (NL.take (i + 1).toNat).map (fun s => strOfNums (dRead D1 s).1) = (NL.take i.toNat).map (fun s => strOfNums (dRead D1 s).1) ++ [strOfNums bb] := by
        rw [show (i + 1).toNat = i.toNat + 1 by omega, List.take_succ_eq_append_getElem (by omega), List.map_append]
        congr 1
        have : NL.getD i.toNat ByteArray.empty = NL[i.toNat]'(by omega) := by rw [List.getD_eq_getElem?_getD, List.getElem?_eq_getElem (by omega)]; rfl
        rw [this] at hrd
        simp [hrd]
      obtain ⟨s, hs⟩ : ∃ s, NL.getD i.toNat ByteArray.empty = s := ⟨_, rfl⟩
      rw [hs] at hcell hssz hrd hsr
      have hlen : ((NL.take i.toNat).map (fun s => strOfNums (dRead D1 s).1)).length ≤ 16 := by rw [List.length_map, List.length_take]; omega
      obtain ⟨T, hT⟩ : ∃ T, (NL.take i.toNat).map (fun s => strOfNums (dRead D1 s).1) = T := ⟨_, rfl⟩
      rw [hT] at hst hlen HWS
      have p0 := eq_true i0
      have p1 := eq_true hi
      have hni : IntKind.i64.wrap (i + 1) = i + 1 := IntWalk.i64_in _ ⟨by omega, by omega⟩
      have HDr := Aside0.mk (D3.out.step HBB.out)
      have HSS := Aside0.mk hssz
      have HST := Aside0.mk hst
      have HLE := Aside0.mk hlen
      have HRD := Aside0.mk hrd
      have HSR := Aside0.mk hsr
      have hcs : ∀ (A : Option Addr) (c : Nat) (l : List Int) (w : World), k8.C w A l.length l → (convert 22 9 (.slice A l.length c)).run Try.prog w = .ok (.string (strOfNums l)) w := fun A c l w h => Kd.C_string Try.underlying22 Try.underlying5 Try.underlying9 h
      have HCS := Aside0.mk hcs
      clear hne hC0 hs hssz hst hT hlen hrd hsr hmem hcs
      go_wp2_with fail
      refine (dk_read HDr.out (by omega) HSS.out).mono ?_
      rintro e x1 ⟨B1, d1, rfl, hs1, hx1⟩
      rw [HRD.out] at hs1 ⊢
      have HS1 := Aside0.mk hs1
      have HX1 := Aside0.mk hx1
      have HDr1 := Aside0.mk (HDr.out.step hx1)
      have hcell1 := (hx1.cell (World.block_lt_of_cell? wr _ hcell)).trans hcell
      clear hs1 hx1 hcell
      go_wp2_with fail
      refine (dk_sure HDr1.out (by omega) HSS.out).mono ?_
      rintro e x2 ⟨B2, d2, rfl, hs2, hx2⟩
      rw [HSR.out] at hs2 ⊢
      have q1 := HCS.out B1 d1 bb x2 (Kd.C_below (Kd.R_reads' HS1.out).2.2 hx2)
      have q2 := HCS.out B2 d2 bb x2 (Kd.R_reads' hs2).2.2
      have HX2 := Aside0.mk (below_step HX1.out hx2)
      clear hs2 hx2 hcell1
      go_wp2_with ((with_reducible refine gate_dst (N := 88) rfl ?_); refine Kd.R_append Kd.string (w0 := w3) w3.heap.size rfl (.tmp 84) (.tmp 87) 36 9 (.string ByteArray.empty) 16 rfl Try.underlying36 inf9 rfl (by decide) (by omega) u11 T (strOfNums bb) [.string (strOfNums bb)] (fun k => ¬ S1 k) (fun _ => False) rfl rfl ?aP (fun _ hk => hk.elim) (fun k hk => HSN.out k (by have h1 := HW3.out; have h2 := HBB.out.size; have h3 := HX2.out.size; have h4 : x2.heap.size ≤ k := hk; omega)) (Kd.R_below HWS.out HX2.out) (below_step HBB.out HX2.out) (by have h2 := HBB.out.size; have h3 := HX2.out.size; omega) ?aL ?_; (case aP => exact rfl); (case aL => have := HLE.out; omega); intro v4 w4 ho hb hg hat; have HO4 := Aside0.mk ho; have HW4 := Aside0.mk hb; clear ho hb hg hat)
      go_roundg (gk - 1)
      case measure => omega
      case rel => exact ⟨i + 1, rfl, by omega, by omega, ⟨by rw [HST.out]; exact HO4.out⟩, HW4⟩
    · have c6 : decide (i < (NL.length : Int)) = false := decide_eq_false hi
      have hfull : NL.take i.toNat = NL := List.take_of_length_le (by omega)
      rw [hfull] at HWS
      have HDr := Aside0.mk (D3.out.step HBB.out)
      have HRN := Aside0.mk (Kd.R_below HR3.out HBB.out)
      clear hfull hC0 hi i0 i1
      go_wp2_with fail
      refine (dk_crash (keep := b) HDr.out (by omega) (Kd.C_below HB.out HDr.out.1) (dk_arg HDr.out HB.out) HKB.out).mono ?_
      rintro e w5 ⟨rfl, S5, d5, k5, s5⟩
      rw [HTW.out] at d5
      have D5 := Aside0.mk d5
      have HW5 := Aside0.mk (Kd.R_kept HWS.out k5.kept (fun _ h => h))
      have HR5 := Aside0.mk (Kd.R_kept HRN.out k5.kept (fun _ h => h))
      clear d5 k5 s5 HWS HRN HR3
      go_wp2_with fail
      refine (dk_names D5.out).mono ?_
      rintro e w6 ⟨A6, c6, rfl, hr6, hb6⟩
      rw [HNL.out] at hr6 ⊢
      have HR6 := Aside0.mk hr6
      have HB6 := Aside0.mk hb6
      clear hr6 hb6
      go_wp2_with fail
      refine (tollgateref05_SameTexts.calls _ A6 c6 NL A3 c3 NL true w6 (Kd.R_reads' HR6.out).2.2 (Kd.R_reads' HR6.out).2.1 (Kd.C_below (Kd.R_reads' HR5.out).2.2 HB6.out) (Kd.R_reads' HR5.out).2.1 (sameT_f _ _ (by omega) rfl)).mono ?_
      rintro e w7 ⟨rfl, hdr⟩
      have hb7 : Below w6.heap.size w6 w7 := by obtain ⟨n, rfl⟩ := hdr.out; exact pw_below_drewN (Below.refl _ _) _
      have HB7 := Aside0.mk (below_step HB6.out hb7)
      have D7 := Aside0.mk (D5.out.step (below_step HB6.out hb7))
      clear hb7 hdr HR6
      go_wp2_with fail
      obtain ⟨wl, hwl⟩ : ∃ WL, NL.map (fun s => strOfNums (dRead D1 s).1) = WL := ⟨_, rfl⟩
      rw [hwl] at HW5
      have hwll : wl.length = NL.length := by rw [← hwl, List.length_map]
      have hwlg : ∀ j : Int, 0 ≤ j → j < (NL.length : Int) → ∀ bb, dRead D1 (NL.getD j.toNat ByteArray.empty) = (bb, 0) → wl.getD j.toNat ByteArray.empty = strOfNums bb := by
        intro j h0 h1 bb hbb
        have e : NL.getD j.toNat ByteArray.empty = NL[j.toNat]'(by omega) := by rw [List.getD_eq_getElem?_getD, List.getElem?_eq_getElem (by omega)]; rfl
        rw [e] at hbb
        rw [← hwl, List.getD_eq_getElem?_getD, List.getElem?_map, List.getElem?_eq_getElem (by omega)]
        simp [hbb]
      have HWG := Aside0.mk hwlg
      have HWL := Aside0.mk hwll
      clear hwl hwlg hwll
      obtain ⟨A9, c9, rfl⟩ := Kd.R_slice HW5.out
      go_loopg [17] NL.length (fun kq v17 w' => ∃ j : Int, v17 = .int .i64 j ∧ 0 ≤ j ∧ j + kq = NL.length ∧ Aside0 (Below w7.heap.size w7 w'))
      case atStart => exact ⟨0, rfl, by omega, by omega, ⟨Below.refl _ _⟩⟩
      case round =>
        obtain ⟨j, rfl, j0, j1, HB8⟩ := hrel
        have hC5 := Kd.C_below (Kd.C_below (Kd.R_reads' HR5.out).2.2 HB7.out) HB8.out
        have hW5 := Kd.C_below (Kd.C_below (Kd.R_reads' HW5.out).2.2 HB7.out) HB8.out
        by_cases hj : j < (NL.length : Int)
        · have c8 : decide (j < (NL.length : Int)) = true := decide_eq_true hj
          have hne : NL ≠ [] := fun e => by subst e; simp at hj; omega
          have hne2 : wl ≠ [] := fun e => by have := HWL.out; rw [e] at this; simp at this; omega
          obtain ⟨a5, rfl⟩ := C_some hC5 hne
          obtain ⟨a9, rfl⟩ := C_some hW5 hne2
          have hcell := cellS hC5 j0 hj
          have hwc := cellS hW5 j0 (by have := HWL.out; omega)
          have hmem := nth_mem j0 hj
          have hssz := HSZ.out _ hmem
          obtain ⟨bb, hrd, _⟩ := HFR.out _ hmem
          rw [HWG.out j j0 hj bb hrd] at hwc
          obtain ⟨s, hs⟩ : ∃ s, NL.getD j.toNat ByteArray.empty = s := ⟨_, rfl⟩
          rw [hs] at hcell hssz hrd
          have p0 := eq_true j0
          have p1 := eq_true hj
          have p2 : (j < (wl.length : Int)) = True := eq_true (by have := HWL.out; omega)
          have hnj : IntKind.i64.wrap (j + 1) = j + 1 := IntWalk.i64_in _ ⟨by omega, by omega⟩
          have HDr := Aside0.mk (D7.out.step HB8.out)
          have HSS := Aside0.mk hssz
          have HRD := Aside0.mk hrd
          clear hne hne2 hC5 hW5 hmem hs hssz hrd
          go_wp2_with fail
          refine (dk_read HDr.out (by omega) HSS.out).mono ?_
          rintro e x1 ⟨B1, d1, rfl, hs1, hx1⟩
          rw [HRD.out] at hs1 ⊢
          have hcs : ∀ n, (convert 22 9 (.slice B1 bb.length d1)).run Try.prog (x1.drewN n) = .ok (.string (strOfNums bb)) (x1.drewN n) := fun n => Kd.C_string Try.underlying22 Try.underlying5 Try.underlying9 (Kd.C_drewN (Kd.R_reads' hs1).2.2 n)
          have hcs0 := hcs 0
          have hcs1 := hcs 1
          have hwc1 := (hx1.cell (World.block_lt_of_cell? wr _ hwc)).trans hwc
          have HX1 := Aside0.mk hx1
          clear hs1 hx1 hcell hwc
          go_wp2_with fail
          go_quiet (fail)
          go_wp2_with fail
          go_roundg (gk - 1)
          case measure => omega
          case rel => exact ⟨j + 1, rfl, by omega, by omega, ⟨below_step (below_step HB8.out HX1.out) (pw_below_drewN (Below.refl _ _) _)⟩⟩
        · have c8 : decide (j < (NL.length : Int)) = false := decide_eq_false hj
          clear hC5 hW5
          go_wp2_with fail
          refine (live_calls _).mono ?_
          rintro e w9 ⟨rfl, hb9⟩
          go_wp2_with fail
          go_ret
          exact ⟨rfl, below_step (below_step D7.out.1 HB8.out) hb9⟩
end Go.Proofs.Ytmmiipnmimjojaa.PS
