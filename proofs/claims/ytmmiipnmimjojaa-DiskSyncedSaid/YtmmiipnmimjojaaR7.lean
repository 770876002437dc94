/- The reference's Names, Used, New. -/
import Derived.Test.YtmmiipnmimjojaaR4
namespace Go.Proofs.Ytmmiipnmimjojaa.PS
open Go.RowKit Go.Proofs.YtmmiipnmimjojaaW.PrintWords Go.Proofs.YtmmiipnmimjojaaW.PrintLast Go.Proofs.YtmmiipnmimjojaaW.PrintMore
open Go.Maps Go.Proofs.Ytmmiipnmimjojaa.PD
set_option linter.unusedVariables false
set_option linter.unusedSimpArgs false
theorem inf9 : (Try.prog.info? 9).map (fun i => (i.zero, i.size, i.bytes)) = some (some (.string ByteArray.empty), 1, 16) := by kernel_rfl
theorem names_len (l : List (Nm × Fil)) : (namesB l).length = l.length := by simp [namesB]
theorem name_at {l : List (Nm × Fil)} {i : Int} (h0 : 0 ≤ i) (h1 : i < ((refL l).length : Int)) : (namesB l).take (i + 1).toNat = (namesB l).take i.toNat ++ [(rd_T144 (refL l) i).f0] := by
  rw [ref_len] at h1
  have hl := names_len l
  rw [show (i + 1).toNat = i.toNat + 1 by omega, List.take_succ_eq_append_getElem (by omega)]
  congr 2
  unfold rd_T144
  rw [List.getD_eq_getElem?_getD, ref_get (p := l[i.toNat]'(by omega)) (List.getElem?_eq_getElem (by omega))]
  simp [namesB]
  rfl
set_option maxHeartbeats 1000000 in
set_option maxRecDepth 100000 in
theorem rnames_calls {W : World} {R : Nat → Prop} {r N : Nat} {D : Dsk} (h : RefAt W R r D.room (refL D.files)) (hi : DInv N D) :
    Calls Try.prog 83 #[.pointer (some ⟨r, 0, none⟩)] W fun e w' => ∃ A c, e = .returned (.slice A (namesB D.files).length c) ∧ Kd.R Kd.string 9 w' W.heap.size (fun _ => True) (.slice A (namesB D.files).length c) (namesB D.files) ∧ Below W.heap.size W w' := by
  have hll : (refL D.files).length ≤ 16 := by rw [ref_len]; exact hi.few
  obtain ⟨A, c, hh, hv⟩ := h.cells
  have hc1 : W.cell? ⟨r, 1, none⟩ = some (.slice A (refL D.files).length c) := blk_cell hh 1
  have hnl : (namesB D.files).length = (refL D.files).length := by rw [names_len, ref_len]
  have hnm := fun i h0 h1 => name_at (l := D.files) (i := i) h0 h1
  have HV := Aside0.mk hv
  have HH := Aside0.mk hh
  have HLT := Aside0.mk (h.lt r h.own)
  have HNL := Aside0.mk hnl
  have HNM := Aside0.mk hnm
  clear h hi hv hh hnl hnm
  obtain ⟨NL, hN⟩ : ∃ NL, namesB D.files = NL := ⟨_, rfl⟩
  obtain ⟨L, hL⟩ : ∃ L, refL D.files = L := ⟨_, rfl⟩
  rw [hN, hL] at HNL HNM
  rw [hN]
  rw [hL] at HV HH hc1 hll
  clear hN hL
  go_enter Try.func83, Try.ntmps83
  go_wp2_with (first
    | ((with_reducible refine gate_dst (N := 5) rfl ?_); refine Kd.R_lit Kd.string _ 9 ?hg (N := 5) ?hd (xs := ([] : List ByteArray)) (inner := []) (ok := fun _ => True) (okp := fun _ => True) ?hr ?hp (fun _ hk => hk) trivial (Below.refl _ _) (Nat.le_refl _) (by simp) ?_; (case hd => rfl); (case hg => rfl); (case hr => first | (go_simp; done) | (go_simp; rfl)); (case hp => exact (Reps.none _ _)); intro v5 w5 ho5 hb5 hg_ hnew_; have HO5 := Aside0.mk ho5; have HB5 := Aside0.mk hb5; clear hg_ hnew_ ho5 hb5)
    | fail)
  go_loopg [3, 4] L.length (fun kq v3 v4 w' => ∃ i : Int, v4 = .int .i64 i ∧ 0 ≤ i ∧ i + kq = L.length ∧ Aside0 (Kd.R Kd.string 9 w' W.heap.size (fun _ => True) v3 (NL.take i.toNat)) ∧ Aside0 (Below W.heap.size W w'))
  case atStart => exact ⟨0, rfl, by omega, by omega, HO5, HB5⟩
  case round =>
    clear HO5 HB5
    obtain ⟨i, rfl, i0, i1, HR, HB⟩ := hrel
    replace hc1 := (HB.out.cell (World.block_lt_of_cell? W _ hc1)).trans hc1
    by_cases hi : i < (L.length : Int)
    · have c6 : decide (i < (L.length : Int)) = true := decide_eq_true hi
      obtain ⟨f, hf⟩ : ∃ f, rd_T144 L i = f := ⟨_, rfl⟩
      obtain ⟨ad, A2, c2, A3, c3, hr⟩ := filR_of (Kd.V_below HV.out HB.out) i0 hi hf
      obtain rfl := hr.at_
      have hx0 := hr.name
      have hst := HNM.out i i0 hi
      rw [hf] at hst
      have hlen : (NL.take i.toNat).length ≤ 16 := by rw [List.length_take]; omega
      obtain ⟨T, hT⟩ : ∃ T, NL.take i.toNat = T := ⟨_, rfl⟩
      rw [hT] at hst HR hlen
      have p0 := eq_true i0
      have p1 := eq_true hi
      have hni : IntKind.i64.wrap (i + 1) = i + 1 := IntWalk.i64_in _ ⟨by omega, by omega⟩
      have HST := Aside0.mk hst
      have HLE := Aside0.mk hlen
      clear hst hr hf hT hlen
      go_wp2_with ((with_reducible refine gate_builtin (b := .append) (xs := #[.tmp 19, .tmp 28]) rfl ?_); at_builtin; refine Kd.R_append Kd.string (w0 := W) W.heap.size rfl (.tmp 19) (.tmp 28) 36 9 (.string ByteArray.empty) 16 rfl Try.underlying36 inf9 rfl (by decide) (by omega) u3 T f.f0 [.string f.f0] (fun _ => True) (fun _ => False) rfl rfl ?aP (fun _ hk => hk.elim) (fun _ _ => trivial) HR.out HB.out HB.out.size ?aL ?_; (case aP => exact rfl); (case aL => have := HLE.out; omega); intro v4 w4 ho hb hg hat; have HO4 := Aside0.mk ho; have HW4 := Aside0.mk hb; clear ho hb hg hat)
      go_roundg (gk - 1)
      case measure => omega
      case rel => exact ⟨i + 1, rfl, by omega, by omega, ⟨by rw [HST.out]; exact HO4.out⟩, HW4⟩
    · have c6 : decide (i < (L.length : Int)) = false := decide_eq_false hi
      have hfull : NL.take i.toNat = NL := List.take_of_length_le (by have := HNL.out; omega)
      rw [hfull] at HR
      obtain ⟨A3, c3, rfl⟩ := Kd.R_slice HR.out
      clear hfull
      go_wp2_with fail
      go_ret
      exact ⟨A3, c3, rfl, HR.out, HB.out⟩
theorem usedR_take (L : List S144) {i : Int} (h0 : 0 ≤ i) (h1 : i < (L.length : Int)) : usedR (L.take (i + 1).toNat) = usedR (L.take i.toNat) + (nowR (rd_T144 L i)).length := by
  rw [show (i + 1).toNat = i.toNat + 1 by omega, List.take_succ_eq_append_getElem (by omega)]
  have : rd_T144 L i = L[i.toNat]'(by omega) := by
    unfold rd_T144
    rw [List.getD_eq_getElem?_getD, List.getElem?_eq_getElem (by omega)]
    rfl
  rw [this]
  unfold usedR
  rw [List.map_append, List.sum_append]
  simp
set_option maxHeartbeats 1000000 in
set_option maxRecDepth 100000 in
theorem rused_calls {W : World} {R : Nat → Prop} {r N : Nat} {D : Dsk} (h : RefAt W R r D.room (refL D.files)) (hi : DInv N D) (hN : N ≤ 1000000) :
    Calls Try.prog 84 #[.pointer (some ⟨r, 0, none⟩)] W fun e w' => e = .returned (.int .i64 (usedB D.files)) ∧ Below W.heap.size W w' := by
  have hll : (refL D.files).length ≤ 16 := by rw [ref_len]; exact hi.few
  obtain ⟨A, c, hh, hv⟩ := h.cells
  have hc1 : W.cell? ⟨r, 1, none⟩ = some (.slice A (refL D.files).length c) := blk_cell hh 1
  have hus := used_ref hi.files
  have hall : ∀ i, 0 ≤ i → i < ((refL D.files).length : Int) → (UB 262144 (rd_T144 (refL D.files) i).f3 (rd_T144 (refL D.files) i).f2 ∧ (rd_T144 (refL D.files) i).f3.length ≤ 1000000000000) ∧ (nowR (rd_T144 (refL D.files) i)).length ≤ 262144 := by
    intro i h0 h1
    rw [ref_len] at h1
    have hg : D.files[i.toNat]? = some (D.files[i.toNat]'(by omega)) := List.getElem?_eq_getElem (by omega)
    have hrd : rd_T144 (refL D.files) i = refF (D.files[i.toNat]'(by omega)) := by
      unfold rd_T144
      rw [List.getD_eq_getElem?_getD, ref_get hg]
      rfl
    have hm : (D.files[i.toNat]'(by omega)) ∈ D.files := List.getElem_mem _
    have hf := hi.files (D.files[i.toNat]'(by omega)).1 (D.files[i.toNat]'(by omega)).2 hm
    rw [hrd]
    exact ⟨hf.units hN, by rw [show refF (D.files[i.toNat]'(by omega)) = refF ((D.files[i.toNat]'(by omega)).1, (D.files[i.toNat]'(by omega)).2) from rfl, now_ref hf]; exact hf.short⟩
  have HV := Aside0.mk hv
  have HH := Aside0.mk hh
  have HALL := Aside0.mk hall
  rw [← hus]
  clear h hi hv hh hus hall
  obtain ⟨L, hL⟩ : ∃ L, refL D.files = L := ⟨_, rfl⟩
  rw [hL] at HV HH hc1 hll HALL
  rw [hL]
  obtain ⟨U, hU⟩ : ∃ U, usedR L = U := ⟨_, rfl⟩
  rw [hU]
  have HUU := Aside0.mk hU
  clear hL hU
  go_enter Try.func84, Try.ntmps84
  go_wp2_with fail
  go_loopg [3, 4] L.length (fun kq v3 v4 w' => ∃ (i : Int) (n : Nat), v4 = .int .i64 i ∧ 0 ≤ i ∧ i + kq = L.length ∧ v3 = .int .i64 n ∧ Aside0 (usedR (L.take i.toNat) = n) ∧ (n : Int) ≤ i * 262144 ∧ Aside0 (Below W.heap.size W w'))
  case atStart => exact ⟨0, 0, rfl, by omega, by omega, rfl, ⟨rfl⟩, by omega, ⟨Below.refl _ _⟩⟩
  case round =>
    obtain ⟨i, n, rfl, i0, i1, rfl, HU, hn, HB⟩ := hrel
    replace hc1 := (HB.out.cell (World.block_lt_of_cell? W _ hc1)).trans hc1
    by_cases hi : i < (L.length : Int)
    · have c6 : decide (i < (L.length : Int)) = true := decide_eq_true hi
      obtain ⟨⟨hub, hul⟩, hsh⟩ := HALL.out i i0 hi
      have hst := usedR_take L i0 hi
      obtain ⟨f, hf⟩ : ∃ f, rd_T144 L i = f := ⟨_, rfl⟩
      obtain ⟨ad, A2, c2, A3, c3, hr⟩ := filR_of (Kd.V_below HV.out HB.out) i0 hi hf
      obtain rfl := hr.at_
      rw [hf] at hst hub hul hsh
      rw [HU.out] at hst
      have e0 := hr.name
      have e1 := hr.lasts
      have e2 := hr.sure
      have e3 := hr.units
      obtain ⟨m, hm⟩ : ∃ m, (nowR f).length = m := ⟨_, rfl⟩
      rw [hm] at hst hsh
      have p0 := eq_true i0
      have p1 := eq_true hi
      have hni : IntKind.i64.wrap (i + 1) = i + 1 := IntWalk.i64_in _ ⟨by omega, by omega⟩
      have hnn : IntKind.i64.wrap ((n : Int) + m) = (n : Int) + m := IntWalk.i64_in _ ⟨by omega, by omega⟩
      have HST := Aside0.mk hst
      have HM := Aside0.mk hm
      have HRR := Aside0.mk hr
      have HUB := Aside0.mk hub
      have HUL := Aside0.mk hul
      clear hst hr hf hm hub hul
      go_wp2_with fail
      refine (rnow HRR.out.vs HRR.out.vu HUB.out HUL.out (Below.refl _ _)).mono ?_
      rintro e w4 ⟨A6, c6', rfl, hr6, hb6⟩
      rw [HM.out]
      have HB6 := Aside0.mk (below_step HB.out hb6)
      clear hr6 hb6
      go_wp2_with fail
      go_roundg (gk - 1)
      case measure => omega
      case rel => exact ⟨i + 1, n + m, rfl, by omega, by omega, by go_num, HST, by omega, HB6⟩
    · have c6 : decide (i < (L.length : Int)) = false := decide_eq_false hi
      have hfull : L.take i.toNat = L := List.take_of_length_le (by omega)
      rw [hfull] at HU
      obtain rfl : U = n := HUU.out.symm.trans HU.out
      clear hfull
      go_wp2_with fail
      go_ret
      exact ⟨rfl, HB.out⟩
def NewR (z : Int) (W : World) (e : Ending) (w' : World) : Prop := ∃ r R, e = .returned (.pointer (some ⟨r, 0, none⟩)) ∧ RefAt w' R r (max 0 z) (refL []) ∧ Below W.heap.size W w' ∧ ∀ k, R k → W.heap.size ≤ k
set_option maxRecDepth 100000 in
theorem rnew_calls (z : Int) (W : World) : Calls Try.prog 36 #[.int .i64 z] W fun e w' => NewR z W e w' := by
  have key : ∀ y : Int, ∃ R, RefAt (W.alloc (.cells #[.int .i64 y, .slice none 0 0] 140)) R W.heap.size y (refL []) ∧ ∀ k, R k → W.heap.size ≤ k := fun y =>
    ⟨fun k => k = W.heap.size, ⟨rfl, fun k hk => by rw [hk]; show _ < (W.heap.push _).size; simp, none, 0, blk_new W _, Kd.V_nil _ _ _ _ _⟩, fun k hk => by omega⟩
  have KEY := Aside0.mk key
  clear key
  by_cases hz : z < 0
  · have cz : decide (z < 0) = true := decide_eq_true hz
    go_enter Try.func36, Try.ntmps36
    go_wp2_with fail
    go_ret
    obtain ⟨R, h1, h2⟩ := KEY.out 0
    exact ⟨_, R, rfl, by rw [show max 0 z = 0 by omega]; exact h1, below_alloc (Below.refl _ _) _, h2⟩
  · have cz : decide (z < 0) = false := decide_eq_false hz
    go_enter Try.func36, Try.ntmps36
    go_wp2_with fail
    go_ret
    obtain ⟨R, h1, h2⟩ := KEY.out z
    exact ⟨_, R, rfl, by rw [show max 0 z = z by omega]; exact h1, below_alloc (Below.refl _ _) _, h2⟩
end Go.Proofs.Ytmmiipnmimjojaa.PS
