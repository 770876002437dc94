/- The reference's Remove, Sync, Cut, Rename, Read, Sure. -/
import Derived.Test.YtmmiipnmimjojaaR3
import Derived.Deep.RegionLaw
namespace Go.Proofs.Ytmmiipnmimjojaa.PS
open Go.RowKit Go.Proofs.YtmmiipnmimjojaaW.PrintWords Go.Proofs.YtmmiipnmimjojaaW.PrintLast Go.Proofs.YtmmiipnmimjojaaW.PrintMore
open Go.Maps Go.Proofs.Ytmmiipnmimjojaa.PD
set_option linter.unusedVariables false
set_option linter.unusedSimpArgs false
/-- What a deed of the reference's leaves. -/
def Rx (W w' : World) (R : Nat → Prop) (r : Nat) (room : Int) (l' : List S144) : Prop := ∃ R', RefAt w' R' r room l' ∧ Kp W w' (fun k => k = r) ∧ ∀ k, k < W.heap.size → R' k → R k
section
variable {W W1 w' : World} {R : Nat → Prop} {r : Nat} {room : Int} {l l' : List S144}
theorem Rx.still (h : RefAt W R r room l) (hb : Below W.heap.size W w') : Rx W w' R r room l := ⟨R, h.below hb, Kp.of_below hb _, fun _ _ h => h⟩
theorem Rx.set {A : Option Addr} {c : Nat} (h : RefAt W R r room l) (hb : Below W.heap.size W W1) (hv : Kd.V k144 144 W1 0 (fun k => (R k ∧ k ≠ r) ∨ W.heap.size ≤ k) (.slice A l'.length c) l') :
    Rx W (W1.setCell ⟨r, 1, none⟩ (.slice A l'.length c)) R r room l' := by
  obtain ⟨h1, h2⟩ := h.set hb (Kd.V_mono (Kd.V_bound hv) (fun k hk => by
    rcases hk.1 with h1 | h1
    · exact .inl h1
    · exact .inr ⟨h1, hk.2⟩))
  exact ⟨_, h1, h2, fun k hk hx => by rcases hx with hx | hx; exact hx; omega⟩
theorem rd_some {n : Nm} {f : Fil} {L : List (Nm × Fil)} {j : Nat} (h : L[j]? = some (n, f)) : rd_T144 (refL L) (j : Int) = refF (n, f) := by
  unfold rd_T144
  rw [List.getD_eq_getElem?_getD, show ((j : Int)).toNat = j by omega, ref_get h]
  rfl
theorem rd_find {D : Dsk} {s : ByteArray} {f : Fil} (h : aget s.data.toList D.files = some f) : ∃ i : Int, findR s (refL D.files) 0 = i ∧ 0 ≤ i ∧ i < ((refL D.files).length : Int) ∧ rd_T144 (refL D.files) i = refF (s.data.toList, f) := by
  obtain ⟨j, h1, h2, h3⟩ := find_some (i := 0) h
  refine ⟨(j : Int), by rw [h1]; congr 1; omega, by omega, by rw [ref_len]; omega, rd_some h3⟩
end
theorem eql59n (w : World) (r : Nat) : (binOp .eql 59 (.pointer (some ⟨r, 0, none⟩)) (.pointer none)).run Try.prog w = .ok (.bool false) w := by kernel_rfl
set_option maxHeartbeats 1000000 in
set_option maxRecDepth 100000 in
theorem rremove_calls {W : World} {R : Nat → Prop} {r N : Nat} {D : Dsk} {s : ByteArray} (h : RefAt W R r D.room (refL D.files)) (hi : DInv N D) :
    Calls Try.prog 82 #[.pointer (some ⟨r, 0, none⟩), .string s] W fun e w' => e = .returned (.int .i64 (dRemove D s).1) ∧ Rx W w' R r D.room (refL (dRemove D s).2.files) := by
  have hll : (refL D.files).length ≤ 16 := by rw [ref_len]; exact hi.few
  have H := Aside0.mk h
  have HI := Aside0.mk hi
  have HL := Aside0.mk hll
  clear h hi hll
  unfold dRemove
  cases hg : aget s.data.toList D.files with
  | none =>
    have hf := find_none (i := 0) hg
    have HF := Aside0.mk hf
    clear hf hg
    go_enter Try.func82, Try.ntmps82
    go_wp2_with fail
    refine (rfind_calls s H.out (by have := HL.out; omega)).mono ?_
    rintro e w1 ⟨rfl, rfl⟩
    rw [HF.out]
    go_wp2_with fail
    go_ret
    exact ⟨rfl, Rx.still H.out (Below.refl _ _)⟩
  | some f =>
    obtain ⟨i, hf, i0, i1, _⟩ := rd_find hg
    have HF := Aside0.mk hf
    have hneg : decide (i < 0) = false := decide_eq_false (by omega)
    obtain ⟨A, c, hh, hv⟩ := H.out.cells
    have hc1 : W.cell? ⟨r, 1, none⟩ = some (.slice A (refL D.files).length c) := blk_cell hh 1
    have HV := Aside0.mk hv
    have HH := Aside0.mk hh
    clear hf hg hv hh
    go_enter Try.func82, Try.ntmps82
    go_wp2_with fail
    refine (rfind_calls s H.out (by have := HL.out; omega)).mono ?_
    rintro e w1 ⟨rfl, rfl⟩
    rw [HF.out]
    go_wp2_with fail
    refine (tollgateref05_without.calls _ _ A c (refL D.files) s _ W (Kd.V_map HV.out (fun _ h => h)) (without_f _ s (by have := HL.out; omega))).mono ?_
    rintro e w2 ⟨v, rfl, hn, hb⟩
    rw [wo_del] at hn
    have hr1 := (hb.block r (H.out.lt r H.out.own)).trans HH.out
    have hc2 : w2.cell? ⟨r, 1, none⟩ = some (.slice A (refL D.files).length c) := blk_cell hr1 1
    have hf2 := blk_frozen hr1 1
    obtain ⟨A2, c2, rfl⟩ := Kd.V_slice (Kd.N_V hn (base' := 0))
    have HN := Aside0.mk hn
    have HB := Aside0.mk hb
    clear hn hb hr1
    go_wp2_with fail
    go_ret
    exact ⟨rfl, Rx.set H.out HB.out (Kd.N_V HN.out)⟩
/-- now, of a file that is read. -/
theorem rnow {W w : World} {ok : Nat → Prop} {A2 A3 : Option Addr} {c2 c3 : Nat} {f : S144} (hs : Kd.V (Kd.int .u8) 5 W 0 ok (.slice A2 f.f2.length c2) f.f2) (hu : Kd.V k166 166 W 0 ok (.slice A3 f.f3.length c3) f.f3)
    (hB : UB 262144 f.f3 f.f2) (hl : f.f3.length ≤ 1000000000000) (hb : Below W.heap.size W w) :
    Calls Try.prog 87 #[.agg #[.string f.f0, .bool f.f1, .slice A2 f.f2.length c2, .slice A3 f.f3.length c3]] w fun e w' => ∃ A c, e = .returned (.slice A (nowR f).length c) ∧ k8.R 5 w' w.heap.size (fun _ => True) (.slice A (nowR f).length c) (nowR f) ∧ Below w.heap.size w w' := by
  obtain ⟨_, l2, h2⟩ := Kd.V_reads' hs
  obtain ⟨_, l3, h3⟩ := Kd.V_reads' hu
  refine (tollgateref05_now.calls _ f.f0 f.f1 A2 c2 f.f2 A3 c3 f.f3 _ w (Kd.C_below h2 hb) l2 (Kd.C_below h3 hb) l3 (now_f f.f0 f.f1 f.f2 f.f3 (B := 262144) (by omega) hl hB)).mono ?_
  rintro e w' ⟨v, rfl, hr, hb'⟩
  obtain ⟨A, c, rfl⟩ := Kd.R_slice hr
  exact ⟨A, c, rfl, hr, hb'⟩
/-- put, of a row that is read. -/
theorem rput {W w : World} {ok P : Nat → Prop} {A A2 A3 : Option Addr} {c c2 c3 : Nat} {l : List S144} {f : S144} (hv : Kd.V k144 144 W 0 ok (.slice A l.length c) l) (hl : l.length ≤ 1000) (hb : Below W.heap.size W w)
    (hs : Kd.V (Kd.int .u8) 5 w 0 P (.slice A2 f.f2.length c2) f.f2) (hu : Kd.V k166 166 w 0 P (.slice A3 f.f3.length c3) f.f3) :
    Calls Try.prog 106 #[.slice A l.length c, .agg #[.string f.f0, .bool f.f1, .slice A2 f.f2.length c2, .slice A3 f.f3.length c3]] w fun e w' => ∃ A' c', e = .returned (.slice A' (putR l f).length c') ∧
      Kd.V k144 144 w' 0 (fun k => (ok k ∨ P k) ∨ w.heap.size ≤ k) (.slice A' (putR l f).length c') (putR l f) ∧ Below w.heap.size w w' := by
  refine (tollgateref05_put.calls _ ok A c l f.f0 f.f1 P A2 c2 f.f2 P A3 c3 f.f3 _ w (Kd.V_map (Kd.V_below hv hb) (fun _ h => h)) (Kd.V_map hs (fun _ h => h)) (Kd.V_map hu (fun _ h => h)) (put_f l f hl)).mono ?_
  rintro e w' ⟨v, rfl, hn, hb'⟩
  obtain ⟨A', c', rfl⟩ := Kd.V_slice (Kd.N_V hn (base' := 0))
  refine ⟨A', c', rfl, Kd.V_mono (Kd.N_V hn) (fun k hk => ?_), hb'⟩
  rcases hk with (h | h | h) | h
  · exact .inl (.inl h)
  · exact .inl (.inr h)
  · exact .inl (.inr h)
  · exact .inr h
theorem flat_len {B : Nat} : ∀ {cs : List S114} {o : List Int}, ChB B cs o → (flat cs).length ≤ cs.length * (B + 1)
  | [], _, _ => by simp [flat]
  | c :: cs, o, h => by
    have ih := flat_len h.2.2.2.2
    have hc := unitsOf_len c
    have hb := h.2.2.2.1
    have : chN c ≤ B + 1 := by unfold chN; split <;> omega
    show (unitsOf c ++ flat cs).length ≤ (cs.length + 1) * (B + 1)
    rw [List.length_append, Nat.succ_mul]
    omega
theorem FInv.units {N : Nat} {n : Nm} {f : Fil} (h : FInv N n f) (hN : N ≤ 1000000) : UB 262144 (refF (n, f)).f3 (refF (n, f)).f2 ∧ (refF (n, f)).f3.length ≤ 1000000000000 := by
  refine ⟨UB_flat h.ch, ?_⟩
  have h1 := flat_len h.ch
  have h2 := h.few
  show (flat f.f3).length ≤ _
  have h3 : f.f3.length * (262144 + 1) ≤ 1000000 * (262144 + 1) := Nat.mul_le_mul_right _ (by omega)
  omega
theorem str_of (s : ByteArray) : str s.data.toList = s := rfl
set_option maxHeartbeats 1000000 in
set_option maxRecDepth 100000 in
theorem rsync_calls {W : World} {R : Nat → Prop} {r N : Nat} {D : Dsk} {s : ByteArray} (h : RefAt W R r D.room (refL D.files)) (hi : DInv N D) (hN : N ≤ 1000000) :
    Calls Try.prog 80 #[.pointer (some ⟨r, 0, none⟩), .string s] W fun e w' => e = .returned (.int .i64 (dSync D s).1) ∧ Rx W w' R r D.room (refL (dSync D s).2.files) := by
  have hll : (refL D.files).length ≤ 16 := by rw [ref_len]; exact hi.few
  have H := Aside0.mk h
  have HI := Aside0.mk hi
  have HL := Aside0.mk hll
  clear h hi hll
  unfold dSync
  cases hg : aget s.data.toList D.files with
  | none =>
    have hf := find_none (i := 0) hg
    have HF := Aside0.mk hf
    clear hf hg
    go_enter Try.func80, Try.ntmps80
    go_wp2_with fail
    refine (rfind_calls s H.out (by have := HL.out; omega)).mono ?_
    rintro e w1 ⟨rfl, rfl⟩
    rw [HF.out]
    go_wp2_with fail
    go_ret
    exact ⟨rfl, Rx.still H.out (Below.refl _ _)⟩
  | some f =>
    obtain ⟨i, hf, i0, i1, hrd⟩ := rd_find hg
    have hinv := HI.out.get hg
    obtain ⟨hub, hul⟩ := hinv.units hN
    have hnow := now_ref hinv
    have HF := Aside0.mk hf
    have hneg : decide (i < 0) = false := decide_eq_false (by omega)
    obtain ⟨A, c, hh, hv⟩ := H.out.cells
    have hc1 : W.cell? ⟨r, 1, none⟩ = some (.slice A (refL D.files).length c) := blk_cell hh 1
    obtain ⟨ad, A2, c2, A3, c3, hr⟩ := filR_of hv i0 i1 hrd
    obtain ⟨F, hF⟩ : ∃ F, refF (s.data.toList, f) = F := ⟨_, rfl⟩
    obtain ⟨L, hL⟩ : ∃ L, refL D.files = L := ⟨_, rfl⟩
    rw [hF] at hub hul hnow hr
    rw [hL] at hc1 hh hv HL i1
    obtain rfl := hr.at_
    have e0 := hr.name
    have e1 := hr.lasts
    have e2 := hr.sure
    have e3 := hr.units
    have HR := Aside0.mk hr
    have HV := Aside0.mk hv
    have HH := Aside0.mk hh
    have HUB := Aside0.mk hub
    have HUL := Aside0.mk hul
    have HNW := Aside0.mk hnow
    have HLL := Aside0.mk hL
    have p0 := eq_true i0
    have p1 := eq_true i1
    clear hf hv hh hr hub hul hnow hrd hinv hF hL hg
    go_enter Try.func80, Try.ntmps80
    go_wp2_with fail
    refine (rfind_calls s H.out (by rw [HLL.out]; have := HL.out; omega)).mono ?_
    rintro e w1 ⟨rfl, rfl⟩
    rw [HF.out]
    go_wp2_with fail
    have hl16 : L.length ≤ 1000 := by have := HL.out; omega
    have hlt := H.out.lt r H.out.own
    have HLT := Aside0.mk hlt
    have HL16 := Aside0.mk hl16
    clear hlt hl16
    go_region_law (first
      | (go_simp; go_at_call 87; refine (rnow HR.out.vs HR.out.vu HUB.out HUL.out (below_drew1 (Below.refl _ _))).mono ?_; rintro e w4 ⟨A6, c6, rfl, hr6, hb6⟩; have hB4 := below_step (below_drew1 (Below.refl W.heap.size W)) hb6; have hq4 := (hB4.block r HLT.out).trans HH.out; have q4 : w4.cell? ⟨r, 1, none⟩ = some (.slice (some ad) L.length c) := blk_cell hq4 1; have HB4 := Aside0.mk hB4; have HR6 := Aside0.mk hr6; clear hB4 hq4 hr6 hb6)
      | (go_simp; go_at_call 106; refine (rput (f := ⟨s, true, nowR F, []⟩) (P := fun k => W.heap.size ≤ k) HV.out HL16.out HB4.out (Kd.V_mono (Kd.R_V (Kd.R_bound HR6.out)) (fun k hk => hk.2.1)) (Kd.V_nil _ _ _ _ _)).mono ?_; rintro e w5 ⟨A7, c7, rfl, hv7, hb7⟩; have hB5 := below_step HB4.out hb7; have hq5 := (hB5.block r HLT.out).trans HH.out; have q5 : w5.cell? ⟨r, 1, none⟩ = some (.slice (some ad) L.length c) := blk_cell hq5 1; have f5 := blk_frozen hq5 1; have HB5 := Aside0.mk hB5; have HV7 := Aside0.mk hv7; clear hB5 hq5 hv7 hb7)
      | fail)
    all_goals
      have hres : putR L ⟨s, true, nowR F, []⟩ = refL (aput s.data.toList ⟨f.f0, f.f0, true, []⟩ D.files) := by
        rw [HNW.out, ← HLL.out]
        exact put_aput (n := s.data.toList) (f := ⟨f.f0, f.f0, true, []⟩) HI.out.srt
      have HRES := Aside0.mk hres
      clear hres
      go_wp2_with fail
      go_ret
      exact ⟨rfl, by
        show Rx W _ R r D.room (refL (aput s.data.toList ⟨f.f0, f.f0, true, []⟩ D.files))
        rw [← HRES.out]
        exact Rx.set H.out HB5.out (Kd.V_mono HV7.out (fun k hk => by
          have := HB4.out.size
          rcases hk with (h | h) | h
          · exact .inl h
          · exact .inr h
          · exact .inr (by omega)))⟩
end Go.Proofs.Ytmmiipnmimjojaa.PS
