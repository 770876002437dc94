/- The reference's Crash. -/
import Derived.Test.YtmmiipnmimjojaaR5
namespace Go.Proofs.Ytmmiipnmimjojaa.PS
open Go.RowKit Go.Proofs.YtmmiipnmimjojaaW.PrintWords Go.Proofs.YtmmiipnmimjojaaW.PrintLast Go.Proofs.YtmmiipnmimjojaaW.PrintMore
open Go.Maps Go.Proofs.Ytmmiipnmimjojaa.PD
set_option linter.unusedVariables false
set_option linter.unusedSimpArgs false
theorem rmade {W w : World} {ok : Nat → Prop} {A2 A3 : Option Addr} {c2 c3 : Nat} {f : S144} (kk : Int) (hs : Kd.V (Kd.int .u8) 5 W 0 ok (.slice A2 f.f2.length c2) f.f2) (hu : Kd.V k166 166 W 0 ok (.slice A3 f.f3.length c3) f.f3)
    (hB : UB 262144 f.f3 f.f2) (hl : f.f3.length ≤ 1000000000000) (hb : Below W.heap.size W w) :
    Calls Try.prog 89 #[.agg #[.string f.f0, .bool f.f1, .slice A2 f.f2.length c2, .slice A3 f.f3.length c3], .int .i64 kk] w fun e w' => ∃ A c, e = .returned (.slice A (mkU (f.f3.take kk.toNat) f.f2).length c) ∧ k8.R 5 w' w.heap.size (fun _ => True) (.slice A (mkU (f.f3.take kk.toNat) f.f2).length c) (mkU (f.f3.take kk.toNat) f.f2) ∧ Below w.heap.size w w' := by
  obtain ⟨_, l2, h2⟩ := Kd.V_reads' hs
  obtain ⟨_, l3, h3⟩ := Kd.V_reads' hu
  refine (tollgateref05_made.calls _ f.f0 f.f1 A2 c2 f.f2 A3 c3 f.f3 kk _ w (Kd.C_below h2 hb) l2 (Kd.C_below h3 hb) l3 (made_f kk f.f0 f.f1 f.f2 f.f3 (B := 262144) (by omega) hl hB)).mono ?_
  rintro e w' ⟨v, rfl, hr, hb'⟩
  obtain ⟨A, c, rfl⟩ := Kd.R_slice hr
  exact ⟨A, c, rfl, hr, hb'⟩
theorem all_units {N : Nat} {D : Dsk} (hi : DInv N D) (hN : N ≤ 1000000) : ∀ i, 0 ≤ i → i < ((refL D.files).length : Int) → (UB 262144 (rd_T144 (refL D.files) i).f3 (rd_T144 (refL D.files) i).f2 ∧ (rd_T144 (refL D.files) i).f3.length ≤ 1000000000000) := by
  intro i h0 h1
  rw [ref_len] at h1
  have hg : D.files[i.toNat]? = some (D.files[i.toNat]'(by omega)) := List.getElem?_eq_getElem (by omega)
  have hrd : rd_T144 (refL D.files) i = refF (D.files[i.toNat]'(by omega)) := by
    unfold rd_T144
    rw [List.getD_eq_getElem?_getD, ref_get hg]
    rfl
  have hm : (D.files[i.toNat]'(by omega)) ∈ D.files := List.getElem_mem _
  rw [hrd]
  exact (hi.files (D.files[i.toNat]'(by omega)).1 (D.files[i.toNat]'(by omega)).2 hm).units hN
def skipR (K : Int) (f : S144) : Bool := decide (f.f1 = false ∧ (K = 0 ∨ f.f3.length = 0))
theorem crR_step (keep : List Int) {L : List S144} {i : Int} (h0 : 0 ≤ i) (h1 : i < (L.length : Int)) {f : S144} (hf : rd_T144 L i = f) {K : Int} (hK : kOf keep i.toNat = K) :
    crR keep i.toNat (L.drop i.toNat) = if skipR K f = true then crR keep (i + 1).toNat (L.drop (i + 1).toNat) else ⟨f.f0, true, mkU (f.f3.take K.toNat) f.f2, []⟩ :: crR keep (i + 1).toNat (L.drop (i + 1).toNat) := by
  rw [drop_rd4 h0 h1, hf]
  show (if f.f1 = false ∧ (kOf keep i.toNat = 0 ∨ f.f3.length = 0) then _ else _) = _
  rw [hK, show (i + 1).toNat = i.toNat + 1 by omega]
  unfold skipR
  by_cases h : f.f1 = false ∧ (K = 0 ∨ f.f3.length = 0)
  · rw [if_pos h, if_pos (decide_eq_true h)]
  · rw [if_neg h, if_neg (by rw [decide_eq_false h]; simp)]
set_option maxHeartbeats 4000000 in
set_option maxRecDepth 100000 in
theorem rcrash_calls {W : World} {R : Nat → Prop} {r N : Nat} {D : Dsk} {Ak : Option Addr} {ck : Nat} {keep : List Int} (h : RefAt W R r D.room (refL D.files)) (hi : DInv N D) (hN : N ≤ 1000000) (hk : (Kd.int .i64).C W Ak keep.length keep)
    (hkb : ∀ z ∈ keep, z ≤ 9223372036854775807) :
    Calls Try.prog 42 #[.pointer (some ⟨r, 0, none⟩), .slice Ak keep.length ck] W fun e w' => e = .returned (.tuple #[]) ∧ Rx W w' R r D.room (refL (dCrash D keep).files) := by
  have hll : (refL D.files).length ≤ 16 := by rw [ref_len]; exact hi.few
  have hall := all_units hi hN
  have hres := cr_ref keep 0 D.files hi.files
  have H := Aside0.mk h
  have HK := Aside0.mk hk
  have HKB := Aside0.mk hkb
  obtain ⟨A, c, hh, hv⟩ := h.cells
  have hc1 : W.cell? ⟨r, 1, none⟩ = some (.slice A (refL D.files).length c) := blk_cell hh 1
  have HV := Aside0.mk hv
  have HH := Aside0.mk hh
  have HALL := Aside0.mk hall
  have HLT := Aside0.mk (h.lt r h.own)
  unfold dCrash
  dsimp only
  rw [← hres]
  clear hi hv hh hall hres h hk hkb
  obtain ⟨L, hL⟩ : ∃ L, refL D.files = L := ⟨_, rfl⟩
  rw [hL] at HV HH hc1 hll HALL H
  rw [hL]
  obtain ⟨Y, hY⟩ : ∃ Y, crR keep 0 L = Y := ⟨_, rfl⟩
  rw [hY]
  have HY := Aside0.mk hY
  clear hL hY
  go_enter Try.func42, Try.ntmps42
  go_wp2_with (first
    | ((with_reducible refine gate_dst (N := 10) rfl ?_); refine Kd.N_lit k144 _ 144 ?hg (N' := 10) ?hd (xs := ([] : List S144)) (inner := []) (ok := fun k => W.heap.size ≤ k) (okp := fun k => W.heap.size ≤ k) ?hr ?hp (fun _ hk => hk) (Nat.le_refl _) (Below.refl _ _) (Nat.le_refl _) (by simp) ?_; (case hd => rfl); (case hg => rfl); (case hr => first | (go_simp; done) | (go_simp; rfl)); (case hp => exact (Reps.none _ _)); intro v5 w5 ho5 hb5 hg_ hnew_; have HO5 := Aside0.mk ho5; have HB5 := Aside0.mk hb5; clear hg_ hnew_ ho5 hb5)
    | fail)
  go_loopg [4, 5] L.length (fun kq v4 v5 w' => ∃ (i : Int) (out : List S144), v5 = .int .i64 i ∧ 0 ≤ i ∧ i + kq = L.length ∧ Aside0 (Kd.N k144 144 w' W.heap.size (fun k => W.heap.size ≤ k) v4 out) ∧ Aside0 (out ++ crR keep i.toNat (L.drop i.toNat) = Y) ∧ out.length ≤ i ∧ Aside0 (Below W.heap.size W w'))
  case atStart => exact ⟨0, [], rfl, by omega, by omega, HO5, ⟨by rw [List.nil_append]; exact HY.out⟩, by simp, HB5⟩
  case round =>
    clear HO5 HB5
    obtain ⟨i, out, rfl, i0, i1, HO, HE, hol, HB⟩ := hrel
    replace hc1 := (HB.out.cell (World.block_lt_of_cell? W _ hc1)).trans hc1
    by_cases hi : i < (L.length : Int)
    · have c6 : decide (i < (L.length : Int)) = true := decide_eq_true hi
      obtain ⟨f, hf⟩ : ∃ f, rd_T144 L i = f := ⟨_, rfl⟩
      obtain ⟨hub, hul⟩ := HALL.out i i0 hi
      rw [hf] at hub hul
      obtain ⟨ad, A2, c2, A3, c3, hr⟩ := filR_of (Kd.V_below HV.out HB.out) i0 hi hf
      obtain rfl := hr.at_
      obtain ⟨K, hK⟩ : ∃ K, kOf keep i.toNat = K := ⟨_, rfl⟩
      have hst := crR_step keep i0 hi hf hK
      have hE := HE.out
      rw [hst] at hE
      have HE2 := Aside0.mk hE
      have HR := Aside0.mk hr
      have HKK := Aside0.mk hK
      have HUB := Aside0.mk hub
      have HUL := Aside0.mk hul
      have p0 := eq_true i0
      have p1 := eq_true hi
      have hni : IntKind.i64.wrap (i + 1) = i + 1 := IntWalk.i64_in _ ⟨by omega, by omega⟩
      have hK0 : 0 ≤ K := by rw [← hK]; unfold kOf; split <;> omega
      clear hst hE hr hf hub hul hK
      go_upto_region 6 with (fail)
      go_cut [30] (fun v30 w' => v30 = .bool (decide (0 < K)) ∧ wr = w')
      case first =>
        by_cases hki : i < (keep.length : Int)
        · have c7 : decide (i < (keep.length : Int)) = true := decide_eq_true hki
          have hK1 := HKK.out.symm.trans (kOf_in i0 hki)
          obtain ⟨z, hz⟩ : ∃ z, keep.getD i.toNat 0 = z := ⟨_, rfl⟩
          rw [hz] at hK1
          have hnk : keep ≠ [] := fun e => by subst e; simp at hki; omega
          obtain ⟨adk, rfl⟩ := C_some HK.out hnk
          have hxk := cellI (Kd.C_below HK.out HB.out) i0 hki hz
          have p2 := eq_true hki
          have cz : decide (z > 0) = decide (0 < K) := by rw [hK1]; by_cases h : 0 < z <;> simp [h] <;> omega
          clear hnk hz hK1
          go_wp2_with fail
          go_meet
          case rel => exact ⟨rfl, rfl⟩
        · have c7 : decide (i < (keep.length : Int)) = false := decide_eq_false hki
          have hK1 : K = 0 := HKK.out.symm.trans (kOf_out hki)
          subst hK1
          go_wp2_with fail
          go_meet
          case rel => exact ⟨rfl, rfl⟩
      case rest =>
        obtain ⟨rfl, rfl⟩ := hcut
        go_upto_if 30 with (fail)
        go_cut [6] (fun v6 w' => v6 = .int .i64 K ∧ wr = w')
        case first =>
          by_cases hp : 0 < K
          · have cp : decide (0 < K) = true := decide_eq_true hp
            have hki : i < (keep.length : Int) := by
              by_cases h : i < (keep.length : Int)
              · exact h
              · have := HKK.out.symm.trans (kOf_out h); omega
            have hK1 := HKK.out.symm.trans (kOf_in i0 hki)
            have hz : keep.getD i.toNat 0 = K := by omega
            have hnk : keep ≠ [] := fun e => by subst e; simp at hki; omega
            obtain ⟨adk, rfl⟩ := C_some HK.out hnk
            have hxk := cellI (Kd.C_below HK.out HB.out) i0 hki hz
            have p2 := eq_true hki
            clear hnk hz hK1
            go_wp2_with fail
            go_meet
            case rel => exact ⟨rfl, rfl⟩
          · have cp : decide (0 < K) = false := decide_eq_false hp
            have hK1 : K = 0 := by omega
            subst hK1
            go_wp2_with fail
            go_meet
            case rel => exact ⟨rfl, rfl⟩
        case rest =>
          obtain ⟨rfl, rfl⟩ := hcut
          have e0 := HR.out.name
          have e1 := HR.out.lasts
          have e2 := HR.out.sure
          have e3 := HR.out.units
          have hbn := blk_new wr (.cells #[.string f.f0, .bool f.f1, .slice A2 f.f2.length c2, .slice A3 f.f3.length c3] 144 (0, 0))
          obtain ⟨sk, hsk⟩ : ∃ sk, skipR K f = sk := ⟨_, rfl⟩
          have HSK := Aside0.mk hsk
          rw [hsk] at HE2
          clear hsk
          go_upto_region 9 with (fail)
          have HBN := Aside0.mk hbn
          have b0 : (wr.alloc (.cells #[.string f.f0, .bool f.f1, .slice A2 f.f2.length c2, .slice A3 f.f3.length c3] 144)).cell? ⟨wr.heap.size, 0, none⟩ = some (.string f.f0) := blk_cell hbn 0
          have b1 : (wr.alloc (.cells #[.string f.f0, .bool f.f1, .slice A2 f.f2.length c2, .slice A3 f.f3.length c3] 144)).cell? ⟨wr.heap.size, 1, none⟩ = some (.bool f.f1) := blk_cell hbn 1
          have b3 : (wr.alloc (.cells #[.string f.f0, .bool f.f1, .slice A2 f.f2.length c2, .slice A3 f.f3.length c3] 144)).cell? ⟨wr.heap.size, 3, none⟩ = some (.slice A3 f.f3.length c3) := blk_cell hbn 3
          clear hbn e0 e1 e2 e3
          go_cut [54] (fun v54 w' => v54 = .bool sk ∧ wr.alloc (.cells #[.string f.f0, .bool f.f1, .slice A2 f.f2.length c2, .slice A3 f.f3.length c3] 144) = w')
          case first =>
            have hsk := HSK.out
            unfold skipR at hsk
            cases hb : f.f1 with
            | true =>
              rw [hb] at b1
              have hs1 : sk = false := by rw [← hsk, hb]; simp
              subst hs1
              clear hsk
              go_wp2_with fail
              go_meet
              case rel => exact ⟨rfl, by rw [hb]⟩
            | false =>
              rw [hb] at b1
              by_cases hz : K = 0
              · subst hz
                have hs1 : sk = true := by rw [← hsk, hb]; simp
                subst hs1
                clear hsk
                go_wp2_with fail
                go_meet
                case rel => exact ⟨rfl, by rw [hb]⟩
              · have cz : (K == 0) = false := by simpa using hz
                have cu : ((f.f3.length : Int) == 0) = sk := by
                  rw [← hsk, hb]
                  by_cases h : f.f3.length = 0
                  · simp [h]
                  · have h' : ((f.f3.length : Int) == 0) = false := by simpa using h
                    rw [h']
                    simp [hz]
                    intro e
                    rw [e] at h
                    simp at h
                clear hsk
                go_wp2_with fail
                go_meet
                case rel => exact ⟨rfl, by rw [hb]⟩
          case rest =>
            obtain ⟨rfl, rfl⟩ := hcut
            clear b1 b3
            have hbA : Below wr.heap.size wr (wr.alloc (.cells #[.string f.f0, .bool f.f1, .slice A2 f.f2.length c2, .slice A3 f.f3.length c3] 144)) := below_alloc (Below.refl _ _) _
            cases sk with
            | true =>
              have hE := HE2.out
              rw [if_pos rfl] at hE
              have HE3 := Aside0.mk hE
              have HBA := Aside0.mk hbA
              clear hE hbA b0
              go_wp2_with fail
              go_roundg (gk - 1)
              case measure => omega
              case rel => exact ⟨i + 1, out, rfl, by omega, by omega, ⟨Kd.N_below HO.out HBA.out⟩, HE3, by omega, ⟨below_step HB.out HBA.out⟩⟩
            | false =>
              have hE := HE2.out
              rw [if_neg (by simp)] at hE
              obtain ⟨M, hM⟩ : ∃ M, mkU (f.f3.take K.toNat) f.f2 = M := ⟨_, rfl⟩
              rw [hM] at hE
              have hE4 : (out ++ [⟨f.f0, true, M, []⟩]) ++ crR keep (i + 1).toNat (L.drop (i + 1).toNat) = Y := by rw [← hE]; simp
              have HE4 := Aside0.mk hE4
              have HM := Aside0.mk hM
              have HBA := Aside0.mk hbA
              clear hE hM hE4 hbA b0
              obtain ⟨w8, hw8⟩ : ∃ w8, w8 = wr.alloc (.cells #[.string f.f0, .bool f.f1, .slice A2 f.f2.length c2, .slice A3 f.f3.length c3] 144) := ⟨_, rfl⟩
              rw [← hw8] at HBN HBA ⊢
              have b0 : w8.cell? ⟨wr.heap.size, 0, none⟩ = some (.string f.f0) := blk_cell HBN.out 0
              have b1 : w8.cell? ⟨wr.heap.size, 1, none⟩ = some (.bool f.f1) := blk_cell HBN.out 1
              have b2 : w8.cell? ⟨wr.heap.size, 2, none⟩ = some (.slice A2 f.f2.length c2) := blk_cell HBN.out 2
              have b3 : w8.cell? ⟨wr.heap.size, 3, none⟩ = some (.slice A3 f.f3.length c3) := blk_cell HBN.out 3
              have HW8 := Aside0.mk hw8
              clear hw8
              go_wp2_with fail
              go_region_law (first
                | (go_simp; go_at_call 89; refine (rmade K HR.out.vs HR.out.vu HUB.out HUL.out (below_step HBA.out (below_drew1 (Below.refl _ _)))).mono ?_; rintro e w4 ⟨A6, c6, rfl, hr6, hb6⟩; rw [HM.out] at hr6 ⊢; have hB4 := below_step (below_drew1 (Below.refl w8.heap.size w8)) hb6; have d0 : w4.cell? ⟨wr.heap.size, 0, none⟩ = some (.string f.f0) := blk_cell ((hB4.block wr.heap.size (blk_lt HBN.out)).trans HBN.out) 0; have HB4 := Aside0.mk (below_step HBA.out hB4); have HR6 := Aside0.mk hr6; have HS4 := Aside0.mk hB4.size; clear hB4 hr6 hb6)
                | (refine Kd.N_append_step k144 (w0 := W) W.heap.size (by rfl) (.tmp 55) (.tmp 62) 138 144 (.agg #[(.string ⟨#[]⟩), (.bool false), (.slice none 0 0), (.slice none 0 0)]) 72 (by rfl) Try.underlying138 info144 (by rfl) (by decide) (by decide) u4 out ⟨f.f0, true, M, []⟩ [.string f.f0, .bool true, .slice A6 M.length c6, .slice none 0 0] (fun k => W.heap.size ≤ k) (fun k => w8.heap.size ≤ k) (by rfl) (by rfl) (k144_mkF w4 _ ⟨f.f0, true, M, []⟩ (Kd.R_reads' HR6.out).2.1 (Kd.F_mono (Kd.R_F (Kd.R_bound HR6.out)) (fun k hk => hk.2.1)) (Nat.le_refl _) (Kd.F_nil _ _ _)) (fun k hk => ⟨Nat.le_trans HB.out.size (Nat.le_trans HBA.out.size hk), fun e => by have h1 := Kd.N_lt HO.out k e.symm; have h2 := HBA.out.size; have h3 : w8.heap.size ≤ k := hk; omega⟩) (fun k hk => Nat.le_trans HB.out.size (Nat.le_trans HB4.out.size hk)) (Kd.N_below HO.out HB4.out) (below_step HB.out HB4.out) (Nat.le_trans HB.out.size HB4.out.size) (by omega) ?_; intro v7 w7 hn7 hb7 hg7 hat7; have HN7 := Aside0.mk hn7; have HB7 := Aside0.mk hb7; clear hn7 hb7 hg7 hat7)
                | fail)
              all_goals
                go_wp2_with fail
                go_roundg (gk - 1)
                case measure => omega
                case rel => exact ⟨i + 1, out ++ [⟨f.f0, true, M, []⟩], rfl, by omega, by omega, HN7, HE4, by simp; omega, HB7⟩
    · have c6 : decide (i < (L.length : Int)) = false := decide_eq_false hi
      have hE := HE.out
      rw [List.drop_eq_nil_of_le (by omega), show crR keep i.toNat [] = [] from rfl, List.append_nil] at hE
      have HYE := Aside0.mk hE
      have hr1 := (HB.out.block r HLT.out).trans HH.out
      have hf1 := blk_frozen hr1 1
      obtain ⟨A9, c9, rfl⟩ := Kd.V_slice (Kd.N_V HO.out (base' := 0))
      clear hE hr1
      go_wp2_with fail
      go_end0
      exact ⟨rfl, by
        rw [← HYE.out]
        exact Rx.set H.out HB.out (Kd.V_mono (Kd.N_V HO.out) (fun k hk => .inr hk))⟩
end Go.Proofs.Ytmmiipnmimjojaa.PS
