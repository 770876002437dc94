/- The texts of this claim's seat, joined: part 15. -/
import Derived.Test.YtmmiipnmimjojaaJ14
import Derived.Test.YtmmiipnmimjojaaRows
import Derived.Deep.Slices
import Derived.SizedLaws
import Derived.ProofKit
import Derived.KernelRfl
section
namespace Go.Proofs.Ytmmiipnmimjojaa.PS
open Go.RowKit Go.Proofs.YtmmiipnmimjojaaW.PrintWords Go.Proofs.YtmmiipnmimjojaaW.PrintLast Go.Proofs.YtmmiipnmimjojaaW.PrintMore
open Go.Maps Go.Proofs.Ytmmiipnmimjojaa.PD
set_option linter.unusedVariables false
set_option linter.unusedSimpArgs false
theorem rmade {W w : World} {ok : Nat → Prop} {A2 A3 : Option Addr} {c2 c3 : Nat} {f : S144} (kk : Int) (hs : Kd.V (Kd.int .u8) 5 W 0 ok (.slice A2 f.f2.length c2) f.f2) (hu : Kd.V k166 166 W 0 ok (.slice A3 f.f3.length c3) f.f3)
    (hB : UB 262144 f.f3 f.f2) (hl : f.f3.length ≤ 1000000000000) (hb : Below W.heap.size W w) :
    Calls Try.prog 89 #[.agg #[.string f.f0, .bool f.f1, .slice A2 f.f2.length c2, .slice A3 f.f3.length c3], .int .i64 kk] w fun e w' => ∃ A c, e = .returned (.slice A (mkU (f.f3.take kk.toNat) f.f2).length c) ∧ k8.R 5 w' w.heap.size (fun _ => True) (.slice A (mkU (f.f3.take kk.toNat) f.f2).length c) (mkU (f.f3.take kk.toNat) f.f2) ∧ Below w.heap.size w w' := by
  obtain ⟨_, l2, h2⟩ := Kd.V_reads' hs
  obtain ⟨_, l3, h3⟩ := Kd.V_reads' hu
  refine (tollgateref05_made.calls _ f.f0 f.f1 A2 c2 f.f2 A3 c3 f.f3 kk _ w (Kd.C_below h2 hb) l2 (Kd.C_below h3 hb) l3 (made_f kk f.f0 f.f1 f.f2 f.f3 (B := 262144) (by omega) hl hB)).mono ?_
  rintro e w' ⟨v, rfl, hr, hb'⟩
  obtain ⟨A, c, rfl⟩ := Kd.R_slice hr
  exact ⟨A, c, rfl, hr, hb'⟩
theorem all_units {N : Nat} {D : Dsk} (hi : DInv N D) (hN : N ≤ 1000000) : ∀ i, 0 ≤ i → i < ((refL D.files).length : Int) → (UB 262144 (rd_T144 (refL D.files) i).f3 (rd_T144 (refL D.files) i).f2 ∧ (rd_T144 (refL D.files) i).f3.length ≤ 1000000000000) := by
  intro i h0 h1
  rw [ref_len] at h1
  have hg : D.files[i.toNat]? = some (D.files[i.toNat]'(by omega)) := List.getElem?_eq_getElem (by omega)
  have hrd : rd_T144 (refL D.files) i = refF (D.files[i.toNat]'(by omega)) := by
    unfold rd_T144
    rw [List.getD_eq_getElem?_getD, ref_get hg]
    rfl
  have hm : (D.files[i.toNat]'(by omega)) ∈ D.files := List.getElem_mem _
  rw [hrd]
  exact (hi.files (D.files[i.toNat]'(by omega)).1 (D.files[i.toNat]'(by omega)).2 hm).units hN
def skipR (K : Int) (f : S144) : Bool := decide (f.f1 = false ∧ (K = 0 ∨ f.f3.length = 0))
theorem crR_step (keep : List Int) {L : List S144} {i : Int} (h0 : 0 ≤ i) (h1 : i < (L.length : Int)) {f : S144} (hf : rd_T144 L i = f) {K : Int} (hK : kOf keep i.toNat = K) :
    crR keep i.toNat (L.drop i.toNat) = if skipR K f = true then crR keep (i + 1).toNat (L.drop (i + 1).toNat) else ⟨f.f0, true, mkU (f.f3.take K.toNat) f.f2, []⟩ :: crR keep (i + 1).toNat (L.drop (i + 1).toNat) := by
  rw [drop_rd4 h0 h1, hf]
  show (if f.f1 = false ∧ (kOf keep i.toNat = 0 ∨ f.f3.length = 0) then _ else _) = _
  rw [hK, show (i + 1).toNat = i.toNat + 1 by omega]
  unfold skipR
  by_cases h : f.f1 = false ∧ (K = 0 ∨ f.f3.length = 0)
  · rw [if_pos h, if_pos (decide_eq_true h)]
  · rw [if_neg h, if_neg (by rw [decide_eq_false h]; simp)]
set_option maxHeartbeats 4000000 in
set_option maxRecDepth 100000 in
theorem rcrash_calls {W : World} {R : Nat → Prop} {r N : Nat} {D : Dsk} {Ak : Option Addr} {ck : Nat} {keep : List Int} (h : RefAt W R r D.room (refL D.files)) (hi : DInv N D) (hN : N ≤ 1000000) (hk : (Kd.int .i64).C W Ak keep.length keep)
    (hkb : ∀ z ∈ keep, z ≤ 9223372036854775807) :
    Calls Try.prog 42 #[.pointer (some ⟨r, 0, none⟩), .slice Ak keep.length ck] W fun e w' => e = .returned (.tuple #[]) ∧ Rx W w' R r D.room (refL (dCrash D keep).files) := by
  have hll : (refL D.files).length ≤ 16 := by rw [ref_len]; exact hi.few
  have hall := all_units hi hN
  have hres := cr_ref keep 0 D.files hi.files
  have H := Aside0.mk h
  have HK := Aside0.mk hk
  have HKB := Aside0.mk hkb
  obtain ⟨A, c, hh, hv⟩ := h.cells
  have hc1 : W.cell? ⟨r, 1, none⟩ = some (.slice A (refL D.files).length c) := blk_cell hh 1
  have HV := Aside0.mk hv
  have HH := Aside0.mk hh
  have HALL := Aside0.mk hall
  have HLT := Aside0.mk (h.lt r h.own)
  unfold dCrash
  dsimp only
  rw [← hres]
  clear hi hv hh hall hres h hk hkb
  obtain ⟨L, hL⟩ : ∃ L, refL D.files = L := ⟨_, rfl⟩
  rw [hL] at HV HH hc1 hll HALL H
  rw [hL]
  obtain ⟨Y, hY⟩ : ∃ Y, crR keep 0 L = Y := ⟨_, rfl⟩
  rw [hY]
  have HY := Aside0.mk hY
  clear hL hY
  go_enter Try.func42, Try.ntmps42
  go_wp2_with (first
    | ((with_reducible refine gate_dst (N := 10) rfl ?_); refine Kd.N_lit k144 _ 144 ?hg (N' := 10) ?hd (xs := ([] : List S144)) (inner := []) (ok := fun k => W.heap.size ≤ k) (okp := fun k => W.heap.size ≤ k) ?hr ?hp (fun _ hk => hk) (Nat.le_refl _) (Below.refl _ _) (Nat.le_refl _) (by simp) ?_; (case hd => rfl); (case hg => rfl); (case hr => first | (go_simp; done) | (go_simp; rfl)); (case hp => exact (Reps.none _ _)); intro v5 w5 ho5 hb5 hg_ hnew_; have HO5 := Aside0.mk ho5; have HB5 := Aside0.mk hb5; clear hg_ hnew_ ho5 hb5)
    | fail)
  go_loopg [4, 5] L.length (fun kq v4 v5 w' => ∃ (i : Int) (out : List S144), v5 = .int .i64 i ∧ 0 ≤ i ∧ i + kq = L.length ∧ Aside0 (Kd.N k144 144 w' W.heap.size (fun k => W.heap.size ≤ k) v4 out) ∧ Aside0 (out ++ crR keep i.toNat (L.drop i.toNat) = Y) ∧ out.length ≤ i ∧ Aside0 (Below W.heap.size W w'))
  case atStart => exact ⟨0, [], rfl, by omega, by omega, HO5, ⟨by rw [List.nil_append]; exact HY.out⟩, by simp, HB5⟩
  case round =>
    clear HO5 HB5
    obtain ⟨i, out, rfl, i0, i1, HO, HE, hol, HB⟩ := hrel
    replace hc1 := (HB.out.cell (World.block_lt_of_cell? W _ hc1)).trans hc1
    by_cases hi : i < (L.length : Int)
    · have c6 : decide (i < (L.length : Int)) = true := decide_eq_true hi
      obtain ⟨f, hf⟩ : ∃ f, rd_T144 L i = f := ⟨_, rfl⟩
      obtain ⟨hub, hul⟩ := HALL.out i i0 hi
      rw [hf] at hub hul
      obtain ⟨ad, A2, c2, A3, c3, hr⟩ := filR_of (Kd.V_below HV.out HB.out) i0 hi hf
      obtain rfl := hr.at_
      obtain ⟨K, hK⟩ : ∃ K, kOf keep i.toNat = K := ⟨_, rfl⟩
      have hst := crR_step keep i0 hi hf hK
      have hE := HE.out
      rw [hst] at hE
      have HE2 := Aside0.mk hE
      have HR := Aside0.mk hr
      have HKK := Aside0.mk hK
      have HUB := Aside0.mk hub
      have HUL := Aside0.mk hul
      have p0 := eq_true i0
      have p1 := eq_true hi
      have hni : IntKind.i64.wrap (i + 1) = i + 1 := IntWalk.i64_in _ ⟨by omega, by omega⟩
      have hK0 : 0 ≤ K := by rw [← hK]; unfold kOf; split <;> omega
      clear hst hE hr hf hub hul hK
      go_upto_region 6 with (fail)
      go_cut [30] (fun v30 w' => v30 = .bool (decide (0 < K)) ∧ wr = w')
      case first =>
        by_cases hki : i < (keep.length : Int)
        · have c7 : decide (i < (keep.length : Int)) = true := decide_eq_true hki
          have hK1 := HKK.out.symm.trans (kOf_in i0 hki)
          obtain ⟨z, hz⟩ : ∃ z, keep.getD i.toNat 0 = z := ⟨_, rfl⟩
          rw [hz] at hK1
          have hnk : keep ≠ [] := fun e => by subst e; simp at hki; omega
          obtain ⟨adk, rfl⟩ := C_some HK.out hnk
          have hxk := cellI (Kd.C_below HK.out HB.out) i0 hki hz
          have p2 := eq_true hki
          have cz : decide (z > 0) = decide (0 < K) := by rw [hK1]; by_cases h : 0 < z <;> simp [h] <;> omega
          clear hnk hz hK1
          go_wp2_with fail
          go_meet
          case rel => exact ⟨rfl, rfl⟩
        · have c7 : decide (i < (keep.length : Int)) = false := decide_eq_false hki
          have hK1 : K = 0 := HKK.out.symm.trans (kOf_out hki)
          subst hK1
          go_wp2_with fail
          go_meet
          case rel => exact ⟨rfl, rfl⟩
      case rest =>
        obtain ⟨rfl, rfl⟩ := hcut
        go_upto_if 30 with (fail)
        go_cut [6] (fun v6 w' => v6 = .int .i64 K ∧ wr = w')
        case first =>
          by_cases hp : 0 < K
          · have cp : decide (0 < K) = true := decide_eq_true hp
            have hki : i < (keep.length : Int) := by
              by_cases h : i < (keep.length : Int)
              · exact h
              · have := HKK.out.symm.trans (kOf_out h); omega
            have hK1 := HKK.out.symm.trans (kOf_in i0 hki)
            have hz : keep.getD i.toNat 0 = K := by omega
            have hnk : keep ≠ [] := fun e => by subst e; simp at hki; omega
            obtain ⟨adk, rfl⟩ := C_some HK.out hnk
            have hxk := cellI (Kd.C_below HK.out HB.out) i0 hki hz
            have p2 := eq_true hki
            clear hnk hz hK1
            go_wp2_with fail
            go_meet
            case rel => exact ⟨rfl, rfl⟩
          · have cp : decide (0 < K) = false := decide_eq_false hp
            have hK1 : K = 0 := by omega
            subst hK1
            go_wp2_with fail
            go_meet
            case rel => exact ⟨rfl, rfl⟩
        case rest =>
          obtain ⟨rfl, rfl⟩ := hcut
          have e0 := HR.out.name
          have e1 := HR.out.lasts
          have e2 := HR.out.sure
          have e3 := HR.out.units
          have hbn := blk_new wr (.cells #[.string f.f0, .bool f.f1, .slice A2 f.f2.length c2, .slice A3 f.f3.length c3] 144 (0, 0))
          obtain ⟨sk, hsk⟩ : ∃ sk, skipR K f = sk := ⟨_, rfl⟩
          have HSK := Aside0.mk hsk
          rw [hsk] at HE2
          clear hsk
          go_upto_region 9 with (fail)
          have HBN := Aside0.mk hbn
          have b0 : (wr.alloc (.cells #[.string f.f0, .bool f.f1, .slice A2 f.f2.length c2, .slice A3 f.f3.length c3] 144)).cell? ⟨wr.heap.size, 0, none⟩ = some (.string f.f0) := blk_cell hbn 0
          have b1 : (wr.alloc (.cells #[.string f.f0, .bool f.f1, .slice A2 f.f2.length c2, .slice A3 f.f3.length c3] 144)).cell? ⟨wr.heap.size, 1, none⟩ = some (.bool f.f1) := blk_cell hbn 1
          have b3 : (wr.alloc (.cells #[.string f.f0, .bool f.f1, .slice A2 f.f2.length c2, .slice A3 f.f3.length c3] 144)).cell? ⟨wr.heap.size, 3, none⟩ = some (.slice A3 f.f3.length c3) := blk_cell hbn 3
          clear hbn e0 e1 e2 e3
          go_cut [54] (fun v54 w' => v54 = .bool sk ∧ wr.alloc (.cells #[.string f.f0, .bool f.f1, .slice A2 f.f2.length c2, .slice A3 f.f3.length c3] 144) = w')
          case first =>
            have hsk := HSK.out
            unfold skipR at hsk
            cases hb : f.f1 with
            | true =>
              rw [hb] at b1
              have hs1 : sk = false := by rw [← hsk, hb]; simp
              subst hs1
              clear hsk
              go_wp2_with fail
              go_meet
              case rel => exact ⟨rfl, by rw [hb]⟩
            | false =>
              rw [hb] at b1
              by_cases hz : K = 0
              · subst hz
                have hs1 : sk = true := by rw [← hsk, hb]; simp
                subst hs1
                clear hsk
                go_wp2_with fail
                go_meet
                case rel => exact ⟨rfl, by rw [hb]⟩
              · have cz : (K == 0) = false := by simpa using hz
                have cu : ((f.f3.length : Int) == 0) = sk := by
                  rw [← hsk, hb]
                  by_cases h : f.f3.length = 0
                  · simp [h]
                  · have h' : ((f.f3.length : Int) == 0) = false := by simpa using h
                    rw [h']
                    simp [hz]
                    intro e
                    rw [e] at h
                    simp at h
                clear hsk
                go_wp2_with fail
                go_meet
                case rel => exact ⟨rfl, by rw [hb]⟩
          case rest =>
            obtain ⟨rfl, rfl⟩ := hcut
            clear b1 b3
            have hbA : Below wr.heap.size wr (wr.alloc (.cells #[.string f.f0, .bool f.f1, .slice A2 f.f2.length c2, .slice A3 f.f3.length c3] 144)) := below_alloc (Below.refl _ _) _
            cases sk with
            | true =>
              have hE := HE2.out
              rw [if_pos rfl] at hE
              have HE3 := Aside0.mk hE
              have HBA := Aside0.mk hbA
              clear hE hbA b0
              go_wp2_with fail
              go_roundg (gk - 1)
              case measure => omega
              case rel => exact ⟨i + 1, out, rfl, by omega, by omega, ⟨Kd.N_below HO.out HBA.out⟩, HE3, by omega, ⟨below_step HB.out HBA.out⟩⟩
            | false =>
              have hE := HE2.out
              rw [if_neg (by simp)] at hE
              obtain ⟨M, hM⟩ : ∃ M, mkU (f.f3.take K.toNat) f.f2 = M := ⟨_, rfl⟩
              rw [hM] at hE
              have hE4 : (out ++ [⟨f.f0, true, M, []⟩]) ++ crR keep (i + 1).toNat (L.drop (i + 1).toNat) = Y := by rw [← hE]; simp
              have HE4 := Aside0.mk hE4
              have HM := Aside0.mk hM
              have HBA := Aside0.mk hbA
              clear hE hM hE4 hbA b0
              obtain ⟨w8, hw8⟩ : ∃ w8, w8 = wr.alloc (.cells #[.string f.f0, .bool f.f1, .slice A2 f.f2.length c2, .slice A3 f.f3.length c3] 144) := ⟨_, rfl⟩
              rw [← hw8] at HBN HBA ⊢
              have b0 : w8.cell? ⟨wr.heap.size, 0, none⟩ = some (.string f.f0) := blk_cell HBN.out 0
              have b1 : w8.cell? ⟨wr.heap.size, 1, none⟩ = some (.bool f.f1) := blk_cell HBN.out 1
              have b2 : w8.cell? ⟨wr.heap.size, 2, none⟩ = some (.slice A2 f.f2.length c2) := blk_cell HBN.out 2
              have b3 : w8.cell? ⟨wr.heap.size, 3, none⟩ = some (.slice A3 f.f3.length c3) := blk_cell HBN.out 3
              have HW8 := Aside0.mk hw8
              clear hw8
              go_wp2_with fail
              go_region_law (first
                | (go_simp; go_at_call 89; refine (rmade K HR.out.vs HR.out.vu HUB.out HUL.out (below_step HBA.out (below_drew1 (Below.refl _ _)))).mono ?_; rintro e w4 ⟨A6, c6, rfl, hr6, hb6⟩; rw [HM.out] at hr6 ⊢; have hB4 := below_step (below_drew1 (Below.refl w8.heap.size w8)) hb6; have d0 : w4.cell? ⟨wr.heap.size, 0, none⟩ = some (.string f.f0) := blk_cell ((hB4.block wr.heap.size (blk_lt HBN.out)).trans HBN.out) 0; have HB4 := Aside0.mk (below_step HBA.out hB4); have HR6 := Aside0.mk hr6; have HS4 := Aside0.mk hB4.size; clear hB4 hr6 hb6)
                | (refine Kd.N_append_step k144 (w0 := W) W.heap.size (by rfl) (.tmp 55) (.tmp 62) 138 144 (.agg #[(.string ⟨#[]⟩), (.bool false), (.slice none 0 0), (.slice none 0 0)]) 72 (by rfl) Try.underlying138 info144 (by rfl) (by decide) (by decide) u4 out ⟨f.f0, true, M, []⟩ [.string f.f0, .bool true, .slice A6 M.length c6, .slice none 0 0] (fun k => W.heap.size ≤ k) (fun k => w8.heap.size ≤ k) (by rfl) (by rfl) (k144_mkF w4 _ ⟨f.f0, true, M, []⟩ (Kd.R_reads' HR6.out).2.1 (Kd.F_mono (Kd.R_F (Kd.R_bound HR6.out)) (fun k hk => hk.2.1)) (Nat.le_refl _) (Kd.F_nil _ _ _)) (fun k hk => ⟨Nat.le_trans HB.out.size (Nat.le_trans HBA.out.size hk), fun e => by have h1 := Kd.N_lt HO.out k e.symm; have h2 := HBA.out.size; have h3 : w8.heap.size ≤ k := hk; omega⟩) (fun k hk => Nat.le_trans HB.out.size (Nat.le_trans HB4.out.size hk)) (Kd.N_below HO.out HB4.out) (below_step HB.out HB4.out) (Nat.le_trans HB.out.size HB4.out.size) (by omega) ?_; intro v7 w7 hn7 hb7 hg7 hat7; have HN7 := Aside0.mk hn7; have HB7 := Aside0.mk hb7; clear hn7 hb7 hg7 hat7)
                | fail)
              all_goals
                go_wp2_with fail
                go_roundg (gk - 1)
                case measure => omega
                case rel => exact ⟨i + 1, out ++ [⟨f.f0, true, M, []⟩], rfl, by omega, by omega, HN7, HE4, by simp; omega, HB7⟩
    · have c6 : decide (i < (L.length : Int)) = false := decide_eq_false hi
      have hE := HE.out
      rw [List.drop_eq_nil_of_le (by omega), show crR keep i.toNat [] = [] from rfl, List.append_nil] at hE
      have HYE := Aside0.mk hE
      have hr1 := (HB.out.block r HLT.out).trans HH.out
      have hf1 := blk_frozen hr1 1
      obtain ⟨A9, c9, rfl⟩ := Kd.V_slice (Kd.N_V HO.out (base' := 0))
      clear hE hr1
      go_wp2_with fail
      go_end0
      exact ⟨rfl, by
        rw [← HYE.out]
        exact Rx.set H.out HB.out (Kd.V_mono (Kd.N_V HO.out) (fun k hk => .inr hk))⟩
end Go.Proofs.Ytmmiipnmimjojaa.PS
end
section
namespace Go.Proofs.Ytmmiipnmimjojaa.PS
open Go.RowKit Go.Proofs.YtmmiipnmimjojaaW.PrintWords Go.Proofs.YtmmiipnmimjojaaW.PrintLast Go.Proofs.YtmmiipnmimjojaaW.PrintMore
open Go.Maps Go.Proofs.Ytmmiipnmimjojaa.PD
set_option linter.unusedVariables false
set_option linter.unusedSimpArgs false
/-- W0: the law's beginning; S, R: the blocks of both. -/
structure Pr (W0 W : World) (S R : Nat → Prop) (g r N : Nat) (D : Dsk) (room : Int) (l : List S144) : Prop where
  dk : Dk W0 W S g N D
  rf : RefAt W R r room l
  new : ∀ k, R k → W0.heap.size ≤ k
  dis : ∀ k, R k → ¬ S k
/-- A block that is none of both. -/
structure Bx (W : World) (S R : Nat → Prop) (b : Nat) (o : Obj) : Prop where
  at_ : W.heap[b]? = some o
  ns : ¬ S b
  nr : ¬ R b
section
variable {W0 W W1 w' : World} {S R S1 R1 : Nat → Prop} {g r N M : Nat} {D D' : Dsk} {room : Int} {l l' : List S144}
theorem Bx.of_new {o : Obj} {b : Nat} (h : Pr W0 W S R g r N D room l) (hb : W.heap.size ≤ b) (hs : W1.heap[b]? = some o) : Bx W1 S R b o :=
  ⟨hs, fun h' => by have := (h.dk.2.1 b h').2; omega, fun h' => by have := h.rf.lt b h'; omega⟩
theorem Pr.below (h : Pr W0 W S R g r N D room l) (hb : Below W.heap.size W W1) : Pr W0 W1 S R g r N D room l := ⟨h.dk.step hb, h.rf.below hb, h.new, h.dis⟩
theorem Bx.below {b : Nat} {o : Obj} (h : Bx W S R b o) (hb : Below W.heap.size W W1) : Bx W1 S R b o := ⟨(hb.block b (blk_lt h.at_)).trans h.at_, h.ns, h.nr⟩
/-- Writing elsewhere. -/
theorem Pr.kp {P : Nat → Prop} (h : Pr W0 W S R g r N D room l) (k : Kp W W1 P) (hP0 : ∀ k, P k → W0.heap.size ≤ k) (hS : ∀ k, S k → ¬ P k) (hR : ∀ k, R k → ¬ P k) : Pr W0 W1 S R g r N D room l :=
  ⟨h.dk.kp (h.dk.1.trans (k.below (B := W0.heap.size) (fun i hi _ => hP0 i hi) h.dk.1.size)) k hS, h.rf.kp k hR, h.new, h.dis⟩
theorem Pr.dstep (h : Pr W0 W S R g r N D room l) (nx : Nx W0 W S w' g M D') : ∃ S', Pr W0 w' S' R g r M D' room l ∧ ∀ b o, Bx W S R b o → Bx w' S' R b o := by
  obtain ⟨S', hd, hk, hs⟩ := nx
  refine ⟨S', ⟨hd, h.rf.kp hk h.dis, h.new, fun k hk' hS' => h.dis k hk' (hs k (h.rf.lt k hk') hS')⟩, fun b o hb => ⟨?_, fun hS' => hb.ns (hs b (blk_lt hb.at_) hS'), hb.nr⟩⟩
  exact (hk.block b (blk_lt hb.at_) hb.ns).trans hb.at_
theorem Pr.rstep (h : Pr W0 W S R g r N D room l) (rx : Rx W w' R r room l') : ∃ R', Pr W0 w' S R' g r N D room l' ∧ ∀ b o, Bx W S R b o → Bx w' S R' b o := by
  obtain ⟨R', hr, hk, hs⟩ := rx
  have h0 := h.new r h.rf.own
  have hw := h.dk.1.size
  refine ⟨R', ⟨h.dk.kp (h.dk.1.trans (hk.below (B := W0.heap.size) (fun i hi _ => by omega) hw)) hk (fun k hS e => h.dis r h.rf.own (by rw [← e]; exact hS)), hr, fun k hk' => ?_, fun k hk' hS => ?_⟩, fun b o hb => ⟨?_, hb.ns, fun hR' => hb.nr (hs b (blk_lt hb.at_) hR')⟩⟩
  · by_cases hlt : k < W.heap.size
    · exact h.new k (hs k hlt hk')
    · omega
  · have hlt := (h.dk.2.1 k hS).2
    exact h.dis k (hs k hlt hk') hS
  · exact (hk.block b (blk_lt hb.at_) (fun e => hb.nr (by rw [e]; exact h.rf.own))).trans hb.at_
end
/-- What a call of one of both leaves. -/
def AfD (W0 W : World) (S R : Nat → Prop) (g r M : Nat) (D' : Dsk) (room : Int) (l : List S144) (w' : World) : Prop := ∃ S', Pr W0 w' S' R g r M D' room l ∧ ∀ b o, Bx W S R b o → Bx w' S' R b o
def AfR (W0 W : World) (S R : Nat → Prop) (g r N : Nat) (D : Dsk) (room : Int) (l' : List S144) (w' : World) : Prop := ∃ R', Pr W0 w' S R' g r N D room l' ∧ ∀ b o, Bx W S R b o → Bx w' S R' b o
section
variable {W0 W w' : World} {S R : Nat → Prop} {g r N N0 : Nat} {D D0 : Dsk} {room : Int} {l : List S144}
theorem pd_cut {s : ByteArray} {z : Int} (h : Pr W0 W S R g r N D room l) (hN : N ≤ 1000000) (hs : s.size ≤ maxLen) :
    Calls Try.prog 35 #[.pointer (some ⟨g, 0, none⟩), .string s, .int .i64 z] W fun e w' => e = .returned (.int .i64 (dCut D s z).1) ∧ AfD W0 W S R g r (N + 1) (dCut D s z).2 room l w' :=
  (dk_cut h.dk hN hs).mono fun e w' hw => ⟨hw.1, h.dstep hw.2⟩
theorem pd_sync {s : ByteArray} (h : Pr W0 W S R g r N D room l) (hN : N ≤ 1000000) (hs : s.size ≤ maxLen) :
    Calls Try.prog 21 #[.pointer (some ⟨g, 0, none⟩), .string s] W fun e w' => e = .returned (.int .i64 (dSync D s).1) ∧ AfD W0 W S R g r N (dSync D s).2 room l w' :=
  (dk_sync h.dk hN hs).mono fun e w' hw => ⟨hw.1, h.dstep hw.2⟩
theorem pd_remove {s : ByteArray} (h : Pr W0 W S R g r N D room l) (hs : s.size ≤ maxLen) :
    Calls Try.prog 34 #[.pointer (some ⟨g, 0, none⟩), .string s] W fun e w' => e = .returned (.int .i64 (dRemove D s).1) ∧ AfD W0 W S R g r N (dRemove D s).2 room l w' :=
  (dk_remove h.dk hs).mono fun e w' hw => ⟨hw.1, h.dstep hw.2⟩
theorem pd_rename {s t : ByteArray} (h : Pr W0 W S R g r N D room l) (hs : s.size ≤ maxLen) (ht : t.size ≤ maxLen) :
    Calls Try.prog 31 #[.pointer (some ⟨g, 0, none⟩), .string s, .string t] W fun e w' => e = .returned (.int .i64 (dRename D s t).1) ∧ AfD W0 W S R g r N (dRename D s t).2 room l w' :=
  (dk_rename h.dk hs ht).mono fun e w' hw => ⟨hw.1, h.dstep hw.2⟩
theorem pd_crash {A : Option Addr} {c : Nat} {keep : List Int} (h : Pr W0 W S R g r N D room l) (hN : N ≤ 1000000) (hk : (Kd.int .i64).C W A keep.length keep) (hA : ∀ ad, A = some ad → 0 < keep.length → ¬ S ad.block) (hkb : ∀ z ∈ keep, z ≤ 9223372036854775807) :
    Calls Try.prog 22 #[.pointer (some ⟨g, 0, none⟩), .slice A keep.length c] W fun e w' => e = .returned (.tuple #[]) ∧ AfD W0 W S R g r N (dCrash D keep) room l w' :=
  (dk_crash h.dk hN hk hA hkb).mono fun e w' hw => ⟨hw.1, h.dstep hw.2⟩
theorem pd_write {s : ByteArray} {at_ : Int} {A : Option Addr} {c : Nat} {b : List Int} (h : Pr W0 W S R g r N D room l) (hN : N ≤ 1000000) (hs : s.size ≤ maxLen) (hr : k8.C W A b.length b) (hc : b.length ≤ c) (hl : b.length ≤ 140737488355328)
    (hA : ∀ ad, A = some ad → 0 < b.length → ¬ S ad.block) :
    Calls Try.prog 20 #[.pointer (some ⟨g, 0, none⟩), .string s, .int .i64 at_, .slice A b.length c] W fun e w' => e = .returned (.int .i64 (dWrite D s at_ b).1) ∧ AfD W0 W S R g r (N + 1) (dWrite D s at_ b).2 room l w' :=
  (dk_write h.dk hN hs hr hc hl hA).mono fun e w' hw => ⟨hw.1, h.dstep hw.2⟩
theorem pr_cut {s : ByteArray} {z : Int} (h : Pr W0 W S R g r N D D0.room (refL D0.files)) (hi : DInv N0 D0) (hN : N0 ≤ 1000000) :
    Calls Try.prog 79 #[.pointer (some ⟨r, 0, none⟩), .string s, .int .i64 z] W fun e w' => e = .returned (.int .i64 (dCut D0 s z).1) ∧ AfR W0 W S R g r N D D0.room (refL (dCut D0 s z).2.files) w' :=
  (rcut_calls h.rf hi hN).mono fun e w' hw => ⟨hw.1, h.rstep hw.2⟩
theorem pr_sync {s : ByteArray} (h : Pr W0 W S R g r N D D0.room (refL D0.files)) (hi : DInv N0 D0) (hN : N0 ≤ 1000000) :
    Calls Try.prog 80 #[.pointer (some ⟨r, 0, none⟩), .string s] W fun e w' => e = .returned (.int .i64 (dSync D0 s).1) ∧ AfR W0 W S R g r N D D0.room (refL (dSync D0 s).2.files) w' :=
  (rsync_calls h.rf hi hN).mono fun e w' hw => ⟨hw.1, h.rstep hw.2⟩
theorem pr_remove {s : ByteArray} (h : Pr W0 W S R g r N D D0.room (refL D0.files)) (hi : DInv N0 D0) :
    Calls Try.prog 82 #[.pointer (some ⟨r, 0, none⟩), .string s] W fun e w' => e = .returned (.int .i64 (dRemove D0 s).1) ∧ AfR W0 W S R g r N D D0.room (refL (dRemove D0 s).2.files) w' :=
  (rremove_calls h.rf hi).mono fun e w' hw => ⟨hw.1, h.rstep hw.2⟩
theorem pr_rename {s u : ByteArray} (h : Pr W0 W S R g r N D D0.room (refL D0.files)) (hi : DInv N0 D0) (hN : N0 ≤ 1000000) (hu : u.size ≤ maxLen) :
    Calls Try.prog 81 #[.pointer (some ⟨r, 0, none⟩), .string s, .string u] W fun e w' => e = .returned (.int .i64 (dRename D0 s u).1) ∧ AfR W0 W S R g r N D D0.room (refL (dRename D0 s u).2.files) w' :=
  (rrename_calls h.rf hi hN hu).mono fun e w' hw => ⟨hw.1, h.rstep hw.2⟩
theorem pr_crash {A : Option Addr} {c : Nat} {keep : List Int} (h : Pr W0 W S R g r N D D0.room (refL D0.files)) (hi : DInv N0 D0) (hN : N0 ≤ 1000000) (hk : (Kd.int .i64).C W A keep.length keep) (hkb : ∀ z ∈ keep, z ≤ 9223372036854775807) :
    Calls Try.prog 42 #[.pointer (some ⟨r, 0, none⟩), .slice A keep.length c] W fun e w' => e = .returned (.tuple #[]) ∧ AfR W0 W S R g r N D D0.room (refL (dCrash D0 keep).files) w' :=
  (rcrash_calls h.rf hi hN hk hkb).mono fun e w' hw => ⟨hw.1, h.rstep hw.2⟩
theorem pr_write {s : ByteArray} {at_ : Int} {A : Option Addr} {c : Nat} {b : List Int} (h : Pr W0 W S R g r N D D0.room (refL D0.files)) (hi : DInv N0 D0) (hN : N0 ≤ 1000000) (hs : s.size ≤ maxLen) (hr : k8.C W A b.length b) (hc : b.length ≤ c)
    (ha : -9223372036854775808 ≤ at_ ∧ at_ ≤ 9223372036854775807) (hbl : b.length ≤ 4000) :
    Calls Try.prog 78 #[.pointer (some ⟨r, 0, none⟩), .string s, .int .i64 at_, .slice A b.length c] W fun e w' => e = .returned (.int .i64 (dWrite D0 s at_ b).1) ∧ AfR W0 W S R g r N D D0.room (refL (dWrite D0 s at_ b).2.files) w' :=
  (rwrite_calls h.rf hi hN hs hr hc (by omega) ha hbl).mono fun e w' hw => ⟨hw.1, h.rstep hw.2⟩
end
theorem room_write (D : Dsk) (s : ByteArray) (at_ : Int) (b : List Int) : (dWrite D s at_ b).2.room = D.room := by
  unfold dWrite dW2; split; rfl; split; rfl; split; rfl; split <;> rfl
theorem room_cut (D : Dsk) (s : ByteArray) (z : Int) : (dCut D s z).2.room = D.room := by unfold dCut; split; rfl; split <;> rfl
theorem room_sync (D : Dsk) (s : ByteArray) : (dSync D s).2.room = D.room := by unfold dSync; split <;> rfl
theorem room_remove (D : Dsk) (s : ByteArray) : (dRemove D s).2.room = D.room := by unfold dRemove; split <;> rfl
theorem room_rename (D : Dsk) (s t : ByteArray) : (dRename D s t).2.room = D.room := by unfold dRename; split; rfl; split; rfl; split <;> rfl
/-- A deed of law 05. -/
def dDo (D : Dsk) (x : S58) : Dsk :=
  if x.f0 = 0 then (dWrite D x.f1 x.f3 x.f4).2 else if x.f0 = 1 then (dCut D x.f1 x.f3).2 else if x.f0 = 2 then (dSync D x.f1).2 else if x.f0 = 3 then (dRename D x.f1 x.f2).2 else
    if x.f0 = 4 then (dRemove D x.f1).2 else if x.f0 = 5 then dCrash D x.f5 else D
theorem room_do (D : Dsk) (x : S58) : (dDo D x).room = D.room := by
  unfold dDo
  split; exact room_write _ _ _ _
  split; exact room_cut _ _ _
  split; exact room_sync _ _
  split; exact room_rename _ _ _
  split; exact room_remove _ _
  split <;> rfl
end Go.Proofs.Ytmmiipnmimjojaa.PS
end
section
namespace Go.Proofs.Ytmmiipnmimjojaa.OpenK
open Go.RowKit Go.Deep Go.ChangeShapes Go.WideShapes Go.Proofs.YtmmiipnmimjojaaW.PrintWords

/-- Whatever can be read at this type, and is no larger than the form lets in, is told by this kind. 'small': with the datum's bulk, what its lengths are at most. -/
structure Opens {α : Type} (P : Program) (t : TypeId) (d : Kd α) (good : α → Prop) (small : Nat → α → Prop) : Prop where
  mono : ∀ (B B' : Nat) (a : α), B ≤ B' → small B a → small B' a
  open_ : ∀ {H : Type} {enc : TypeId × Value → H} {w : World} {base : Nat} {spare : Nat → Bool} {held : Bool} {n : Nat} {cs : List Value} {x : DataW H × List MemPlace},
    DataW.trod enc P w base spare held n t cs = some x → (∀ m ∈ x.1.weights P t, m ≤ reachBytes) → ∃ a, d.K w a cs ∧ good a ∧ small (Rows.uptoBulk x.1) a

theorem one_le {H : Type} (d : DataW H) : 1 ≤ Rows.uptoBulk d := by
  cases d with
  | lit l => cases l <;> simp [Rows.uptoBulk]
  | nil => simp [Rows.uptoBulk]
  | ptr d => simp [Rows.uptoBulk]
  | slice elems spare => simp [Rows.uptoBulk]
  | agg parts => simp [Rows.uptoBulk]
  | iface t d => simp [Rows.uptoBulk]
  | map entries => simp [Rows.uptoBulk]
  | held h => simp [Rows.uptoBulk]
theorem part_le {H : Type} {d : DataW H} {l : List (DataW H)} (h : d ∈ l) : Rows.uptoBulk d ≤ Rows.uptoBulkAll l := by
  induction l with
  | nil => cases h
  | cons x r ih =>
    simp only [Rows.uptoBulkAll]
    rcases List.mem_cons.1 h with rfl | e
    · omega
    · have := ih e; omega
theorem length_le {H : Type} (l : List (DataW H)) : l.length ≤ Rows.uptoBulkAll l := by
  induction l with
  | nil => simp [Rows.uptoBulkAll]
  | cons x r ih => have := one_le x; simp only [Rows.uptoBulkAll, List.length_cons]; omega

theorem opens_int {P : Program} {t : TypeId} {k : IntKind} (ht : P.underlying t = some (.int k)) : Opens P t (Kd.int k) (fun n => (Lit.int k n).wf = true) (fun _ _ => True) where
  mono := fun _ _ _ _ h => h
  open_ := by
    intro H enc w base spare held n cs x h _
    obtain ⟨z, rfl, _, hw⟩ := DataW.trod_int ht h
    exact ⟨z, rfl, hw, trivial⟩
theorem opens_string {P : Program} {t : TypeId} (ht : P.underlying t = some .string) : Opens P t Kd.string (fun s => s.size ≤ reachBytes ∧ s.size ≤ maxLen) (fun B s => s.size ≤ B) where
  mono := fun _ _ _ h h' => Nat.le_trans h' h
  open_ := by
    intro H enc w base spare held n cs x h hs
    obtain ⟨z, rfl, rfl, hm⟩ := DataW.trod_string ht h
    have e : z.data.toList.length = z.size := by rw [Array.length_toList]; rfl
    refine ⟨z, rfl, ⟨?_, hm⟩, ?_⟩
    · have := hs z.data.toList.length (by simp [DataW.weights])
      simpa using this
    · simp only [Rows.uptoBulk]; omega
theorem weights_all {H : Type} {P : Program} {e : TypeId} : ∀ {l : List (DataW H)} {d : DataW H}, d ∈ l → ∀ m ∈ d.weights P e, m ∈ DataW.weightsAll P e l
  | [], _, h, _, _ => by cases h
  | d0 :: l, d, h, m, hm => by
    simp only [DataW.weightsAll, List.mem_append]
    rcases List.mem_cons.1 h with rfl | h
    · exact .inl hm
    · exact .inr (weights_all h m hm)
theorem opens_slice {α : Type} {P : Program} {t e : TypeId} {d : Kd α} {g : α → Prop} {s : Nat → α → Prop} {B : Nat} (ht : P.underlying t = some (.slice e)) (hE : Opens P e d g s) (hc : P.cellsOf e = d.sz) (hB : P.bytesOf e = B) :
    Opens P t (Kd.slice e d) (fun xs => xs.length * B ≤ reachBytes ∧ xs.length ≤ maxLen ∧ ∀ x ∈ xs, g x) (fun b xs => xs.length ≤ b ∧ ∀ x ∈ xs, s b x) := by
  refine ⟨fun b b' xs hb h => ⟨Nat.le_trans h.1 hb, fun x hx => hE.mono _ _ _ hb (h.2 x hx)⟩, ?_⟩
  intro H enc w base spare held n cs x h hs
  rcases open_slice ht h with ⟨rfl, rfl⟩ | ⟨a, len, cap, m, n', D, Pl, rfl, hb, hl, hm, hmm, rfl, hi⟩
  · exact ⟨[], ⟨none, 0, rfl, Nat.le_refl _, Kd.C_nil d w⟩, ⟨by simp, by simp, by simp⟩, by simp, by simp⟩
  · have hle : len ≤ m := by rw [hmm]; split <;> omega
    obtain ⟨bk, hbk⟩ : ∃ bk, bk = Rows.uptoBulk (DataW.slice ((List.range len).map D) ((List.range (m - len)).map fun j => D (len + j))) := ⟨_, rfl⟩
    have hblen : len ≤ bk := by
      have := length_le ((List.range len).map D)
      simp only [List.length_map, List.length_range] at this
      rw [hbk]; simp only [Rows.uptoBulk]; omega
    have hel : ∀ i, i < len → ∃ a', ∃ c, w.cells? base (a.add (i * P.cellsOf e)) (P.cellsOf e) = some c ∧ d.K w a' c ∧ g a' ∧ s bk a' := by
      intro i hil
      obtain ⟨c, h1, h2⟩ := hi i (by omega)
      obtain ⟨a', h3, h4, h5⟩ := hE.open_ h2 (fun q hq => hs q (by
        simp only [DataW.weights, ht, List.mem_cons, List.mem_append]
        exact .inr (.inl (weights_all (List.mem_map.2 ⟨i, by simpa using hil, rfl⟩) q hq))))
      refine ⟨a', c, h1, h3, h4, hE.mono _ _ _ ?_ h5⟩
      have := part_le (l := (List.range len).map D) (d := D i) (List.mem_map.2 ⟨i, by simpa using hil, rfl⟩)
      rw [hbk]; simp only [Rows.uptoBulk]; omega
    have hex : ∃ xs : List α, xs.length = len ∧ ∀ (i : Nat) (y : α), xs[i]? = some y → ∃ c, w.cells? base (a.add (i * P.cellsOf e)) (P.cellsOf e) = some c ∧ d.K w y c ∧ g y ∧ s bk y := by
      clear hs hi hmm hm hl hle h hbk hblen
      induction len with
      | zero => exact ⟨[], rfl, fun i y hy => by simp at hy⟩
      | succ k ih =>
        obtain ⟨xs, h1, h2⟩ := ih (fun i hik => hel i (by omega))
        obtain ⟨y, c, h3, h4, h5⟩ := hel k (by omega)
        refine ⟨xs ++ [y], by simp [h1], fun i z hz => ?_⟩
        rcases Nat.lt_or_ge i xs.length with hix | hix
        · rw [List.getElem?_append_left hix] at hz
          exact h2 i z hz
        · rw [List.getElem?_append_right hix] at hz
          have hik : i = k := by
            rcases Nat.lt_or_ge (i - xs.length) 1 with h6 | h6
            · omega
            · rw [List.getElem?_eq_none (by simpa using h6)] at hz; cases hz
          subst hik
          rw [h1, Nat.sub_self] at hz
          simp at hz
          subst hz
          exact ⟨c, h3, h4, h5⟩
    obtain ⟨xs, hxl, hx⟩ := hex
    have hw := hs ((((List.range len).map D).length + ((List.range (m - len)).map fun j => D (len + j)).length) * P.bytesOf e) (by simp [DataW.weights, ht])
    refine ⟨xs, ⟨some a, cap, by rw [hxl], by omega, rfl, by rw [hxl]; exact Nat.le_trans hl (Nat.le_trans hm (by decide)), fun _ => ⟨a, rfl, fun j y hy => ?_⟩⟩, ⟨?_, by omega, fun y hy => ?_⟩, by show xs.length ≤ _; rw [← hbk]; omega, fun y hy => ?_⟩
    · obtain ⟨c, h1, h2, _⟩ := hx j y hy
      obtain ⟨_, hcl, hat⟩ := World.cells?_some h1
      refine ⟨c, by rw [hcl, hc], h2, fun i u hu => ?_⟩
      have hic : i < P.cellsOf e := by rw [← hcl]; exact (List.getElem?_eq_some_iff.1 hu).1
      have := hat i hic
      rw [Go.Deep.add_add, hc] at this
      rw [this, hu]
    · rw [hB] at hw
      simp only [List.length_map, List.length_range] at hw
      exact Nat.le_trans (Nat.mul_le_mul_right B (by omega)) hw
    · obtain ⟨i, hi', rfl⟩ := List.mem_iff_getElem.1 hy
      obtain ⟨_, _, _, h3, _⟩ := hx i _ (List.getElem?_eq_getElem hi')
      exact h3
    · obtain ⟨i, hi', rfl⟩ := List.mem_iff_getElem.1 hy
      obtain ⟨_, _, _, _, h3⟩ := hx i _ (List.getElem?_eq_getElem hi')
      show s (Rows.uptoBulk (DataW.slice _ _)) _
      rw [← hbk]
      exact h3

/-- Fields, one behind the other. -/
inductive Fs (P : Program) : List Field → Nat → {α : Type} → Kd α → (α → Prop) → (Nat → α → Prop) → Prop
  | one {f : Field} {o : Nat} {α : Type} {d : Kd α} {g : α → Prop} {s : Nat → α → Prop} (ho : f.offset = o) (hc : P.cellsOf f.type = d.sz) (h : Opens P f.type d g s) : Fs P [f] o d g s
  | cons {f : Field} {fs : List Field} {o : Nat} {α β : Type} {d : Kd α} {g : α → Prop} {s : Nat → α → Prop} {d' : Kd β} {g' : β → Prop} {s' : Nat → β → Prop} (ho : f.offset = o) (hc : P.cellsOf f.type = d.sz) (h : Opens P f.type d g s)
      (hr : Fs P fs (o + d.sz) d' g' s') : Fs P (f :: fs) o (Kd.pair d d') (fun x => g x.1 ∧ g' x.2) (fun b x => s b x.1 ∧ s' b x.2)
theorem fs_mono {P : Program} {fs : List Field} {o : Nat} {α : Type} {d : Kd α} {g : α → Prop} {s : Nat → α → Prop} (hF : Fs P fs o d g s) : ∀ (B B' : Nat) (a : α), B ≤ B' → s B a → s B' a := by
  induction hF with
  | one ho hc h => exact h.mono
  | cons ho hc h hr ih => exact fun B B' a hb hs => ⟨h.mono _ _ _ hb hs.1, ih _ _ _ hb hs.2⟩
theorem fs_open {P : Program} {fs : List Field} {o : Nat} {α : Type} {d : Kd α} {g : α → Prop} {s : Nat → α → Prop} (hF : Fs P fs o d g s) : ∀ {H : Type} {enc : TypeId × Value → H} {w : World} {base : Nat} {spare : Nat → Bool} {held : Bool} {n : Nat} {cs : List Value} {xs : List (DataW H × List MemPlace)},
    xs.length = fs.length → cs.length = o + d.sz → (∀ (i : Nat) (f : Field), fs[i]? = some f → DataW.trod enc P w base spare held n f.type ((cs.drop f.offset).take (P.cellsOf f.type)) = xs[i]?) →
    (∀ m ∈ DataW.weightsEach P (fs.map (·.type)) (xs.map (·.1)), m ≤ reachBytes) → ∃ a, d.K w a (cs.drop o) ∧ g a ∧ s (Rows.uptoBulkAll (xs.map (·.1))) a := by
  induction hF with
  | one ho hc h =>
    intro H enc w base spare held n cs xs hl hcl ht hs
    match xs, hl with
    | [x], _ =>
      have h1 := ht 0 _ rfl
      rw [ho, hc, List.take_of_length_le (by rw [List.length_drop]; omega)] at h1
      obtain ⟨a, h2, h3, h4⟩ := h.open_ h1 (fun m hm => hs m (by simp only [List.map_cons, List.map_nil, DataW.weightsEach, List.append_nil]; exact hm))
      exact ⟨a, h2, h3, h.mono _ _ _ (by simp only [List.map_cons, List.map_nil, Rows.uptoBulkAll]; omega) h4⟩
  | @cons f fs o α β d g s d' g' s' ho hc h hr ih =>
    intro H enc w base spare held n cs xs hl hcl ht hs
    match xs, hl with
    | x :: xs, hl =>
      have h1 := ht 0 _ rfl
      rw [ho, hc] at h1
      obtain ⟨a, ha, hg, hsm⟩ := h.open_ h1 (fun m hm => hs m (by simp only [List.map_cons, DataW.weightsEach, List.mem_append]; exact .inl hm))
      have hsz : (Kd.pair d d').sz = d.sz + d'.sz := rfl
      obtain ⟨b, hb, hgb, hsb⟩ := ih (cs := cs) (xs := xs) (by simpa using hl) (by rw [hcl, hsz]; omega) (fun i f' hf => ht (i + 1) f' hf) (fun m hm => hs m (by simp only [List.map_cons, DataW.weightsEach, List.mem_append]; exact .inr hm))
      refine ⟨(a, b), ⟨_, _, ?_, ha, hb⟩, ⟨hg, hgb⟩, h.mono _ _ _ ?_ hsm, fs_mono hr _ _ _ ?_ hsb⟩
      · rw [← List.drop_drop, List.take_append_drop]
      · simp only [List.map_cons, Rows.uptoBulkAll]; omega
      · simp only [List.map_cons, Rows.uptoBulkAll]; omega
theorem opens_struct {P : Program} {t : TypeId} {fs : Array Field} {α β : Type} {d : Kd α} {g : α → Prop} {s : Nat → α → Prop} (f : β → α) (fi : α → β) (hf : ∀ x, f (fi x) = x) (ht : P.underlying t = some (.struct fs)) (hc : P.cellsOf t = d.sz) (hF : Fs P fs.toList 0 d g s) :
    Opens P t (Kd.iso d f) (fun x => g (f x)) (fun b x => s b (f x)) := by
  refine ⟨fun B B' a hb h => fs_mono hF _ _ _ hb h, ?_⟩
  intro H enc w base spare held n cs x h hs
  obtain ⟨xs, n', rfl, rfl, hcl, hxl, hfs⟩ := DataW.trod_struct ht h
  obtain ⟨a, ha, hg, hsm⟩ := fs_open hF (cs := cs) (xs := xs) (by simpa using hxl) (by rw [hcl, hc]; omega) (fun i fd hfd => hfs i fd (by simpa using hfd)) (fun m hm => hs m (by simpa [DataW.weights, ht] using hm))
  refine ⟨fi a, ?_, by show g (f (fi a)); rw [hf]; exact hg, ?_⟩
  · show d.K w (f (fi a)) cs
    rw [hf]
    simpa using ha
  · show s _ (f (fi a))
    rw [hf]
    exact fs_mono hF _ _ _ (by simp only [Rows.uptoBulk]; omega) hsm
/-- An argument: its datum's own weights are among the form's. -/
theorem arg_sized {H : Type} {P : Program} {ts : List TypeId} {ds : List (DataW H)} {j : Nat} {t : TypeId} {d : DataW H} (hsz : (DataW.weightsEach P ts ds).all (· ≤ reachBytes) = true) (ht : ts[j]? = some t) (hd : ds[j]? = some d) :
    ∀ m ∈ d.weights P t, m ≤ reachBytes := fun m hm => by
  have := List.all_eq_true.1 hsz m (DataW.weights_mem_each ht hd m hm)
  simpa using this
end Go.Proofs.Ytmmiipnmimjojaa.OpenK
end
section
namespace Go.Proofs.Ytmmiipnmimjojaa.PS
open Go.RowKit Go.Proofs.YtmmiipnmimjojaaW.PrintWords Go.Proofs.Ytmmiipnmimjojaa.OpenK
set_option linter.unusedVariables false

def Good58 (x : S58) : Prop := (Lit.int .i64 x.f0).wf = true ∧ (x.f1.size ≤ reachBytes ∧ x.f1.size ≤ maxLen) ∧ (x.f2.size ≤ reachBytes ∧ x.f2.size ≤ maxLen) ∧ (Lit.int .i64 x.f3).wf = true ∧ (x.f4.length * 1 ≤ reachBytes ∧ x.f4.length ≤ maxLen ∧ ∀ y ∈ x.f4, (Lit.int .u8 y).wf = true) ∧ (x.f5.length * 8 ≤ reachBytes ∧ x.f5.length ≤ maxLen ∧ ∀ y ∈ x.f5, (Lit.int .i64 y).wf = true)
def Small58 (B : Nat) (x : S58) : Prop := True ∧ x.f1.size ≤ B ∧ x.f2.size ≤ B ∧ True ∧ (x.f4.length ≤ B ∧ ∀ y ∈ x.f4, True) ∧ (x.f5.length ≤ B ∧ ∀ y ∈ x.f5, True)
theorem opens58 : Opens Try.prog 58 k58 Good58 Small58 :=
  opens_struct (fun x : S58 => (x.f0, x.f1, x.f2, x.f3, x.f4, x.f5)) (fun y => ⟨y.1, y.2.1, y.2.2.1, y.2.2.2.1, y.2.2.2.2.1, y.2.2.2.2.2⟩) (fun _ => rfl) Try.underlying58 (by kernel_rfl) (.cons rfl (by kernel_rfl) (opens_int Try.underlying3) (.cons rfl (by kernel_rfl) (opens_string Try.underlying9) (.cons rfl (by kernel_rfl) (opens_string Try.underlying9) (.cons rfl (by kernel_rfl) (opens_int Try.underlying3) (.cons rfl (by kernel_rfl) (opens_slice (B := 1) Try.underlying22 (opens_int Try.underlying5) (by kernel_rfl) (by kernel_rfl)) (.one rfl (by kernel_rfl) (opens_slice (B := 8) Try.underlying32 (opens_int Try.underlying3) (by kernel_rfl) (by kernel_rfl))))))))
end Go.Proofs.Ytmmiipnmimjojaa.PS
end
section
namespace Go.Proofs.Ytmmiipnmimjojaa.PS
open Go.RowKit Go.Proofs.YtmmiipnmimjojaaW.PrintWords Go.Proofs.Ytmmiipnmimjojaa.OpenK
set_option linter.unusedVariables false
theorem i64_of {y : Int} (h : (Lit.int .i64 y).wf = true) : -9223372036854775808 ≤ y ∧ y ≤ 9223372036854775807 := by
  simp [Lit.wf, IntKind.min, IntKind.max, IntKind.signed, IntKind.bits] at h
  omega
theorem u8_of {y : Int} (h : (Lit.int .u8 y).wf = true) : 0 ≤ y ∧ y ≤ 255 := by
  simp [Lit.wf, IntKind.min, IntKind.max, IntKind.signed, IntKind.bits] at h
  omega
/-- A row of numbers. -/
def Nums (l : List Int) : Prop := l.length * 8 ≤ 140737488351232 ∧ ∀ y ∈ l, -9223372036854775808 ≤ y ∧ y ≤ 9223372036854775807
/-- A row of bytes. -/
def Byts (l : List Int) : Prop := l.length ≤ 140737488351232 ∧ ∀ y ∈ l, 0 ≤ y ∧ y ≤ 255
/-- A deed of a script. -/
structure Deed5 (x : S58) : Prop where
  kind : -9223372036854775808 ≤ x.f0 ∧ x.f0 ≤ 9223372036854775807
  name : x.f1.size ≤ maxLen
  to_ : x.f2.size ≤ maxLen
  at_ : -9223372036854775808 ≤ x.f3 ∧ x.f3 ≤ 9223372036854775807
  bytes : Byts x.f4
  keep : Nums x.f5
def Script (l : List S58) : Prop := l.length * 96 ≤ 140737488351232 ∧ ∀ x ∈ l, Deed5 x
theorem nums_of {l : List Int} (h : l.length * 8 ≤ reachBytes ∧ l.length ≤ maxLen ∧ ∀ y ∈ l, (Lit.int .i64 y).wf = true) : Nums l := ⟨h.1, fun y hy => i64_of (h.2.2 y hy)⟩
theorem byts_of {l : List Int} (h : l.length * 1 ≤ reachBytes ∧ l.length ≤ maxLen ∧ ∀ y ∈ l, (Lit.int .u8 y).wf = true) : Byts l := ⟨by have h1 : l.length * 1 ≤ 140737488351232 := h.1; omega, fun y hy => u8_of (h.2.2 y hy)⟩
theorem deed_of {x : S58} (h : Good58 x) : Deed5 x := ⟨i64_of h.1, h.2.1.2, h.2.2.1.2, i64_of h.2.2.2.1, byts_of h.2.2.2.2.1, nums_of h.2.2.2.2.2⟩
theorem script_of {l : List S58} (h : l.length * 96 ≤ reachBytes ∧ l.length ≤ maxLen ∧ ∀ y ∈ l, Good58 y) : Script l := ⟨h.1, fun x hx => deed_of (h.2.2 x hx)⟩
end Go.Proofs.Ytmmiipnmimjojaa.PS
end
