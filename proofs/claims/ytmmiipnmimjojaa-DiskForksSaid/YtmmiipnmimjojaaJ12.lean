/- The texts of this claim's seat, joined: part 12. -/
import Derived.Test.YtmmiipnmimjojaaJ11
section
namespace Go.Proofs.Ytmmiipnmimjojaa.PS
open Go.RowKit Go.Proofs.YtmmiipnmimjojaaW.PrintWords Go.Proofs.YtmmiipnmimjojaaW.PrintLast Go.Proofs.YtmmiipnmimjojaaW.PrintMore
attribute [local go_sem] max2_int min2_int max_two min_two max_three min_three max_four min_four   -- for this text's walks alone
set_option linter.unusedVariables false
set_option linter.unusedSimpArgs false

def tollgateref05_now.f (k : Nat) (a0_0 : ByteArray) (a0_1 : Bool) (l0_2 : List Int) (l0_3 : List (S166)) : Option (List Int) := (tollgateref05_made.f k a0_0 a0_1 l0_2 l0_3 (l0_3.length : Int)).bind fun t118 => (some t118)
theorem tollgateref05_now.mono : ∀ a0 a1 a2 a3 k, LeO (tollgateref05_now.f k a0 a1 a2 a3) (tollgateref05_now.f (k + 1) a0 a1 a2 a3) := by
  intro a0 a1 a2 a3 k
  unfold tollgateref05_now.f
  repeat' first
      | (with_reducible exact tollgateref05_made.mono _ _ _ _ _ _)
      | (with_reducible exact LeO.refl _)
      | (with_reducible exact LeO.none _)
      | (with_reducible refine LeO.ite ?_ ?_)
      | (with_reducible refine LeO.bind ?_ (fun _ => ?_))
      | exact tollgateref05_made.mono _ _ _ _ _ _
      | exact LeO.none _
      | refine LeO.ite ?_ ?_
      | refine LeO.bind ?_ (fun _ => ?_)
set_option maxHeartbeats 8000000 in
set_option maxRecDepth 100000 in
theorem tollgateref05_now.calls (k : Nat) (a0_0 : ByteArray) (a0_1 : Bool) (A0_2 : Option Addr) (c0_2 : Nat) (l0_2 : List Int) (A0_3 : Option Addr) (c0_3 : Nat) (l0_3 : List (S166)) (r : List Int) (w : World) (hr0_2 : Kd.C (Kd.int .u8) w A0_2 l0_2.length l0_2) (hc0_2 : l0_2.length ≤ c0_2) (hr0_3 : Kd.C k166 w A0_3 l0_3.length l0_3) (hc0_3 : l0_3.length ≤ c0_3) (h : tollgateref05_now.f k a0_0 a0_1 l0_2 l0_3 = some r) :
    Calls Try.prog 87 #[.agg #[.string a0_0, .bool a0_1, .slice A0_2 l0_2.length c0_2, .slice A0_3 l0_3.length c0_3]] w fun e w' => ∃ v0_ : Value, e = .returned (v0_) ∧ Kd.R (Kd.int .u8) 5 w' w.heap.size (fun _ => True) v0_ r ∧ Below w.heap.size w w' := by
  have hu144 := Try.underlying144
  have HR0_2 := Aside0.mk hr0_2
  have HC0_2 := Aside0.mk hc0_2
  clear hr0_2 hc0_2
  have HR0_3 := Aside0.mk hr0_3
  have HC0_3 := Aside0.mk hc0_3
  clear hr0_3 hc0_3
  have HB := Aside0.mk (Below.refl w.heap.size w)
  have H : ((tollgateref05_made.f k a0_0 a0_1 l0_2 l0_3 (l0_3.length : Int)).bind fun t118 => (some t118)) = some r := h
  clear h
  replace H := Option.bind_eq_some_iff.mp H
  obtain ⟨t118, A20, H⟩ := H
  replace H : (some t118) = some r := H
  have A2 := Aside0.mk A20
  clear A20
  obtain rfl := Option.some.inj H
  go_enter Try.func87, Try.ntmps87
  go_wp2_with (first | ((with_reducible refine gate_dst (N := 1) rfl ?_); refine box_event ?hg (N := 1) ?hd (cs := #[.string a0_0, .bool a0_1, .slice A0_2 l0_2.length c0_2, .slice A0_3 l0_3.length c0_3]) (t := 144) ?hr ?_; (case hd => rfl); (case hg => rfl); (case hr => first | (go_simp; done) | (go_simp; rfl)); intro gb117 hg w3 hbox hb; have n0_ := Aside0.mk (below_step (by repeat (first | (with_reducible first | exact HB.out | apply below_alloc | apply pw_below_drewN | apply below_drew1) | exact HB.out)) hb); have n1_ := Aside0.mk (hbox); have n2_ := Aside0.mk ((by rw [hg]; exact (below_size (by repeat (first | (with_reducible first | exact HB.out | apply below_alloc | apply pw_below_drewN | apply below_drew1) | exact HB.out))) : w.heap.size ≤ gb117)); have n3_ := Aside0.mk ((by rw [hg]; exact (below_size (by repeat (first | (with_reducible first | exact HB.out | apply below_alloc | apply pw_below_drewN | apply below_drew1) | exact HB.out))) : w.heap.size ≤ gb117)); clear HB; have HB := n0_; have BK117 := n1_; have GW117 := n2_; have GE117 := n3_; clear n0_ n1_ n2_ n3_; clear hb hbox hg; have hcz4_0 : w3.cell? ⟨gb117, 0, none⟩ = some (.string a0_0) := (blk_cell BK117.out 0).trans rfl; have hcz4_1 : w3.cell? ⟨gb117, 1, none⟩ = some (.bool a0_1) := (blk_cell BK117.out 1).trans rfl; have hcz4_2 : w3.cell? ⟨gb117, 2, none⟩ = some (.slice A0_2 l0_2.length c0_2) := (blk_cell BK117.out 2).trans rfl; have hcz4_3 : w3.cell? ⟨gb117, 3, none⟩ = some (.slice A0_3 l0_3.length c0_3) := (blk_cell BK117.out 3).trans rfl; have hfz4_0 := blk_frozen BK117.out 0; have hfz4_1 := blk_frozen BK117.out 1; have hfz4_2 := blk_frozen BK117.out 2; have hfz4_3 := blk_frozen BK117.out 3) | ((with_reducible refine gate_callee (f := 89) rfl ?_); refine goesL_ (some 7) rfl rfl Try.func89 (by kernel_rfl) rfl #[.agg #[.string a0_0, .bool a0_1, .slice A0_2 l0_2.length c0_2, .slice A0_3 l0_3.length c0_3], .int .i64 (l0_3.length : Int)] rfl (by (try simp only [List.map_toArray, List.map_cons, List.map_nil]); first | done | rfl | (simp only [List.length_drop, List.length_take]; rfl)) ?_; (with_reducible refine (tollgateref05_made.calls k a0_0 a0_1 _ _ l0_2 _ _ l0_3 (l0_3.length : Int) t118 _ ?side1 ?side2 ?side3 ?side4 A2.out).mono ?_); (case side1 => repeat (first | exact (Kd.C_below HR0_2.out HB.out) | (with_reducible refine Kd.C_alloc ?_ _) | (with_reducible refine Kd.C_drewN ?_ _) | (with_reducible refine Kd.C_drew ?_))); (case side2 => exact HC0_2.out); (case side3 => repeat (first | exact (Kd.C_below HR0_3.out HB.out) | (with_reducible refine Kd.C_alloc ?_ _) | (with_reducible refine Kd.C_drewN ?_ _) | (with_reducible refine Kd.C_drew ?_))); (case side4 => exact HC0_3.out); rintro e w5 ⟨v119, rfl, ho0, hb⟩; refine ⟨_, rfl, ?_⟩; have n0_ := Aside0.mk (Kd.R_lower ho0 (below_size (by repeat (first | (with_reducible first | exact HB.out | apply below_alloc | apply pw_below_drewN | apply below_drew1 | refine below_set ?_ GE117.out) | exact HB.out)))); have n1_ := Aside0.mk (blk_below (g := gb117) (o := .cells #[.string a0_0, .bool a0_1, .slice A0_2 l0_2.length c0_2, .slice A0_3 l0_3.length c0_3] 144 (0, 0)) (by (with_reducible repeat (first | refine blk_drewN ?_ _ | refine blk_drew ?_ | refine blk_alloc ?_ _)); exact BK117.out) hb); have n2_ := Aside0.mk (below_step (by repeat (first | (with_reducible first | exact HB.out | apply below_alloc | apply pw_below_drewN | apply below_drew1 | refine below_set ?_ GE117.out) | exact HB.out)) hb); clear BK117; clear HB; have HO120 := n0_; have BK117 := n1_; have HB := n2_; clear n0_ n1_ n2_; (try clear hb); (try clear hb2); (try clear hk); (try clear hi); (try clear ho0)))
  go_ret
  exact ⟨_, by first | rfl | (simp [errW_none, errW_some] <;> rfl) | (simp [*, errW_none, errW_some] <;> rfl), by (with_reducible repeat (first | apply Kd.R_alloc | apply Kd.R_drewN | apply Kd.R_drew)); exact HO120.out, by repeat (first | (with_reducible first | exact HB.out | apply below_alloc | apply pw_below_drewN | apply below_drew1 | refine below_set ?_ GE117.out) | exact HB.out)⟩

end Go.Proofs.Ytmmiipnmimjojaa.PS
end
section
namespace Go.Proofs.Ytmmiipnmimjojaa.PS
open Go.RowKit Go.Proofs.YtmmiipnmimjojaaW.PrintWords Go.Proofs.YtmmiipnmimjojaaW.PrintLast Go.Proofs.YtmmiipnmimjojaaW.PrintMore
attribute [local go_sem] max2_int min2_int max_two min_two max_three min_three max_four min_four   -- for this text's walks alone
set_option linter.unusedVariables false
set_option linter.unusedSimpArgs false

def tollgateref05_without.l0 : Nat → List (S144) → ByteArray → List (S144) → Int → Option ((List (S144)))
  | 0, _, _, _, _ => none
  | k + 1, x0, x1, x5, x6 => if x6 < (x0.length : Int) then (if 0 ≤ x6 then (if ((rd_T144 x0 x6).f0).toList = x1.toList then (tollgateref05_without.l0 k x0 x1 x5 (wrap64 (x6 + 1))) else (if x5.length < 1954687338268 then (tollgateref05_without.l0 k x0 x1 (x5 ++ [(⟨(rd_T144 x0 x6).f0, (rd_T144 x0 x6).f1, (rd_T144 x0 x6).f2, (rd_T144 x0 x6).f3⟩ : S144)]) (wrap64 (x6 + 1))) else (none))) else (none)) else (some x5)
def tollgateref05_without.f (k : Nat) (l0 : List (S144)) (a1 : ByteArray) : Option ((List (S144))) := tollgateref05_without.l0 k l0 a1 (([] : List (S144))) 0
theorem tollgateref05_without.mono_l : ∀ k, (∀ y0 y1 y2 y3, LeO (tollgateref05_without.l0 k y0 y1 y2 y3) (tollgateref05_without.l0 (k + 1) y0 y1 y2 y3))
  | 0 => fun _ _ _ _ r h => by simp [tollgateref05_without.l0] at h
  | k + 1 => by
    have ih0 := tollgateref05_without.mono_l k
    · intro y0 y1 y2 y3
      unfold tollgateref05_without.l0
      repeat' first
      | (with_reducible exact ih0 _ _ _ _)
      | (with_reducible exact LeO.refl _)
      | (with_reducible exact LeO.none _)
      | (with_reducible refine LeO.ite ?_ ?_)
      | (with_reducible refine LeO.bind ?_ (fun _ => ?_))
      | exact ih0 _ _ _ _
      | exact LeO.none _
      | refine LeO.ite ?_ ?_
      | refine LeO.bind ?_ (fun _ => ?_)
theorem tollgateref05_without.mono : ∀ a0 a1 k, LeO (tollgateref05_without.f k a0 a1) (tollgateref05_without.f (k + 1) a0 a1) := by
  intro a0 a1 k
  have ih0 := tollgateref05_without.mono_l k
  unfold tollgateref05_without.f
  repeat' first
      | (with_reducible exact ih0 _ _ _ _)
      | (with_reducible exact LeO.refl _)
      | (with_reducible exact LeO.none _)
      | (with_reducible refine LeO.ite ?_ ?_)
      | (with_reducible refine LeO.bind ?_ (fun _ => ?_))
      | exact ih0 _ _ _ _
      | exact LeO.none _
      | refine LeO.ite ?_ ?_
      | refine LeO.bind ?_ (fun _ => ?_)
set_option maxHeartbeats 8000000 in
set_option maxRecDepth 100000 in
theorem tollgateref05_without.calls (k : Nat) (P0_ : Nat → Prop) (A0 : Option Addr) (c0 : Nat) (l0 : List (S144)) (a1 : ByteArray) (r : List (S144)) (w : World) (hs0 : Kd.V k144 144 w w.heap.size (fun k_ => P0_ k_) (.slice A0 l0.length c0) l0) (h : tollgateref05_without.f k l0 a1 = some r) :
    Calls Try.prog 107 #[.slice A0 l0.length c0, .string a1] w fun e w' => ∃ v0_ : Value, e = .returned (v0_) ∧ Kd.N k144 144 w' w.heap.size (fun k_ => (P0_ k_ ∨ w.heap.size ≤ k_)) v0_ r ∧ Below w.heap.size w w' := by
  have hu144 := Try.underlying144
  have HO0 := Aside0.mk (show Kd.V k144 144 w w.heap.size (fun k_ => (P0_ k_ ∨ w.heap.size ≤ k_)) (.slice A0 l0.length c0) l0 from Kd.V_mono hs0 (fun k_ hk => .inl hk))
  have HB := Aside0.mk (Below.refl w.heap.size w)
  have H : (tollgateref05_without.l0 k l0 a1 (([] : List (S144))) 0) = some r := h
  clear h
  obtain ⟨y142, hy142⟩ : ∃ y_ : List (S144), y_ = (([] : List (S144))) := ⟨_, rfl⟩
  replace H : (tollgateref05_without.l0 k l0 a1 y142 0) = some r := by first | (rw [hy142]; with_reducible exact H) | (have H2_ := (Option.bind_some _ _).symm.trans H; rw [hy142]; with_reducible exact H2_) | (have H2_ := (Option.bind_some _ _).symm.trans H; with_reducible exact H2_) | with_reducible exact H | (rw [hy142]; exact H) | exact H
  have Ny142 := Aside0.mk hy142
  clear hy142
  have H' := Aside0.mk H
  clear H
  go_enter Try.func107, Try.ntmps107
  go_wp2_with (first | ((with_reducible refine gate_dst (N := 7) rfl ?_); refine Kd.N_lit k144 _ 144 ?hg (N' := 7) ?hd (xs := ([] : List (S144))) (inner := []) (ok := (fun k_ => (P0_ k_ ∨ w.heap.size ≤ k_))) (okp := (fun k_ => (P0_ k_ ∨ w.heap.size ≤ k_))) ?hr ?hp (fun _ hk => hk) ((show ∀ k_, w.heap.size ≤ k_ → (fun k_ => (P0_ k_ ∨ w.heap.size ≤ k_)) k_ from fun k_ hk => (.inr (Nat.le_trans (below_size (by repeat (first | (with_reducible first | exact HB.out | apply below_alloc | apply pw_below_drewN | apply below_drew1) | exact HB.out))) hk))) _ (Nat.le_refl _)) (Below.refl _ _) (Nat.le_refl _) (by simp) ?_; (case hd => rfl); (case hg => rfl); (case hr => first | (go_simp; done) | (go_simp; rfl)); (case hp => exact (Reps.none _ _)); intro v143 w3 ho4 hb hg_ hnew_; clear hg_ hnew_; (first | rw [← Ny142.out] at ho4 | (simp only [Int.reduceToNat] at ho4; rw [← Ny142.out] at ho4)); have n0_ := Aside0.mk (Kd.V_elder' (by (with_reducible repeat (first | apply Kd.V_alloc | apply Kd.V_drewN | apply Kd.V_drew)); exact HO0.out) (Kd.N_base ho4) hb); have n1_ := Aside0.mk (Kd.N_lower ho4 (below_size (by repeat (first | (with_reducible first | exact HB.out | apply below_alloc | apply pw_below_drewN | apply below_drew1) | exact HB.out)))); have n2_ := Aside0.mk (below_step (by repeat (first | (with_reducible first | exact HB.out | apply below_alloc | apply pw_below_drewN | apply below_drew1) | exact HB.out)) hb); clear HO0; clear HB; have HO0 := n0_; have HO144 := n1_; have HB := n2_; clear n0_ n1_ n2_; clear hb ho4))
  go_loopg [5, 6] k (fun kq v5 v6 w' => ∃ (x5_1 : List (S144)) (x6_1 : Int), v6 = .int .i64 x6_1 ∧ Aside0 (tollgateref05_without.l0 kq l0 a1 x5_1 x6_1 = some r) ∧ Aside0 (kq ≤ k) ∧ Aside0 (Kd.V k144 144 w' w.heap.size (fun k_ => (P0_ k_ ∨ w.heap.size ≤ k_) ∧ some k_ ≠ (v5 : Value).ownBlock) (.slice A0 l0.length c0) l0) ∧ Aside0 (Kd.N k144 144 w' w.heap.size (fun k_ => (P0_ k_ ∨ w.heap.size ≤ k_)) v5 x5_1) ∧ Aside0 (Below w.heap.size w w'))
  case atStart => exact ⟨(y142), (0), (by first | rfl | (simp; done) | (simp [*]; done)), H', ⟨Nat.le_refl _⟩, ⟨by (with_reducible repeat (first | apply Kd.V_alloc | apply Kd.V_drewN | apply Kd.V_drew)); exact HO0.out⟩, ⟨by (with_reducible repeat (first | apply Kd.N_alloc | apply Kd.N_drewN | apply Kd.N_drew)); exact HO144.out⟩, ⟨by repeat (first | (with_reducible first | exact HB.out | apply below_alloc | apply pw_below_drewN | apply below_drew1) | exact HB.out)⟩⟩
  case round =>
    clear H'
    try clear c1
    try clear p2
    obtain ⟨x5_1, x6_1, rfl, HA, HK1, HO_0, HO_5, HB⟩ := hrel
    cases gk with
    | zero => exact absurd HA.out (by simp [tollgateref05_without.l0])
    | succ k1 =>
      have H := HA.out
      clear HA
      simp only [tollgateref05_without.l0] at H
      by_cases c5 : x6_1 < (l0.length : Int)
      · rw [if_pos c5] at H
        have c5b0 : decide (x6_1 < (l0.length : Int)) = true := decide_eq_true c5
        clear c5
        by_cases c6 : 0 ≤ x6_1
        · rw [if_pos c6] at H
          have c6b0 : decide (0 ≤ x6_1) = true := decide_eq_true c6
          clear c6
          by_cases c7 : ((rd_T144 l0 x6_1).f0).toList = a1.toList
          · rw [if_pos c7] at H
            have c7b0 : (((rd_T144 l0 x6_1).f0).toList == a1.toList) = true := beq_iff_eq.mpr c7
            have c7b1 : (((rd_T144 l0 x6_1).f0).toList != a1.toList) = false := bne_eq_false_iff_eq.mpr c7
            clear c7
            have H' := Aside0.mk H
            clear H
            have p145 : 0 ≤ (x6_1 : Int) := of_decide_eq_true (by first | (with_reducible assumption) | assumption)
            have q145 : x6_1 < (l0.length : Int) := of_decide_eq_true (by first | (with_reducible assumption) | assumption)
            obtain ⟨ad145, A145_2, c145_2, A145_3, c145_3, e145, hx145_0, hx145_1, hx145_2, hx145_3, hl145_2, hi145_2, hl145_3, hi145_3⟩ := at_T144 (Kd.V_reads' HO_0.out).2.2 x6_1 p145 q145
            cases e145
            obtain ⟨ce145, hce145, hMe145, hcc145⟩ := Kd.V_get HO_0.out z144 x6_1 p145 (by first | exact q145 | exact of_decide_eq_true (by first | (with_reducible assumption) | assumption) | (have e_ := (Kd.V_reads' HO_0.out).1; omega))
            obtain ⟨ua145_2, uc145_2, ua145_3, uc145_3, rfl, ul145_2, ge145_2, ul145_3, ge145_3⟩ := k144_openF hMe145
            have hv145_2 := hcc145 2 _ rfl
            rw [add_field _ _ 2 (by omega)] at hv145_2
            replace hv145_2 := Option.some.inj (hv145_2.symm.trans hx145_2)
            injection hv145_2 with hva_ hvn_ hvc_
            rw [hva_] at ge145_2
            rw [hvc_] at ul145_2
            have HL145_2 := Aside0.mk (show Kd.V (Kd.int .u8) 5 _ w.heap.size _ _ ((rd_T144 l0 x6_1).f2) from Kd.V_mk ul145_2 ge145_2)
            clear hva_ hvn_ hvc_ ge145_2 ul145_2
            have hv145_3 := hcc145 3 _ rfl
            rw [add_field _ _ 3 (by omega)] at hv145_3
            replace hv145_3 := Option.some.inj (hv145_3.symm.trans hx145_3)
            injection hv145_3 with hva_ hvn_ hvc_
            rw [hva_] at ge145_3
            rw [hvc_] at ul145_3
            have HL145_3 := Aside0.mk (show Kd.V k166 166 _ w.heap.size _ _ ((rd_T144 l0 x6_1).f3) from Kd.V_mk ul145_3 ge145_3)
            clear hva_ hvn_ hvc_ ge145_3 ul145_3
            clear hcc145 hce145
            have HR145_2 := Aside0.mk hi145_2
            have HC145_2 := Aside0.mk hl145_2
            clear hi145_2 hl145_2
            have HR145_3 := Aside0.mk hi145_3
            have HC145_3 := Aside0.mk hl145_3
            clear hi145_3 hl145_3
            replace p145 := eq_true p145
            replace q145 := eq_true q145
            go_wp2
            go_roundg k1
            case measure => have := HK1.out; omega
            case rel => exact ⟨(x5_1), (wrap64 (x6_1 + 1)), (by first | rfl | (simp; done) | (simp [*]; done)), H', ⟨by have := HK1.out; omega⟩, ⟨by (with_reducible repeat (first | apply Kd.V_alloc | apply Kd.V_drewN | apply Kd.V_drew)); exact HO_0.out⟩, ⟨by (with_reducible repeat (first | apply Kd.N_alloc | apply Kd.N_drewN | apply Kd.N_drew)); exact HO_5.out⟩, ⟨by repeat (first | (with_reducible first | exact HB.out | apply below_alloc | apply pw_below_drewN | apply below_drew1) | exact HB.out)⟩⟩
          · rw [if_neg c7] at H
            have c7b0 : (((rd_T144 l0 x6_1).f0).toList == a1.toList) = false := beq_eq_false_iff_ne.mpr c7
            have c7b1 : (((rd_T144 l0 x6_1).f0).toList != a1.toList) = true := bne_iff_ne.mpr c7
            by_cases c8 : x5_1.length < 1954687338268
            · rw [if_pos c8] at H
              have LMc8 := Aside0.mk c8
              clear c8
              obtain ⟨y147, hy147⟩ : ∃ y_ : List (S144), y_ = (x5_1 ++ [(⟨(rd_T144 l0 x6_1).f0, (rd_T144 l0 x6_1).f1, (rd_T144 l0 x6_1).f2, (rd_T144 l0 x6_1).f3⟩ : S144)]) := ⟨_, rfl⟩
              replace H : (tollgateref05_without.l0 k1 l0 a1 y147 (wrap64 (x6_1 + 1))) = some r := by first | (rw [hy147]; with_reducible exact H) | (have H2_ := (Option.bind_some _ _).symm.trans H; rw [hy147]; with_reducible exact H2_) | (have H2_ := (Option.bind_some _ _).symm.trans H; with_reducible exact H2_) | with_reducible exact H | (rw [hy147]; exact H) | exact H
              have Ny147 := Aside0.mk hy147
              clear hy147
              have H' := Aside0.mk H
              clear H
              have p145 : 0 ≤ (x6_1 : Int) := of_decide_eq_true (by first | (with_reducible assumption) | assumption)
              have q145 : x6_1 < (l0.length : Int) := of_decide_eq_true (by first | (with_reducible assumption) | assumption)
              obtain ⟨ad145, A145_2, c145_2, A145_3, c145_3, e145, hx145_0, hx145_1, hx145_2, hx145_3, hl145_2, hi145_2, hl145_3, hi145_3⟩ := at_T144 (Kd.V_reads' HO_0.out).2.2 x6_1 p145 q145
              cases e145
              obtain ⟨ce145, hce145, hMe145, hcc145⟩ := Kd.V_get HO_0.out z144 x6_1 p145 (by first | exact q145 | exact of_decide_eq_true (by first | (with_reducible assumption) | assumption) | (have e_ := (Kd.V_reads' HO_0.out).1; omega))
              obtain ⟨ua145_2, uc145_2, ua145_3, uc145_3, rfl, ul145_2, ge145_2, ul145_3, ge145_3⟩ := k144_openF hMe145
              have hv145_2 := hcc145 2 _ rfl
              rw [add_field _ _ 2 (by omega)] at hv145_2
              replace hv145_2 := Option.some.inj (hv145_2.symm.trans hx145_2)
              injection hv145_2 with hva_ hvn_ hvc_
              rw [hva_] at ge145_2
              rw [hvc_] at ul145_2
              have HL145_2 := Aside0.mk (show Kd.V (Kd.int .u8) 5 _ w.heap.size _ _ ((rd_T144 l0 x6_1).f2) from Kd.V_mk ul145_2 ge145_2)
              clear hva_ hvn_ hvc_ ge145_2 ul145_2
              have hv145_3 := hcc145 3 _ rfl
              rw [add_field _ _ 3 (by omega)] at hv145_3
              replace hv145_3 := Option.some.inj (hv145_3.symm.trans hx145_3)
              injection hv145_3 with hva_ hvn_ hvc_
              rw [hva_] at ge145_3
              rw [hvc_] at ul145_3
              have HL145_3 := Aside0.mk (show Kd.V k166 166 _ w.heap.size _ _ ((rd_T144 l0 x6_1).f3) from Kd.V_mk ul145_3 ge145_3)
              clear hva_ hvn_ hvc_ ge145_3 ul145_3
              clear hcc145 hce145
              have HR145_2 := Aside0.mk hi145_2
              have HC145_2 := Aside0.mk hl145_2
              clear hi145_2 hl145_2
              have HR145_3 := Aside0.mk hi145_3
              have HC145_3 := Aside0.mk hl145_3
              clear hi145_3 hl145_3
              replace p145 := eq_true p145
              replace q145 := eq_true q145
              have p146 : 0 ≤ (x6_1 : Int) := of_decide_eq_true (by first | (with_reducible assumption) | assumption)
              have q146 : x6_1 < (l0.length : Int) := of_decide_eq_true (by first | (with_reducible assumption) | assumption)
              obtain ⟨ad146, A146_2, c146_2, A146_3, c146_3, e146, hx146_0, hx146_1, hx146_2, hx146_3, hl146_2, hi146_2, hl146_3, hi146_3⟩ := at_T144 (Kd.V_reads' HO_0.out).2.2 x6_1 p146 q146
              obtain rfl : ad145 = ad146 := (by injection e146)
              obtain ⟨ce146, hce146, hMe146, hcc146⟩ := Kd.V_get HO_0.out z144 x6_1 p146 (by first | exact q146 | exact of_decide_eq_true (by first | (with_reducible assumption) | assumption) | (have e_ := (Kd.V_reads' HO_0.out).1; omega))
              obtain ⟨ua146_2, uc146_2, ua146_3, uc146_3, rfl, ul146_2, ge146_2, ul146_3, ge146_3⟩ := k144_openF hMe146
              have hv146_2 := hcc146 2 _ rfl
              rw [add_field _ _ 2 (by omega)] at hv146_2
              replace hv146_2 := Option.some.inj (hv146_2.symm.trans hx146_2)
              injection hv146_2 with hva_ hvn_ hvc_
              rw [hva_] at ge146_2
              rw [hvc_] at ul146_2
              have HL146_2 := Aside0.mk (show Kd.V (Kd.int .u8) 5 _ w.heap.size _ _ ((rd_T144 l0 x6_1).f2) from Kd.V_mk ul146_2 ge146_2)
              clear hva_ hvn_ hvc_ ge146_2 ul146_2
              have hv146_3 := hcc146 3 _ rfl
              rw [add_field _ _ 3 (by omega)] at hv146_3
              replace hv146_3 := Option.some.inj (hv146_3.symm.trans hx146_3)
              injection hv146_3 with hva_ hvn_ hvc_
              rw [hva_] at ge146_3
              rw [hvc_] at ul146_3
              have HL146_3 := Aside0.mk (show Kd.V k166 166 _ w.heap.size _ _ ((rd_T144 l0 x6_1).f3) from Kd.V_mk ul146_3 ge146_3)
              clear hva_ hvn_ hvc_ ge146_3 ul146_3
              clear hcc146 hce146
              have HR146_2 := Aside0.mk hi146_2
              have HC146_2 := Aside0.mk hl146_2
              clear hi146_2 hl146_2
              have HR146_3 := Aside0.mk hi146_3
              have HC146_3 := Aside0.mk hl146_3
              clear hi146_3 hl146_3
              replace p146 := eq_true p146
              replace q146 := eq_true q146
              have ea_ := Option.some.inj (hx145_2.symm.trans hx146_2)
              injection ea_ with ea_ en_ ec_
              subst ea_
              subst ec_
              clear en_
              have ea_ := Option.some.inj (hx145_3.symm.trans hx146_3)
              injection ea_ with ea_ en_ ec_
              subst ea_
              subst ec_
              clear en_
              go_wp2_with (first | ((with_reducible refine gate_builtin (b := .append) (xs := #[.tmp 21, .tmp 26]) rfl ?_); at_builtin; refine Kd.N_append k144 (w0 := w) w.heap.size rfl (.tmp 21) (.tmp 26) 138 144 (.agg #[(.string ⟨#[]⟩), (.bool false), (.slice none 0 0), (.slice none 0 0)]) 72 rfl Try.underlying138 info144 rfl (by decide) (by omega) u5 x5_1 (⟨(rd_T144 l0 x6_1).f0, (rd_T144 l0 x6_1).f1, (rd_T144 l0 x6_1).f2, (rd_T144 l0 x6_1).f3⟩ : S144) [.string ((rd_T144 l0 x6_1).f0), .bool ((rd_T144 l0 x6_1).f1), .slice A145_2 ((rd_T144 l0 x6_1).f2).length c145_2, .slice A145_3 ((rd_T144 l0 x6_1).f3).length c145_3] (fun k_ => (P0_ k_ ∨ w.heap.size ≤ k_)) (fun k_ => ((fun k_ => (P0_ k_ ∨ w.heap.size ≤ k_))) k_ ∧ some k_ ≠ (u5 : Value).ownBlock) rfl rfl ?aP (fun _ hk => hk) ?aF ?aO ?aB ?aS ?aL ?_; (case aP => exact (k144_mkF _ _ (⟨(rd_T144 l0 x6_1).f0, (rd_T144 l0 x6_1).f1, (rd_T144 l0 x6_1).f2, (rd_T144 l0 x6_1).f3⟩ : S144) (Kd.V_reads' (Kd.V_mono (ok' := (fun k_ => ((fun k_ => (P0_ k_ ∨ w.heap.size ≤ k_))) k_ ∧ some k_ ≠ (u5 : Value).ownBlock)) (HL146_2.out) (fun k_ hk => ⟨hk.1, hk.2⟩))).2.1 (Kd.V_F (Kd.V_mono (ok' := (fun k_ => ((fun k_ => (P0_ k_ ∨ w.heap.size ≤ k_))) k_ ∧ some k_ ≠ (u5 : Value).ownBlock)) (HL146_2.out) (fun k_ hk => ⟨hk.1, hk.2⟩))) (Kd.V_reads' (Kd.V_mono (ok' := (fun k_ => ((fun k_ => (P0_ k_ ∨ w.heap.size ≤ k_))) k_ ∧ some k_ ≠ (u5 : Value).ownBlock)) (HL146_3.out) (fun k_ hk => ⟨hk.1, hk.2⟩))).2.1 (Kd.V_F (Kd.V_mono (ok' := (fun k_ => ((fun k_ => (P0_ k_ ∨ w.heap.size ≤ k_))) k_ ∧ some k_ ≠ (u5 : Value).ownBlock)) (HL146_3.out) (fun k_ hk => ⟨hk.1, hk.2⟩))))); (case aB => exact (by repeat (first | (with_reducible first | exact HB.out | apply below_alloc | apply pw_below_drewN | apply below_drew1) | exact HB.out))); (case aF => exact (fun k_ hk => (.inr (Nat.le_trans (below_size (by repeat (first | (with_reducible first | exact HB.out | apply below_alloc | apply pw_below_drewN | apply below_drew1) | exact HB.out))) hk)))); (case aO => exact (by (with_reducible repeat (first | apply Kd.N_alloc | apply Kd.N_drewN | apply Kd.N_drew)); exact HO_5.out)); (case aS => exact (below_size (by repeat (first | (with_reducible first | exact HB.out | apply below_alloc | apply pw_below_drewN | apply below_drew1) | exact HB.out)))); (case aL => have := LMc8.out; omega); intro v148 w9 ho hb hg hat; rw [← Ny147.out] at ho; have n0_ := Aside0.mk (Kd.V_afterv (ok := (fun k_ => (P0_ k_ ∨ w.heap.size ≤ k_))) (by (with_reducible repeat (first | apply Kd.V_alloc | apply Kd.V_drewN | apply Kd.V_drew)); exact HO_0.out) hg hat); have n1_ := Aside0.mk (Kd.V_afterv (ok := (fun k_ => (P0_ k_ ∨ w.heap.size ≤ k_))) (by (with_reducible repeat (first | apply Kd.V_alloc | apply Kd.V_drewN | apply Kd.V_drew)); exact HL145_2.out) hg hat); have n2_ := Aside0.mk (Kd.V_afterv (ok := (fun k_ => (P0_ k_ ∨ w.heap.size ≤ k_))) (by (with_reducible repeat (first | apply Kd.V_alloc | apply Kd.V_drewN | apply Kd.V_drew)); exact HL145_3.out) hg hat); have n3_ := Aside0.mk (Kd.V_afterv (ok := (fun k_ => (P0_ k_ ∨ w.heap.size ≤ k_))) (by (with_reducible repeat (first | apply Kd.V_alloc | apply Kd.V_drewN | apply Kd.V_drew)); exact HL146_2.out) hg hat); have n4_ := Aside0.mk (Kd.V_afterv (ok := (fun k_ => (P0_ k_ ∨ w.heap.size ≤ k_))) (by (with_reducible repeat (first | apply Kd.V_alloc | apply Kd.V_drewN | apply Kd.V_drew)); exact HL146_3.out) hg hat); have n5_ := Aside0.mk (hb); have n6_ := Aside0.mk (ho); clear HO_0; clear HL145_2; clear HL145_3; clear HL146_2; clear HL146_3; clear HB; clear HO_5; have HO_0 := n0_; have HL145_2 := n1_; have HL145_3 := n2_; have HL146_2 := n3_; have HL146_3 := n4_; have HB := n5_; have HO149 := n6_; clear n0_ n1_ n2_ n3_ n4_ n5_ n6_; clear ho hb hg hat))
              go_roundg k1
              case measure => have := HK1.out; omega
              case rel => exact ⟨(y147), (wrap64 (x6_1 + 1)), (by first | rfl | (simp; done) | (simp [*]; done)), H', ⟨by have := HK1.out; omega⟩, ⟨by (with_reducible repeat (first | apply Kd.V_alloc | apply Kd.V_drewN | apply Kd.V_drew)); exact HO_0.out⟩, ⟨by (with_reducible repeat (first | apply Kd.N_alloc | apply Kd.N_drewN | apply Kd.N_drew)); exact HO149.out⟩, ⟨by repeat (first | (with_reducible first | exact HB.out | apply below_alloc | apply pw_below_drewN | apply below_drew1) | exact HB.out)⟩⟩
            · rw [if_neg c8] at H
              exact absurd H (by simp)
        · rw [if_neg c6] at H
          exact absurd H (by simp)
      · rw [if_neg c5] at H
        have c5b0 : decide (x6_1 < (l0.length : Int)) = false := decide_eq_false c5
        clear c5
        obtain rfl := Option.some.inj H
        go_wp2
        go_ret
        exact ⟨_, by first | rfl | (simp [errW_none, errW_some] <;> rfl) | (simp [*, errW_none, errW_some] <;> rfl), by (with_reducible repeat (first | apply Kd.N_alloc | apply Kd.N_drewN | apply Kd.N_drew)); exact HO_5.out, by repeat (first | (with_reducible first | exact HB.out | apply below_alloc | apply pw_below_drewN | apply below_drew1) | exact HB.out)⟩

end Go.Proofs.Ytmmiipnmimjojaa.PS
end
section
namespace Go.Proofs.Ytmmiipnmimjojaa.PS
open Go.RowKit Go.Proofs.YtmmiipnmimjojaaW.PrintWords Go.Proofs.YtmmiipnmimjojaaW.PrintLast Go.Proofs.YtmmiipnmimjojaaW.PrintMore
attribute [local go_sem] max2_int min2_int max_two min_two max_three min_three max_four min_four   -- for this text's walks alone
set_option linter.unusedVariables false
set_option linter.unusedSimpArgs false

def tollgateref05_SameTexts.l0 : Nat → List ByteArray → List ByteArray → Int → Option (Bool)
  | 0, _, _, _ => none
  | k + 1, x0, x1, x5 => if x5 < (x0.length : Int) then (if 0 ≤ x5 then (if x5 < (x1.length : Int) then (if (rdOf ByteArray.empty x0 x5).toList = (rdOf ByteArray.empty x1 x5).toList then (tollgateref05_SameTexts.l0 k x0 x1 (wrap64 (x5 + 1))) else (some false)) else (none)) else (none)) else (some true)
def tollgateref05_SameTexts.f (k : Nat) (l0 : List ByteArray) (l1 : List ByteArray) : Option (Bool) := if (l0.length : Int) = (l1.length : Int) then (tollgateref05_SameTexts.l0 k l0 l1 0) else (some false)
theorem tollgateref05_SameTexts.mono_l : ∀ k, (∀ y0 y1 y2, LeO (tollgateref05_SameTexts.l0 k y0 y1 y2) (tollgateref05_SameTexts.l0 (k + 1) y0 y1 y2))
  | 0 => fun _ _ _ r h => by simp [tollgateref05_SameTexts.l0] at h
  | k + 1 => by
    have ih0 := tollgateref05_SameTexts.mono_l k
    · intro y0 y1 y2
      unfold tollgateref05_SameTexts.l0
      repeat' first
      | (with_reducible exact ih0 _ _ _)
      | (with_reducible exact LeO.refl _)
      | (with_reducible exact LeO.none _)
      | (with_reducible refine LeO.ite ?_ ?_)
      | (with_reducible refine LeO.bind ?_ (fun _ => ?_))
      | exact ih0 _ _ _
      | exact LeO.none _
      | refine LeO.ite ?_ ?_
      | refine LeO.bind ?_ (fun _ => ?_)
theorem tollgateref05_SameTexts.mono : ∀ a0 a1 k, LeO (tollgateref05_SameTexts.f k a0 a1) (tollgateref05_SameTexts.f (k + 1) a0 a1) := by
  intro a0 a1 k
  have ih0 := tollgateref05_SameTexts.mono_l k
  unfold tollgateref05_SameTexts.f
  repeat' first
      | (with_reducible exact ih0 _ _ _)
      | (with_reducible exact LeO.refl _)
      | (with_reducible exact LeO.none _)
      | (with_reducible refine LeO.ite ?_ ?_)
      | (with_reducible refine LeO.bind ?_ (fun _ => ?_))
      | exact ih0 _ _ _
      | exact LeO.none _
      | refine LeO.ite ?_ ?_
      | refine LeO.bind ?_ (fun _ => ?_)
set_option maxHeartbeats 8000000 in
set_option maxRecDepth 100000 in
theorem tollgateref05_SameTexts.calls (k : Nat) (A0 : Option Addr) (c0 : Nat) (l0 : List ByteArray) (A1 : Option Addr) (c1 : Nat) (l1 : List ByteArray) (r : Bool) (w : World) (hr0 : Kd.C Kd.string w A0 l0.length l0) (hc0 : l0.length ≤ c0) (hr1 : Kd.C Kd.string w A1 l1.length l1) (hc1 : l1.length ≤ c1) (h : tollgateref05_SameTexts.f k l0 l1 = some r) :
    Calls Try.prog 41 #[.slice A0 l0.length c0, .slice A1 l1.length c1] w fun e w' => e = .returned (.bool r) ∧ Drawn0 w w' := by
  have HR0 := Aside0.mk hr0
  have HC0 := Aside0.mk hc0
  clear hr0 hc0
  have HR1 := Aside0.mk hr1
  have HC1 := Aside0.mk hc1
  clear hr1 hc1
  have H : (if (l0.length : Int) = (l1.length : Int) then (tollgateref05_SameTexts.l0 k l0 l1 0) else (some false)) = some r := h
  clear h
  by_cases c3 : (l0.length : Int) = (l1.length : Int)
  · rw [if_pos c3] at H
    have c3b0 : ((l0.length : Int) == (l1.length : Int)) = true := beq_iff_eq.mpr c3
    have c3b1 : ((l0.length : Int) != (l1.length : Int)) = false := bne_eq_false_iff_eq.mpr c3
    have c3b2 : (l0.length == l1.length) = true := by first | simpa using c3 | (simp at c3 ⊢; omega)
    clear c3
    have H' := Aside0.mk H
    clear H
    go_enter Try.func41, Try.ntmps41
    go_wp2
    repeat (go_quiet (fail); try go_wp2)
    go_loopg [5] k (fun kq v5 w' => ∃ (x5_1 : Int), v5 = .int .i64 x5_1 ∧ Aside0 (tollgateref05_SameTexts.l0 kq l0 l1 x5_1 = some r) ∧ Aside0 (kq ≤ k) ∧ Drawn0 w w')
    case atStart => exact ⟨(0), (by first | rfl | (simp; done) | (simp [*]; done)), H', ⟨Nat.le_refl _⟩, by repeat (first | exact Drawn0.refl _ | apply Drawn0.step)⟩
    case round =>
      clear H'
      try clear c1
      try clear p2
      try clear c3
      try clear c3b0
      try clear c3b1
      try clear c3b2
      obtain ⟨x5_1, rfl, HA, HK1, ⟨m1, rfl⟩⟩ := hrel
      cases gk with
      | zero => exact absurd HA.out (by simp [tollgateref05_SameTexts.l0])
      | succ k1 =>
        have H := HA.out
        clear HA
        simp only [tollgateref05_SameTexts.l0] at H
        by_cases c4 : x5_1 < (l0.length : Int)
        · rw [if_pos c4] at H
          have c4b0 : decide (x5_1 < (l0.length : Int)) = true := decide_eq_true c4
          clear c4
          by_cases c5 : 0 ≤ x5_1
          · rw [if_pos c5] at H
            have c5b0 : decide (0 ≤ x5_1) = true := decide_eq_true c5
            clear c5
            by_cases c6 : x5_1 < (l1.length : Int)
            · rw [if_pos c6] at H
              have c6b0 : decide (x5_1 < (l1.length : Int)) = true := decide_eq_true c6
              clear c6
              by_cases c7 : (rdOf ByteArray.empty l0 x5_1).toList = (rdOf ByteArray.empty l1 x5_1).toList
              · rw [if_pos c7] at H
                have c7b0 : ((rdOf ByteArray.empty l0 x5_1).toList == (rdOf ByteArray.empty l1 x5_1).toList) = true := beq_iff_eq.mpr c7
                have c7b1 : ((rdOf ByteArray.empty l0 x5_1).toList != (rdOf ByteArray.empty l1 x5_1).toList) = false := bne_eq_false_iff_eq.mpr c7
                clear c7
                have H' := Aside0.mk H
                clear H
                have p150 : 0 ≤ (x5_1 : Int) := of_decide_eq_true (by first | (with_reducible assumption) | assumption)
                have q150 : x5_1 < (l0.length : Int) := of_decide_eq_true (by first | (with_reducible assumption) | assumption)
                obtain ⟨ad150, e150, hx150_0⟩ := Kd.at_string HR0.out x5_1 p150 q150
                cases e150
                replace p150 := eq_true p150
                replace q150 := eq_true q150
                have p151 : 0 ≤ (x5_1 : Int) := of_decide_eq_true (by first | (with_reducible assumption) | assumption)
                have q151 : x5_1 < (l1.length : Int) := of_decide_eq_true (by first | (with_reducible assumption) | assumption)
                obtain ⟨ad151, e151, hx151_0⟩ := Kd.at_string HR1.out x5_1 p151 q151
                cases e151
                replace p151 := eq_true p151
                replace q151 := eq_true q151
                go_wp2
                repeat (go_quiet (fail); try go_wp2)
                go_roundg k1
                case measure => have := HK1.out; omega
                case rel => exact ⟨(wrap64 (x5_1 + 1)), (by first | rfl | (simp; done) | (simp [*]; done)), H', ⟨by have := HK1.out; omega⟩, by repeat (first | exact Drawn0.refl _ | apply Drawn0.step)⟩
              · rw [if_neg c7] at H
                have c7b0 : ((rdOf ByteArray.empty l0 x5_1).toList == (rdOf ByteArray.empty l1 x5_1).toList) = false := beq_eq_false_iff_ne.mpr c7
                have c7b1 : ((rdOf ByteArray.empty l0 x5_1).toList != (rdOf ByteArray.empty l1 x5_1).toList) = true := bne_iff_ne.mpr c7
                obtain rfl := Option.some.inj H
                have p150 : 0 ≤ (x5_1 : Int) := of_decide_eq_true (by first | (with_reducible assumption) | assumption)
                have q150 : x5_1 < (l0.length : Int) := of_decide_eq_true (by first | (with_reducible assumption) | assumption)
                obtain ⟨ad150, e150, hx150_0⟩ := Kd.at_string HR0.out x5_1 p150 q150
                cases e150
                replace p150 := eq_true p150
                replace q150 := eq_true q150
                have p151 : 0 ≤ (x5_1 : Int) := of_decide_eq_true (by first | (with_reducible assumption) | assumption)
                have q151 : x5_1 < (l1.length : Int) := of_decide_eq_true (by first | (with_reducible assumption) | assumption)
                obtain ⟨ad151, e151, hx151_0⟩ := Kd.at_string HR1.out x5_1 p151 q151
                cases e151
                replace p151 := eq_true p151
                replace q151 := eq_true q151
                go_wp2
                repeat (go_quiet (fail); try go_wp2)
                go_ret
                exact ⟨by first | rfl | (simp; done) | (simp [*]; done), by repeat (first | exact Drawn0.refl _ | apply Drawn0.step)⟩
            · rw [if_neg c6] at H
              exact absurd H (by simp)
          · rw [if_neg c5] at H
            exact absurd H (by simp)
        · rw [if_neg c4] at H
          have c4b0 : decide (x5_1 < (l0.length : Int)) = false := decide_eq_false c4
          clear c4
          obtain rfl := Option.some.inj H
          go_wp2
          repeat (go_quiet (fail); try go_wp2)
          go_ret
          exact ⟨by first | rfl | (simp; done) | (simp [*]; done), by repeat (first | exact Drawn0.refl _ | apply Drawn0.step)⟩
  · rw [if_neg c3] at H
    have c3b0 : ((l0.length : Int) == (l1.length : Int)) = false := beq_eq_false_iff_ne.mpr c3
    have c3b1 : ((l0.length : Int) != (l1.length : Int)) = true := bne_iff_ne.mpr c3
    have c3b2 : (l0.length == l1.length) = false := by first | simpa using c3 | (simp at c3 ⊢; omega)
    obtain rfl := Option.some.inj H
    go_enter Try.func41, Try.ntmps41
    go_wp2
    repeat (go_quiet (fail); try go_wp2)
    go_ret
    exact ⟨by first | rfl | (simp; done) | (simp [*]; done), by repeat (first | exact Drawn0.refl _ | apply Drawn0.step)⟩

end Go.Proofs.Ytmmiipnmimjojaa.PS
end
section
namespace Go.Proofs.Ytmmiipnmimjojaa.PS
open Go.RowKit Go.Proofs.YtmmiipnmimjojaaW.PrintWords Go.Proofs.YtmmiipnmimjojaaW.PrintLast Go.Proofs.YtmmiipnmimjojaaW.PrintMore
open Go.Maps Go.Proofs.Ytmmiipnmimjojaa.PD
set_option linter.unusedVariables false
set_option linter.unusedSimpArgs false
/-- Units that fit what they are laid over. -/
def UB (B : Nat) : List S166 → List Int → Prop
  | [], o => o.length ≤ B
  | u :: us, o => o.length ≤ B ∧ 0 ≤ u.f1 ∧ (u.f0 = true → u.f1 ≤ o.length) ∧ UB B us (u1 u o)
theorem UB.len {B : Nat} {us : List S166} {o : List Int} (h : UB B us o) : o.length ≤ B := by cases us with | nil => exact h | cons u us => exact h.1
theorem UB_w {B : Nat} {rest : List S166} : ∀ (b : List Int) (a : Int) (o : List Int), 0 ≤ a → a ≤ o.length → o.length ≤ B → a + b.length ≤ B → UB B rest (layL o a.toNat b) → UB B (wU a b ++ rest) o
  | [], a, o, h0, h1, _, _, hr => by rw [layL_nil (by omega)] at hr; exact hr
  | x :: b, a, o, h0, h1, h2, h3, hr => by
    have e : layL o a.toNat (x :: b) = layL (u1 ⟨false, a, x⟩ o) (a + 1).toNat b := by
      have hlen : a + 1 ≤ ((u1 ⟨false, a, x⟩ o).length : Int) := by
        unfold u1
        rw [if_neg (by simp)]
        dsimp only
        split
        · rw [List.length_set]; omega
        · simp; omega
      rw [← mkU_w (x :: b) a o h0 h1, ← mkU_w b (a + 1) _ (by omega) hlen]
      rfl
    rw [e] at hr
    simp only [List.length_cons] at h3
    refine ⟨h2, h0, (fun h => absurd h (by simp)), UB_w b (a + 1) _ (by omega) ?_ ?_ (by omega) hr⟩
    · unfold u1
      rw [if_neg (by simp)]
      dsimp only
      split
      · rw [List.length_set]; omega
      · simp; omega
    · unfold u1
      rw [if_neg (by simp)]
      dsimp only
      split
      · rw [List.length_set]; omega
      · simp; omega
theorem UB_flat {B : Nat} : ∀ {cs : List S114} {o : List Int}, ChB B cs o → UB B (flat cs) o
  | [], o, h => h
  | c :: cs, o, h => by
    have ih := UB_flat h.2.2.2.2
    have hl := h.2.2.2.2.len
    show UB B (unitsOf c ++ flat cs) o
    obtain ⟨c0, z, a, b⟩ := c
    cases c0 with
    | true =>
      have h1 := h.2.1 rfl
      rw [ap1_cutN] at ih
      refine ⟨h.1, h1.1, fun _ => h1.2, ?_⟩
      show UB B (flat cs) (u1 ⟨true, z, 0⟩ o)
      unfold u1
      rw [if_pos rfl]
      exact ih
    | false =>
      have h2 := h.2.2.1 rfl
      dsimp only at h2
      rw [ap1_write (by omega)] at ih hl
      rw [layL_len _ _ _ (by omega)] at hl
      exact UB_w b a o h2.1 h2.2 h.1 (by omega) ih
theorem drop_rd6 {xs : List S166} {i : Int} (h0 : 0 ≤ i) (h1 : i < (xs.length : Int)) : xs.drop i.toNat = rd_T166 xs i :: xs.drop (i + 1).toNat := by
  have hl : i.toNat < xs.length := by omega
  rw [List.drop_eq_getElem_cons hl, show (i + 1).toNat = i.toNat + 1 by omega]
  unfold rd_T166
  rw [List.getD_eq_getElem?_getD, List.getElem?_eq_getElem hl]
  rfl
theorem drop_rd4 {xs : List S144} {i : Int} (h0 : 0 ≤ i) (h1 : i < (xs.length : Int)) : xs.drop i.toNat = rd_T144 xs i :: xs.drop (i + 1).toNat := by
  have hl : i.toNat < xs.length := by omega
  rw [List.drop_eq_getElem_cons hl, show (i + 1).toNat = i.toNat + 1 by omega]
  unfold rd_T144
  rw [List.getD_eq_getElem?_getD, List.getElem?_eq_getElem hl]
  rfl
theorem wrap_next {i : Int} {n : Nat} (h0 : 0 ≤ i) (h : i < (n : Int)) (hn : n ≤ 1000000000000) : wrap64 (i + 1) = i + 1 := by unfold wrap64; omega
theorem made_l (kk : Int) (nm : ByteArray) (ls : Bool) (sure : List Int) (us : List S166) {B : Nat} (hB : B ≤ 1000000) (hus : us.length ≤ 1000000000000) : ∀ (m k : Nat) (i : Int) (o : List Int), 0 ≤ i → i + m = us.length → 2 * m + 2 ≤ k → UB B (us.drop i.toNat) o →
    tollgateref05_made.l0 k kk o i nm ls sure us = some (mkU ((us.drop i.toNat).take (kk - i).toNat) o) := by
  intro m
  induction m with
  | zero =>
    intro k i o h0 hm hk hu
    obtain ⟨k, rfl⟩ : ∃ q, k = q + 2 := ⟨k - 2, by omega⟩
    rw [tollgateref05_made.l0, if_neg (by omega), tollgateref05_made.j1, if_neg (by simp), List.drop_eq_nil_of_le (by omega), List.take_nil]
    rfl
  | succ m ih =>
    intro k i o h0 hm hk hu
    obtain ⟨k, rfl⟩ : ∃ q, k = q + 2 := ⟨k - 2, by omega⟩
    have hlt : i < (us.length : Int) := by omega
    rw [drop_rd6 h0 hlt] at hu ⊢
    obtain ⟨u, hud⟩ : ∃ u, rd_T166 us i = u := ⟨_, rfl⟩
    have hw := wrap_next h0 hlt hus
    rw [tollgateref05_made.l0, if_pos hlt, tollgateref05_made.j1]
    rw [hud] at hu ⊢
    by_cases hkk : i < kk
    · rw [if_pos (decide_eq_true hkk), if_pos h0, if_pos hlt]
      obtain ⟨a1, a2, a3, a4⟩ := hu
      have hst : mkU ((u :: us.drop (i + 1).toNat).take (kk - i).toNat) o = mkU ((us.drop (i + 1).toNat).take (kk - (i + 1)).toNat) (u1 u o) := by
        rw [show (kk - i).toNat = (kk - (i + 1)).toNat + 1 by omega, List.take_succ_cons]
        rfl
      have hih := ih k (i + 1) (u1 u o) (by omega) (by omega) (by omega) a4
      rw [hst, ← hih]
      unfold u1
      by_cases hc : u.f0 = true
      · rw [if_pos hc, if_pos a2, if_pos (a3 hc), hw, if_pos hc]
      · rw [if_neg hc, if_neg hc]
        by_cases hl : u.f1 < (o.length : Int)
        · rw [if_pos hl, if_pos a2, hw, if_pos hl]
        · rw [if_neg hl, if_pos (by omega), hw, if_neg hl]
    · rw [if_neg (by simpa using hkk), show (kk - i).toNat = 0 by omega, List.take_zero]
      rfl
theorem made_f (kk : Int) (nm : ByteArray) (ls : Bool) (sure : List Int) (us : List S166) {B : Nat} (hB : B ≤ 1000000) (hus : us.length ≤ 1000000000000) (h : UB B us sure) :
    tollgateref05_made.f (2 * us.length + 2) nm ls sure us kk = some (mkU (us.take kk.toNat) sure) := by
  have hl := h.len
  have := made_l kk nm ls sure us hB hus us.length (2 * us.length + 2) 0 sure (by omega) (by omega) (by omega) h
  unfold tollgateref05_made.f
  rw [Option.bind_some, if_pos (by simp; omega), List.nil_append, this, show (0 : Int).toNat = 0 from rfl, List.drop_zero, Int.sub_zero]
theorem now_f (nm : ByteArray) (ls : Bool) (sure : List Int) (us : List S166) {B : Nat} (hB : B ≤ 1000000) (hus : us.length ≤ 1000000000000) (h : UB B us sure) :
    tollgateref05_now.f (2 * us.length + 2) nm ls sure us = some (mkU us sure) := by
  unfold tollgateref05_now.f
  rw [made_f _ nm ls sure us hB hus h, Option.bind_some, show ((us.length : Nat) : Int).toNat = us.length by omega, List.take_length]
theorem str_ne {x y : ByteArray} : x.toList = y.toList ↔ x = y := by
  rw [ByteArray.toList_eq, ByteArray.toList_eq]
  exact ⟨fun h => ByteArray.ext (Array.toList_inj.mp h), fun h => by rw [h]⟩
theorem without_l (x0 : List S144) (s : ByteArray) (hx : x0.length ≤ 1000) : ∀ (m k : Nat) (i : Int) (o : List S144), 0 ≤ i → i + m = x0.length → m < k → o.length ≤ i →
    tollgateref05_without.l0 k x0 s o i = some (o ++ woR (x0.drop i.toNat) s) := by
  intro m
  induction m with
  | zero =>
    intro k i o h0 hm hk ho
    obtain ⟨k, rfl⟩ : ∃ q, k = q + 1 := ⟨k - 1, by omega⟩
    rw [tollgateref05_without.l0, if_neg (by omega), List.drop_eq_nil_of_le (by omega)]
    simp [woR]
  | succ m ih =>
    intro k i o h0 hm hk ho
    obtain ⟨k, rfl⟩ : ∃ q, k = q + 1 := ⟨k - 1, by omega⟩
    have hlt : i < (x0.length : Int) := by omega
    rw [tollgateref05_without.l0, if_pos hlt, if_pos h0, drop_rd4 h0 hlt, wrap_next h0 hlt (by omega)]
    obtain ⟨f, hf⟩ : ∃ f, rd_T144 x0 i = f := ⟨_, rfl⟩
    rw [hf]
    by_cases e : f.f0 = s
    · rw [if_pos (str_ne.2 e), ih k (i + 1) o (by omega) (by omega) (by omega) (by omega)]
      simp [woR, e]
    · rw [if_neg (fun h => e (str_ne.1 h)), if_pos (by omega), ih k (i + 1) _ (by omega) (by omega) (by omega) (by simp; omega)]
      simp [woR, e]
theorem without_f (x0 : List S144) (s : ByteArray) (hx : x0.length ≤ 1000) : tollgateref05_without.f (x0.length + 1) x0 s = some (woR x0 s) := by
  unfold tollgateref05_without.f
  have := without_l x0 s hx x0.length (x0.length + 1) 0 [] (by omega) (by omega) (by omega) (by simp)
  rw [this]; rfl
theorem putP_j (f x : S144) (o : List S144) (d : Bool) : putP f x (o, d) = if (!d && !(Op.bytesLess x.f0.toList f.f0.toList)) = true then (o ++ [f], true) else (o, d) := by
  unfold putP
  rw [ByteArray.toList_eq, ByteArray.toList_eq]
  have e : (d = false ∧ nlt x.f0.data.toList f.f0.data.toList = false) ↔ (!d && !(Op.bytesLess x.f0.data.toList f.f0.data.toList)) = true := by
    unfold nlt
    simp
  by_cases h : (d = false ∧ nlt x.f0.data.toList f.f0.data.toList = false)
  · rw [if_pos h, if_pos (e.1 h)]
  · rw [if_neg h, if_neg (fun h' => h (e.2 h'))]
theorem put_l (x0 : List S144) (f : S144) (hx : x0.length ≤ 1000) : ∀ (m k : Nat) (i : Int) (o : List S144) (d : Bool), 0 ≤ i → i + m = x0.length → 2 * m + 1 ≤ k → o.length ≤ 2 * i →
    tollgateref05_put.l0 k x0 o d i f.f0 f.f1 f.f2 f.f3 = some (if (putS f (x0.drop i.toNat) (o, d)).2 = true then (putS f (x0.drop i.toNat) (o, d)).1 else (putS f (x0.drop i.toNat) (o, d)).1 ++ [f]) := by
  intro m
  induction m with
  | zero =>
    intro k i o d h0 hm hk ho
    obtain ⟨k, rfl⟩ : ∃ q, k = q + 1 := ⟨k - 1, by omega⟩
    rw [tollgateref05_put.l0, if_neg (by omega), List.drop_eq_nil_of_le (by omega)]
    show _ = some (if d = true then o else o ++ [f])
    by_cases hd : d = true
    · rw [if_pos hd, if_pos hd]
    · rw [if_neg hd, if_neg hd, if_pos (by omega)]
  | succ m ih =>
    intro k i o d h0 hm hk ho
    obtain ⟨k, rfl⟩ : ∃ q, k = q + 2 := ⟨k - 2, by omega⟩
    have hlt : i < (x0.length : Int) := by omega
    rw [drop_rd4 h0 hlt]
    obtain ⟨x, hxx⟩ : ∃ x, rd_T144 x0 i = x := ⟨_, rfl⟩
    have hw := wrap_next h0 hlt (show x0.length ≤ 1000000000000 by omega)
    rw [tollgateref05_put.l0, if_pos hlt, hxx]
    have hj : (if d = true then tollgateref05_put.j1 (k + 1) x0 o d i false f.f0 f.f1 f.f2 f.f3 else if 0 ≤ i then tollgateref05_put.j1 (k + 1) x0 o d i (!(Op.bytesLess (x.f0.toList) f.f0.toList)) f.f0 f.f1 f.f2 f.f3 else none) = tollgateref05_put.j1 (k + 1) x0 o d i (!d && !(Op.bytesLess (x.f0.toList) f.f0.toList)) f.f0 f.f1 f.f2 f.f3 := by
      cases d with
      | true => rw [if_pos rfl]; rfl
      | false => rw [if_neg (by simp), if_pos h0]; rfl
    rw [hj, putS_cons, putP_j]
    rw [tollgateref05_put.j1]
    by_cases hb : (!d && !(Op.bytesLess x.f0.toList f.f0.toList)) = true
    · rw [if_pos hb, if_pos hb, if_pos (by omega), Option.bind_some, if_pos h0, if_pos hlt, hxx, hw]
      by_cases e : x.f0 = f.f0
      · rw [if_pos (str_ne.2 e), if_pos e]
        exact ih k (i + 1) _ true (by omega) (by omega) (by omega) (by simp; omega)
      · rw [if_neg (fun h => e (str_ne.1 h)), if_pos (by simp; omega), if_neg e]
        exact ih k (i + 1) _ true (by omega) (by omega) (by omega) (by simp; omega)
    · rw [if_neg hb, if_neg hb, if_pos h0, if_pos hlt, hxx, hw]
      by_cases e : x.f0 = f.f0
      · rw [if_pos (str_ne.2 e), if_pos e]
        exact ih k (i + 1) _ d (by omega) (by omega) (by omega) (by omega)
      · rw [if_neg (fun h => e (str_ne.1 h)), if_pos (by omega), if_neg e]
        exact ih k (i + 1) _ d (by omega) (by omega) (by omega) (by simp; omega)
theorem put_f (x0 : List S144) (f : S144) (hx : x0.length ≤ 1000) : tollgateref05_put.f (2 * x0.length + 1) x0 f.f0 f.f1 f.f2 f.f3 = some (putR x0 f) := by
  unfold tollgateref05_put.f
  rw [put_l x0 f hx x0.length _ 0 [] false (by omega) (by omega) (by omega) (by simp)]
  rfl
theorem sameT_l (x0 x1 : List ByteArray) (hx : x0.length ≤ 1000000000) (hl : x0.length = x1.length) : ∀ (m k : Nat) (i : Int), 0 ≤ i → i + m = x0.length → m < k →
    ∃ b, tollgateref05_SameTexts.l0 k x0 x1 i = some b ∧ (x0 = x1 → b = true) := by
  intro m
  induction m with
  | zero =>
    intro k i h0 hm hk
    obtain ⟨k, rfl⟩ : ∃ q, k = q + 1 := ⟨k - 1, by omega⟩
    exact ⟨true, by rw [tollgateref05_SameTexts.l0, if_neg (by omega)], fun _ => rfl⟩
  | succ m ih =>
    intro k i h0 hm hk
    obtain ⟨k, rfl⟩ : ∃ q, k = q + 1 := ⟨k - 1, by omega⟩
    have hlt : i < (x0.length : Int) := by omega
    rw [tollgateref05_SameTexts.l0, if_pos hlt, if_pos h0, if_pos (by omega), wrap_next h0 hlt (by omega)]
    by_cases e : (rdOf ByteArray.empty x0 i).toList = (rdOf ByteArray.empty x1 i).toList
    · rw [if_pos e]
      exact ih k (i + 1) (by omega) (by omega) (by omega)
    · rw [if_neg e]
      exact ⟨false, rfl, fun h => absurd (by rw [h]) e⟩
theorem sameT_f (x0 x1 : List ByteArray) (hx : x0.length ≤ 1000000000) (h : x0 = x1) : tollgateref05_SameTexts.f (x0.length + 1) x0 x1 = some true := by
  unfold tollgateref05_SameTexts.f
  obtain ⟨b, hb, hb'⟩ := sameT_l x0 x1 hx (by rw [h]) x0.length (x0.length + 1) 0 (by omega) (by omega) (by omega)
  rw [if_pos (by rw [h]), hb, hb' h]
end Go.Proofs.Ytmmiipnmimjojaa.PS
end
