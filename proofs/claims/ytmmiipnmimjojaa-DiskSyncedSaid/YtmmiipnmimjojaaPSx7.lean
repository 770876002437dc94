-- written by wip/mkprint.py of this work
import Derived.Test.YtmmiipnmimjojaaPSx0
namespace Go.Proofs.Ytmmiipnmimjojaa.PS
open Go.RowKit Go.Proofs.YtmmiipnmimjojaaW.PrintWords Go.Proofs.YtmmiipnmimjojaaW.PrintLast Go.Proofs.YtmmiipnmimjojaaW.PrintMore
attribute [local go_sem] max2_int min2_int max_two min_two max_three min_three max_four min_four   -- for this text's walks alone
set_option linter.unusedVariables false
set_option linter.unusedSimpArgs false

/-! ### tollgateref05_without: function 107 -/
def tollgateref05_without.l0 : Nat → List (S144) → ByteArray → List (S144) → Int → Option ((List (S144)))
  | 0, _, _, _, _ => none
  | k + 1, x0, x1, x5, x6 => if x6 < (x0.length : Int) then (if 0 ≤ x6 then (if ((rd_T144 x0 x6).f0).toList = x1.toList then (tollgateref05_without.l0 k x0 x1 x5 (wrap64 (x6 + 1))) else (if x5.length < 1954687338268 then (tollgateref05_without.l0 k x0 x1 (x5 ++ [(⟨(rd_T144 x0 x6).f0, (rd_T144 x0 x6).f1, (rd_T144 x0 x6).f2, (rd_T144 x0 x6).f3⟩ : S144)]) (wrap64 (x6 + 1))) else (none))) else (none)) else (some x5)
def tollgateref05_without.f (k : Nat) (l0 : List (S144)) (a1 : ByteArray) : Option ((List (S144))) := tollgateref05_without.l0 k l0 a1 (([] : List (S144))) 0
theorem tollgateref05_without.mono_l : ∀ k, (∀ y0 y1 y2 y3, LeO (tollgateref05_without.l0 k y0 y1 y2 y3) (tollgateref05_without.l0 (k + 1) y0 y1 y2 y3))
  | 0 => fun _ _ _ _ r h => by simp [tollgateref05_without.l0] at h
  | k + 1 => by
    have ih0 := tollgateref05_without.mono_l k
    · intro y0 y1 y2 y3
      unfold tollgateref05_without.l0
      repeat' first
      | (with_reducible exact ih0 _ _ _ _)
      | (with_reducible exact LeO.refl _)
      | (with_reducible exact LeO.none _)
      | (with_reducible refine LeO.ite ?_ ?_)
      | (with_reducible refine LeO.bind ?_ (fun _ => ?_))
      | exact ih0 _ _ _ _
      | exact LeO.none _
      | refine LeO.ite ?_ ?_
      | refine LeO.bind ?_ (fun _ => ?_)
theorem tollgateref05_without.mono : ∀ a0 a1 k, LeO (tollgateref05_without.f k a0 a1) (tollgateref05_without.f (k + 1) a0 a1) := by
  intro a0 a1 k
  have ih0 := tollgateref05_without.mono_l k
  unfold tollgateref05_without.f
  repeat' first
      | (with_reducible exact ih0 _ _ _ _)
      | (with_reducible exact LeO.refl _)
      | (with_reducible exact LeO.none _)
      | (with_reducible refine LeO.ite ?_ ?_)
      | (with_reducible refine LeO.bind ?_ (fun _ => ?_))
      | exact ih0 _ _ _ _
      | exact LeO.none _
      | refine LeO.ite ?_ ?_
      | refine LeO.bind ?_ (fun _ => ?_)
set_option maxHeartbeats 8000000 in
set_option maxRecDepth 100000 in
theorem tollgateref05_without.calls (k : Nat) (P0_ : Nat → Prop) (A0 : Option Addr) (c0 : Nat) (l0 : List (S144)) (a1 : ByteArray) (r : List (S144)) (w : World) (hs0 : Kd.V k144 144 w w.heap.size (fun k_ => P0_ k_) (.slice A0 l0.length c0) l0) (h : tollgateref05_without.f k l0 a1 = some r) :
    Calls Try.prog 107 #[.slice A0 l0.length c0, .string a1] w fun e w' => ∃ v0_ : Value, e = .returned (v0_) ∧ Kd.N k144 144 w' w.heap.size (fun k_ => (P0_ k_ ∨ w.heap.size ≤ k_)) v0_ r ∧ Below w.heap.size w w' := by
  have hu144 := Try.underlying144
  have HO0 := Aside0.mk (show Kd.V k144 144 w w.heap.size (fun k_ => (P0_ k_ ∨ w.heap.size ≤ k_)) (.slice A0 l0.length c0) l0 from Kd.V_mono hs0 (fun k_ hk => .inl hk))
  have HB := Aside0.mk (Below.refl w.heap.size w)
  have H : (tollgateref05_without.l0 k l0 a1 (([] : List (S144))) 0) = some r := h
  clear h
  obtain ⟨y142, hy142⟩ : ∃ y_ : List (S144), y_ = (([] : List (S144))) := ⟨_, rfl⟩
  replace H : (tollgateref05_without.l0 k l0 a1 y142 0) = some r := by first | (rw [hy142]; with_reducible exact H) | (have H2_ := (Option.bind_some _ _).symm.trans H; rw [hy142]; with_reducible exact H2_) | (have H2_ := (Option.bind_some _ _).symm.trans H; with_reducible exact H2_) | with_reducible exact H | (rw [hy142]; exact H) | exact H
  have Ny142 := Aside0.mk hy142
  clear hy142
  have H' := Aside0.mk H
  clear H
  go_enter Try.func107, Try.ntmps107
  go_wp2_with (first | ((with_reducible refine gate_dst (N := 7) rfl ?_); refine Kd.N_lit k144 _ 144 ?hg (N' := 7) ?hd (xs := ([] : List (S144))) (inner := []) (ok := (fun k_ => (P0_ k_ ∨ w.heap.size ≤ k_))) (okp := (fun k_ => (P0_ k_ ∨ w.heap.size ≤ k_))) ?hr ?hp (fun _ hk => hk) ((show ∀ k_, w.heap.size ≤ k_ → (fun k_ => (P0_ k_ ∨ w.heap.size ≤ k_)) k_ from fun k_ hk => (.inr (Nat.le_trans (below_size (by repeat (first | (with_reducible first | exact HB.out | apply below_alloc | apply pw_below_drewN | apply below_drew1) | exact HB.out))) hk))) _ (Nat.le_refl _)) (Below.refl _ _) (Nat.le_refl _) (by simp) ?_; (case hd => rfl); (case hg => rfl); (case hr => first | (go_simp; done) | (go_simp; rfl)); (case hp => exact (Reps.none _ _)); intro v143 w3 ho4 hb hg_ hnew_; clear hg_ hnew_; (first | rw [← Ny142.out] at ho4 | (simp only [Int.reduceToNat] at ho4; rw [← Ny142.out] at ho4)); have n0_ := Aside0.mk (Kd.V_elder' (by (with_reducible repeat (first | apply Kd.V_alloc | apply Kd.V_drewN | apply Kd.V_drew)); exact HO0.out) (Kd.N_base ho4) hb); have n1_ := Aside0.mk (Kd.N_lower ho4 (below_size (by repeat (first | (with_reducible first | exact HB.out | apply below_alloc | apply pw_below_drewN | apply below_drew1) | exact HB.out)))); have n2_ := Aside0.mk (below_step (by repeat (first | (with_reducible first | exact HB.out | apply below_alloc | apply pw_below_drewN | apply below_drew1) | exact HB.out)) hb); clear HO0; clear HB; have HO0 := n0_; have HO144 := n1_; have HB := n2_; clear n0_ n1_ n2_; clear hb ho4))
  go_loopg [5, 6] k (fun kq v5 v6 w' => ∃ (x5_1 : List (S144)) (x6_1 : Int), v6 = .int .i64 x6_1 ∧ Aside0 (tollgateref05_without.l0 kq l0 a1 x5_1 x6_1 = some r) ∧ Aside0 (kq ≤ k) ∧ Aside0 (Kd.V k144 144 w' w.heap.size (fun k_ => (P0_ k_ ∨ w.heap.size ≤ k_) ∧ some k_ ≠ (v5 : Value).ownBlock) (.slice A0 l0.length c0) l0) ∧ Aside0 (Kd.N k144 144 w' w.heap.size (fun k_ => (P0_ k_ ∨ w.heap.size ≤ k_)) v5 x5_1) ∧ Aside0 (Below w.heap.size w w'))
  case atStart => exact ⟨(y142), (0), (by first | rfl | (simp; done) | (simp [*]; done)), H', ⟨Nat.le_refl _⟩, ⟨by (with_reducible repeat (first | apply Kd.V_alloc | apply Kd.V_drewN | apply Kd.V_drew)); exact HO0.out⟩, ⟨by (with_reducible repeat (first | apply Kd.N_alloc | apply Kd.N_drewN | apply Kd.N_drew)); exact HO144.out⟩, ⟨by repeat (first | (with_reducible first | exact HB.out | apply below_alloc | apply pw_below_drewN | apply below_drew1) | exact HB.out)⟩⟩
  case round =>
    clear H'
    try clear c1
    try clear p2
    obtain ⟨x5_1, x6_1, rfl, HA, HK1, HO_0, HO_5, HB⟩ := hrel
    cases gk with
    | zero => exact absurd HA.out (by simp [tollgateref05_without.l0])
    | succ k1 =>
      have H := HA.out
      clear HA
      simp only [tollgateref05_without.l0] at H
      by_cases c5 : x6_1 < (l0.length : Int)
      · rw [if_pos c5] at H
        have c5b0 : decide (x6_1 < (l0.length : Int)) = true := decide_eq_true c5
        clear c5
        by_cases c6 : 0 ≤ x6_1
        · rw [if_pos c6] at H
          have c6b0 : decide (0 ≤ x6_1) = true := decide_eq_true c6
          clear c6
          by_cases c7 : ((rd_T144 l0 x6_1).f0).toList = a1.toList
          · rw [if_pos c7] at H
            have c7b0 : (((rd_T144 l0 x6_1).f0).toList == a1.toList) = true := beq_iff_eq.mpr c7
            have c7b1 : (((rd_T144 l0 x6_1).f0).toList != a1.toList) = false := bne_eq_false_iff_eq.mpr c7
            clear c7
            have H' := Aside0.mk H
            clear H
            have p145 : 0 ≤ (x6_1 : Int) := of_decide_eq_true (by first | (with_reducible assumption) | assumption)
            have q145 : x6_1 < (l0.length : Int) := of_decide_eq_true (by first | (with_reducible assumption) | assumption)
            obtain ⟨ad145, A145_2, c145_2, A145_3, c145_3, e145, hx145_0, hx145_1, hx145_2, hx145_3, hl145_2, hi145_2, hl145_3, hi145_3⟩ := at_T144 (Kd.V_reads' HO_0.out).2.2 x6_1 p145 q145
            cases e145
            obtain ⟨ce145, hce145, hMe145, hcc145⟩ := Kd.V_get HO_0.out z144 x6_1 p145 (by first | exact q145 | exact of_decide_eq_true (by first | (with_reducible assumption) | assumption) | (have e_ := (Kd.V_reads' HO_0.out).1; omega))
            obtain ⟨ua145_2, uc145_2, ua145_3, uc145_3, rfl, ul145_2, ge145_2, ul145_3, ge145_3⟩ := k144_openF hMe145
            have hv145_2 := hcc145 2 _ rfl
            rw [add_field _ _ 2 (by omega)] at hv145_2
            replace hv145_2 := Option.some.inj (hv145_2.symm.trans hx145_2)
            injection hv145_2 with hva_ hvn_ hvc_
            rw [hva_] at ge145_2
            rw [hvc_] at ul145_2
            have HL145_2 := Aside0.mk (show Kd.V (Kd.int .u8) 5 _ w.heap.size _ _ ((rd_T144 l0 x6_1).f2) from Kd.V_mk ul145_2 ge145_2)
            clear hva_ hvn_ hvc_ ge145_2 ul145_2
            have hv145_3 := hcc145 3 _ rfl
            rw [add_field _ _ 3 (by omega)] at hv145_3
            replace hv145_3 := Option.some.inj (hv145_3.symm.trans hx145_3)
            injection hv145_3 with hva_ hvn_ hvc_
            rw [hva_] at ge145_3
            rw [hvc_] at ul145_3
            have HL145_3 := Aside0.mk (show Kd.V k166 166 _ w.heap.size _ _ ((rd_T144 l0 x6_1).f3) from Kd.V_mk ul145_3 ge145_3)
            clear hva_ hvn_ hvc_ ge145_3 ul145_3
            clear hcc145 hce145
            have HR145_2 := Aside0.mk hi145_2
            have HC145_2 := Aside0.mk hl145_2
            clear hi145_2 hl145_2
            have HR145_3 := Aside0.mk hi145_3
            have HC145_3 := Aside0.mk hl145_3
            clear hi145_3 hl145_3
            replace p145 := eq_true p145
            replace q145 := eq_true q145
            go_wp2
            go_roundg k1
            case measure => have := HK1.out; omega
            case rel => exact ⟨(x5_1), (wrap64 (x6_1 + 1)), (by first | rfl | (simp; done) | (simp [*]; done)), H', ⟨by have := HK1.out; omega⟩, ⟨by (with_reducible repeat (first | apply Kd.V_alloc | apply Kd.V_drewN | apply Kd.V_drew)); exact HO_0.out⟩, ⟨by (with_reducible repeat (first | apply Kd.N_alloc | apply Kd.N_drewN | apply Kd.N_drew)); exact HO_5.out⟩, ⟨by repeat (first | (with_reducible first | exact HB.out | apply below_alloc | apply pw_below_drewN | apply below_drew1) | exact HB.out)⟩⟩
          · rw [if_neg c7] at H
            have c7b0 : (((rd_T144 l0 x6_1).f0).toList == a1.toList) = false := beq_eq_false_iff_ne.mpr c7
            have c7b1 : (((rd_T144 l0 x6_1).f0).toList != a1.toList) = true := bne_iff_ne.mpr c7
            by_cases c8 : x5_1.length < 1954687338268
            · rw [if_pos c8] at H
              have LMc8 := Aside0.mk c8
              clear c8
              obtain ⟨y147, hy147⟩ : ∃ y_ : List (S144), y_ = (x5_1 ++ [(⟨(rd_T144 l0 x6_1).f0, (rd_T144 l0 x6_1).f1, (rd_T144 l0 x6_1).f2, (rd_T144 l0 x6_1).f3⟩ : S144)]) := ⟨_, rfl⟩
              replace H : (tollgateref05_without.l0 k1 l0 a1 y147 (wrap64 (x6_1 + 1))) = some r := by first | (rw [hy147]; with_reducible exact H) | (have H2_ := (Option.bind_some _ _).symm.trans H; rw [hy147]; with_reducible exact H2_) | (have H2_ := (Option.bind_some _ _).symm.trans H; with_reducible exact H2_) | with_reducible exact H | (rw [hy147]; exact H) | exact H
              have Ny147 := Aside0.mk hy147
              clear hy147
              have H' := Aside0.mk H
              clear H
              have p145 : 0 ≤ (x6_1 : Int) := of_decide_eq_true (by first | (with_reducible assumption) | assumption)
              have q145 : x6_1 < (l0.length : Int) := of_decide_eq_true (by first | (with_reducible assumption) | assumption)
              obtain ⟨ad145, A145_2, c145_2, A145_3, c145_3, e145, hx145_0, hx145_1, hx145_2, hx145_3, hl145_2, hi145_2, hl145_3, hi145_3⟩ := at_T144 (Kd.V_reads' HO_0.out).2.2 x6_1 p145 q145
              cases e145
              obtain ⟨ce145, hce145, hMe145, hcc145⟩ := Kd.V_get HO_0.out z144 x6_1 p145 (by first | exact q145 | exact of_decide_eq_true (by first | (with_reducible assumption) | assumption) | (have e_ := (Kd.V_reads' HO_0.out).1; omega))
              obtain ⟨ua145_2, uc145_2, ua145_3, uc145_3, rfl, ul145_2, ge145_2, ul145_3, ge145_3⟩ := k144_openF hMe145
              have hv145_2 := hcc145 2 _ rfl
              rw [add_field _ _ 2 (by omega)] at hv145_2
              replace hv145_2 := Option.some.inj (hv145_2.symm.trans hx145_2)
              injection hv145_2 with hva_ hvn_ hvc_
              rw [hva_] at ge145_2
              rw [hvc_] at ul145_2
              have HL145_2 := Aside0.mk (show Kd.V (Kd.int .u8) 5 _ w.heap.size _ _ ((rd_T144 l0 x6_1).f2) from Kd.V_mk ul145_2 ge145_2)
              clear hva_ hvn_ hvc_ ge145_2 ul145_2
              have hv145_3 := hcc145 3 _ rfl
              rw [add_field _ _ 3 (by omega)] at hv145_3
              replace hv145_3 := Option.some.inj (hv145_3.symm.trans hx145_3)
              injection hv145_3 with hva_ hvn_ hvc_
              rw [hva_] at ge145_3
              rw [hvc_] at ul145_3
              have HL145_3 := Aside0.mk (show Kd.V k166 166 _ w.heap.size _ _ ((rd_T144 l0 x6_1).f3) from Kd.V_mk ul145_3 ge145_3)
              clear hva_ hvn_ hvc_ ge145_3 ul145_3
              clear hcc145 hce145
              have HR145_2 := Aside0.mk hi145_2
              have HC145_2 := Aside0.mk hl145_2
              clear hi145_2 hl145_2
              have HR145_3 := Aside0.mk hi145_3
              have HC145_3 := Aside0.mk hl145_3
              clear hi145_3 hl145_3
              replace p145 := eq_true p145
              replace q145 := eq_true q145
              have p146 : 0 ≤ (x6_1 : Int) := of_decide_eq_true (by first | (with_reducible assumption) | assumption)
              have q146 : x6_1 < (l0.length : Int) := of_decide_eq_true (by first | (with_reducible assumption) | assumption)
              obtain ⟨ad146, A146_2, c146_2, A146_3, c146_3, e146, hx146_0, hx146_1, hx146_2, hx146_3, hl146_2, hi146_2, hl146_3, hi146_3⟩ := at_T144 (Kd.V_reads' HO_0.out).2.2 x6_1 p146 q146
              obtain rfl : ad145 = ad146 := (by injection e146)
              obtain ⟨ce146, hce146, hMe146, hcc146⟩ := Kd.V_get HO_0.out z144 x6_1 p146 (by first | exact q146 | exact of_decide_eq_true (by first | (with_reducible assumption) | assumption) | (have e_ := (Kd.V_reads' HO_0.out).1; omega))
              obtain ⟨ua146_2, uc146_2, ua146_3, uc146_3, rfl, ul146_2, ge146_2, ul146_3, ge146_3⟩ := k144_openF hMe146
              have hv146_2 := hcc146 2 _ rfl
              rw [add_field _ _ 2 (by omega)] at hv146_2
              replace hv146_2 := Option.some.inj (hv146_2.symm.trans hx146_2)
              injection hv146_2 with hva_ hvn_ hvc_
              rw [hva_] at ge146_2
              rw [hvc_] at ul146_2
              have HL146_2 := Aside0.mk (show Kd.V (Kd.int .u8) 5 _ w.heap.size _ _ ((rd_T144 l0 x6_1).f2) from Kd.V_mk ul146_2 ge146_2)
              clear hva_ hvn_ hvc_ ge146_2 ul146_2
              have hv146_3 := hcc146 3 _ rfl
              rw [add_field _ _ 3 (by omega)] at hv146_3
              replace hv146_3 := Option.some.inj (hv146_3.symm.trans hx146_3)
              injection hv146_3 with hva_ hvn_ hvc_
              rw [hva_] at ge146_3
              rw [hvc_] at ul146_3
              have HL146_3 := Aside0.mk (show Kd.V k166 166 _ w.heap.size _ _ ((rd_T144 l0 x6_1).f3) from Kd.V_mk ul146_3 ge146_3)
              clear hva_ hvn_ hvc_ ge146_3 ul146_3
              clear hcc146 hce146
              have HR146_2 := Aside0.mk hi146_2
              have HC146_2 := Aside0.mk hl146_2
              clear hi146_2 hl146_2
              have HR146_3 := Aside0.mk hi146_3
              have HC146_3 := Aside0.mk hl146_3
              clear hi146_3 hl146_3
              replace p146 := eq_true p146
              replace q146 := eq_true q146
              have ea_ := Option.some.inj (hx145_2.symm.trans hx146_2)
              injection ea_ with ea_ en_ ec_
              subst ea_
              subst ec_
              clear en_
              have ea_ := Option.some.inj (hx145_3.symm.trans hx146_3)
              injection ea_ with ea_ en_ ec_
              subst ea_
              subst ec_
              clear en_
              go_wp2_with (first | ((with_reducible refine gate_builtin (b := .append) (xs := #[.tmp 21, .tmp 26]) rfl ?_); at_builtin; refine Kd.N_append k144 (w0 := w) w.heap.size rfl (.tmp 21) (.tmp 26) 138 144 (.agg #[(.string ⟨#[]⟩), (.bool false), (.slice none 0 0), (.slice none 0 0)]) 72 rfl Try.underlying138 info144 rfl (by decide) (by omega) u5 x5_1 (⟨(rd_T144 l0 x6_1).f0, (rd_T144 l0 x6_1).f1, (rd_T144 l0 x6_1).f2, (rd_T144 l0 x6_1).f3⟩ : S144) [.string ((rd_T144 l0 x6_1).f0), .bool ((rd_T144 l0 x6_1).f1), .slice A145_2 ((rd_T144 l0 x6_1).f2).length c145_2, .slice A145_3 ((rd_T144 l0 x6_1).f3).length c145_3] (fun k_ => (P0_ k_ ∨ w.heap.size ≤ k_)) (fun k_ => ((fun k_ => (P0_ k_ ∨ w.heap.size ≤ k_))) k_ ∧ some k_ ≠ (u5 : Value).ownBlock) rfl rfl ?aP (fun _ hk => hk) ?aF ?aO ?aB ?aS ?aL ?_; (case aP => exact (k144_mkF _ _ (⟨(rd_T144 l0 x6_1).f0, (rd_T144 l0 x6_1).f1, (rd_T144 l0 x6_1).f2, (rd_T144 l0 x6_1).f3⟩ : S144) (Kd.V_reads' (Kd.V_mono (ok' := (fun k_ => ((fun k_ => (P0_ k_ ∨ w.heap.size ≤ k_))) k_ ∧ some k_ ≠ (u5 : Value).ownBlock)) (HL146_2.out) (fun k_ hk => ⟨hk.1, hk.2⟩))).2.1 (Kd.V_F (Kd.V_mono (ok' := (fun k_ => ((fun k_ => (P0_ k_ ∨ w.heap.size ≤ k_))) k_ ∧ some k_ ≠ (u5 : Value).ownBlock)) (HL146_2.out) (fun k_ hk => ⟨hk.1, hk.2⟩))) (Kd.V_reads' (Kd.V_mono (ok' := (fun k_ => ((fun k_ => (P0_ k_ ∨ w.heap.size ≤ k_))) k_ ∧ some k_ ≠ (u5 : Value).ownBlock)) (HL146_3.out) (fun k_ hk => ⟨hk.1, hk.2⟩))).2.1 (Kd.V_F (Kd.V_mono (ok' := (fun k_ => ((fun k_ => (P0_ k_ ∨ w.heap.size ≤ k_))) k_ ∧ some k_ ≠ (u5 : Value).ownBlock)) (HL146_3.out) (fun k_ hk => ⟨hk.1, hk.2⟩))))); (case aB => exact (by repeat (first | (with_reducible first | exact HB.out | apply below_alloc | apply pw_below_drewN | apply below_drew1) | exact HB.out))); (case aF => exact (fun k_ hk => (.inr (Nat.le_trans (below_size (by repeat (first | (with_reducible first | exact HB.out | apply below_alloc | apply pw_below_drewN | apply below_drew1) | exact HB.out))) hk)))); (case aO => exact (by (with_reducible repeat (first | apply Kd.N_alloc | apply Kd.N_drewN | apply Kd.N_drew)); exact HO_5.out)); (case aS => exact (below_size (by repeat (first | (with_reducible first | exact HB.out | apply below_alloc | apply pw_below_drewN | apply below_drew1) | exact HB.out)))); (case aL => have := LMc8.out; omega); intro v148 w9 ho hb hg hat; rw [← Ny147.out] at ho; have n0_ := Aside0.mk (Kd.V_afterv (ok := (fun k_ => (P0_ k_ ∨ w.heap.size ≤ k_))) (by (with_reducible repeat (first | apply Kd.V_alloc | apply Kd.V_drewN | apply Kd.V_drew)); exact HO_0.out) hg hat); have n1_ := Aside0.mk (Kd.V_afterv (ok := (fun k_ => (P0_ k_ ∨ w.heap.size ≤ k_))) (by (with_reducible repeat (first | apply Kd.V_alloc | apply Kd.V_drewN | apply Kd.V_drew)); exact HL145_2.out) hg hat); have n2_ := Aside0.mk (Kd.V_afterv (ok := (fun k_ => (P0_ k_ ∨ w.heap.size ≤ k_))) (by (with_reducible repeat (first | apply Kd.V_alloc | apply Kd.V_drewN | apply Kd.V_drew)); exact HL145_3.out) hg hat); have n3_ := Aside0.mk (Kd.V_afterv (ok := (fun k_ => (P0_ k_ ∨ w.heap.size ≤ k_))) (by (with_reducible repeat (first | apply Kd.V_alloc | apply Kd.V_drewN | apply Kd.V_drew)); exact HL146_2.out) hg hat); have n4_ := Aside0.mk (Kd.V_afterv (ok := (fun k_ => (P0_ k_ ∨ w.heap.size ≤ k_))) (by (with_reducible repeat (first | apply Kd.V_alloc | apply Kd.V_drewN | apply Kd.V_drew)); exact HL146_3.out) hg hat); have n5_ := Aside0.mk (hb); have n6_ := Aside0.mk (ho); clear HO_0; clear HL145_2; clear HL145_3; clear HL146_2; clear HL146_3; clear HB; clear HO_5; have HO_0 := n0_; have HL145_2 := n1_; have HL145_3 := n2_; have HL146_2 := n3_; have HL146_3 := n4_; have HB := n5_; have HO149 := n6_; clear n0_ n1_ n2_ n3_ n4_ n5_ n6_; clear ho hb hg hat))
              go_roundg k1
              case measure => have := HK1.out; omega
              case rel => exact ⟨(y147), (wrap64 (x6_1 + 1)), (by first | rfl | (simp; done) | (simp [*]; done)), H', ⟨by have := HK1.out; omega⟩, ⟨by (with_reducible repeat (first | apply Kd.V_alloc | apply Kd.V_drewN | apply Kd.V_drew)); exact HO_0.out⟩, ⟨by (with_reducible repeat (first | apply Kd.N_alloc | apply Kd.N_drewN | apply Kd.N_drew)); exact HO149.out⟩, ⟨by repeat (first | (with_reducible first | exact HB.out | apply below_alloc | apply pw_below_drewN | apply below_drew1) | exact HB.out)⟩⟩
            · rw [if_neg c8] at H
              exact absurd H (by simp)
        · rw [if_neg c6] at H
          exact absurd H (by simp)
      · rw [if_neg c5] at H
        have c5b0 : decide (x6_1 < (l0.length : Int)) = false := decide_eq_false c5
        clear c5
        obtain rfl := Option.some.inj H
        go_wp2
        go_ret
        exact ⟨_, by first | rfl | (simp [errW_none, errW_some] <;> rfl) | (simp [*, errW_none, errW_some] <;> rfl), by (with_reducible repeat (first | apply Kd.N_alloc | apply Kd.N_drewN | apply Kd.N_drew)); exact HO_5.out, by repeat (first | (with_reducible first | exact HB.out | apply below_alloc | apply pw_below_drewN | apply below_drew1) | exact HB.out)⟩

end Go.Proofs.Ytmmiipnmimjojaa.PS
