/- The texts of this claim's seat, joined: part 5. -/
import Derived.Test.YtmmiipnmimjojaaJ4
section
namespace Go.Proofs.Ytmmiipnmimjojaa.PS
open Go.RowKit Go.Proofs.YtmmiipnmimjojaaW.PrintWords Go.Proofs.YtmmiipnmimjojaaW.PrintLast Go.Proofs.YtmmiipnmimjojaaW.PrintMore
attribute [local go_sem] max2_int min2_int max_two min_two max_three min_three max_four min_four   -- for this text's walks alone
set_option linter.unusedVariables false
set_option linter.unusedSimpArgs false

mutual
def disk_named.j0 : Nat → ByteArray → Bool → Option (Bool)
  | 0, _, _ => none
  | k + 1, x0, x12 => if x12 = true then (some false) else (disk_named.l0 k x0 (x0.size : Int) 0)
def disk_named.l0 : Nat → ByteArray → Int → Int → Option (Bool)
  | 0, _, _, _ => none
  | k + 1, x0, x14, x15 => if x15 < x14 then (if 0 ≤ x15 then (if x15 < (x0.size : Int) then (if (bt x0 x15) ≥ 97 then (if (bt x0 x15) ≤ 122 then (disk_named.l0 k x0 x14 (wrap64 (x15 + 1))) else (if (bt x0 x15) ≥ 48 then (if (bt x0 x15) ≤ 57 then (disk_named.l0 k x0 x14 (wrap64 (x15 + 1))) else (if (bt x0 x15) = 45 then (disk_named.l0 k x0 x14 (wrap64 (x15 + 1))) else (if ((bt x0 x15) = 46) then (disk_named.l0 k x0 x14 (wrap64 (x15 + 1))) else (some false)))) else (if (bt x0 x15) = 45 then (disk_named.l0 k x0 x14 (wrap64 (x15 + 1))) else (if ((bt x0 x15) = 46) then (disk_named.l0 k x0 x14 (wrap64 (x15 + 1))) else (some false))))) else (if (bt x0 x15) ≥ 48 then (if (bt x0 x15) ≤ 57 then (disk_named.l0 k x0 x14 (wrap64 (x15 + 1))) else (if (bt x0 x15) = 45 then (disk_named.l0 k x0 x14 (wrap64 (x15 + 1))) else (if ((bt x0 x15) = 46) then (disk_named.l0 k x0 x14 (wrap64 (x15 + 1))) else (some false)))) else (if (bt x0 x15) = 45 then (disk_named.l0 k x0 x14 (wrap64 (x15 + 1))) else (if ((bt x0 x15) = 46) then (disk_named.l0 k x0 x14 (wrap64 (x15 + 1))) else (some false))))) else (none)) else (none)) else (some true)
end
def disk_named.f (k : Nat) (a0 : ByteArray) : Option (Bool) := if (a0.size : Int) = 0 then (disk_named.j0 k a0 true) else (disk_named.j0 k a0 (decide ((a0.size : Int) > 64)))
theorem disk_named.mono_l : ∀ k, (∀ y0 y1, LeO (disk_named.j0 k y0 y1) (disk_named.j0 (k + 1) y0 y1)) ∧ (∀ y0 y1 y2, LeO (disk_named.l0 k y0 y1 y2) (disk_named.l0 (k + 1) y0 y1 y2))
  | 0 => ⟨fun _ _ r h => by simp [disk_named.j0] at h, fun _ _ _ r h => by simp [disk_named.l0] at h⟩
  | k + 1 => by
    obtain ⟨ih0, ih1⟩ := disk_named.mono_l k
    refine ⟨?_, ?_⟩
    · intro y0 y1
      unfold disk_named.j0
      repeat' first
      | (with_reducible exact ih0 _ _)
      | (with_reducible exact ih1 _ _ _)
      | (with_reducible exact LeO.refl _)
      | (with_reducible exact LeO.none _)
      | (with_reducible refine LeO.ite ?_ ?_)
      | (with_reducible refine LeO.bind ?_ (fun _ => ?_))
      | exact ih0 _ _
      | exact ih1 _ _ _
      | exact LeO.none _
      | refine LeO.ite ?_ ?_
      | refine LeO.bind ?_ (fun _ => ?_)
    · intro y0 y1 y2
      unfold disk_named.l0
      repeat' first
      | (with_reducible exact ih0 _ _)
      | (with_reducible exact ih1 _ _ _)
      | (with_reducible exact LeO.refl _)
      | (with_reducible exact LeO.none _)
      | (with_reducible refine LeO.ite ?_ ?_)
      | (with_reducible refine LeO.bind ?_ (fun _ => ?_))
      | exact ih0 _ _
      | exact ih1 _ _ _
      | exact LeO.none _
      | refine LeO.ite ?_ ?_
      | refine LeO.bind ?_ (fun _ => ?_)
theorem disk_named.mono : ∀ a0 k, LeO (disk_named.f k a0) (disk_named.f (k + 1) a0) := by
  intro a0 k
  obtain ⟨ih0, ih1⟩ := disk_named.mono_l k
  unfold disk_named.f
  repeat' first
      | (with_reducible exact ih0 _ _)
      | (with_reducible exact ih1 _ _ _)
      | (with_reducible exact LeO.refl _)
      | (with_reducible exact LeO.none _)
      | (with_reducible refine LeO.ite ?_ ?_)
      | (with_reducible refine LeO.bind ?_ (fun _ => ?_))
      | exact ih0 _ _
      | exact ih1 _ _ _
      | exact LeO.none _
      | refine LeO.ite ?_ ?_
      | refine LeO.bind ?_ (fun _ => ?_)
set_option maxHeartbeats 8000000 in
set_option maxRecDepth 100000 in
theorem disk_named.calls (k : Nat) (a0 : ByteArray) (r : Bool) (w : World) (h : disk_named.f k a0 = some r) :
    Calls Try.prog 57 #[.string a0] w fun e w' => e = .returned (.bool r) ∧ Drawn0 w w' := by
  have H : (if (a0.size : Int) = 0 then (disk_named.j0 k a0 true) else (disk_named.j0 k a0 (decide ((a0.size : Int) > 64)))) = some r := h
  clear h
  have HC2 := Aside0.mk H
  clear H
  go_enter Try.func57, Try.ntmps57
  go_upto_region 1 with (fail)
  go_cut [12] (fun v12 wc => ∃ (kq : Nat) (x12_1 : Bool), v12 = .bool x12_1 ∧ Aside0 (disk_named.j0 kq a0 x12_1 = some r) ∧ Aside0 (kq ≤ k) ∧ Drawn0 w wc)
  case first =>
    have H := HC2.out
    clear HC2
    by_cases c3 : (a0.size : Int) = 0
    · rw [if_pos c3] at H
      have c3b0 : ((a0.size : Int) == 0) = true := beq_iff_eq.mpr c3
      have c3b1 : ((a0.size : Int) != 0) = false := bne_eq_false_iff_eq.mpr c3
      clear c3
      (first | rw [c3b0] | (simp only [i64_w, i32_w]; rw [c3b0]) | skip)
      have H' := Aside0.mk H
      clear H
      go_wp2
      go_meet
      case rel => exact ⟨_, (true), (by first | rfl | (simp; done) | (simp [*]; done)), H', ⟨by first | omega | exact Nat.le_refl _⟩, by repeat (first | exact Drawn0.refl _ | apply Drawn0.step)⟩
    · rw [if_neg c3] at H
      have c3b0 : ((a0.size : Int) == 0) = false := beq_eq_false_iff_ne.mpr c3
      have c3b1 : ((a0.size : Int) != 0) = true := bne_iff_ne.mpr c3
      (first | rw [c3b0] | (simp only [i64_w, i32_w]; rw [c3b0]) | skip)
      have H' := Aside0.mk H
      clear H
      go_wp2
      go_meet
      case rel => exact ⟨_, (decide ((a0.size : Int) > 64)), (by first | rfl | (simp; done) | (simp [*]; done)), H', ⟨by first | omega | exact Nat.le_refl _⟩, by repeat (first | exact Drawn0.refl _ | apply Drawn0.step)⟩
  case rest =>
    clear HC2
    try clear p2
    try clear c3
    try clear c3b0
    try clear c3b1
    obtain ⟨kq, x12_1, rfl, HA, HJ1, ⟨mc1, rfl⟩⟩ := hcut
    cases kq with
    | zero => exact absurd HA.out (by simp [disk_named.j0])
    | succ kj1 =>
      have H := HA.out
      clear HA
      simp only [disk_named.j0] at H
      by_cases c4 : x12_1 = true
      · subst c4
        have H1 : (some false) = some r := by rw [if_pos rfl] at H; exact H
        clear H
        have H := H1
        clear H1
        obtain rfl := Option.some.inj H
        go_wp2
        go_ret
        exact ⟨by first | rfl | (simp; done) | (simp [*]; done), by repeat (first | exact Drawn0.refl _ | apply Drawn0.step)⟩
      · replace c4 := Bool.eq_false_iff.mpr c4
        subst c4
        have H1 : (disk_named.l0 kj1 a0 (a0.size : Int) 0) = some r := by rw [if_neg (show ¬ (false = true) by decide)] at H; exact H
        clear H
        have H := H1
        clear H1
        have H' := Aside0.mk H
        clear H
        go_wp2
        go_loopg [15] kj1 (fun kq v15 w' => ∃ (x15_2 : Int), v15 = .int .i64 x15_2 ∧ Aside0 (disk_named.l0 kq a0 (a0.size : Int) x15_2 = some r) ∧ Aside0 (kq ≤ kj1) ∧ Drawn0 w w')
        case atStart => exact ⟨(0), (by first | rfl | (simp; done) | (simp [*]; done)), H', ⟨Nat.le_refl _⟩, by repeat (first | exact Drawn0.refl _ | apply Drawn0.step)⟩
        case round =>
          clear H'
          try clear c1
          try clear p2
          try clear c3
          try clear c3b0
          try clear c3b1
          try clear c4
          try clear p2
          obtain ⟨x15_2, rfl, HA, HK2, ⟨m2, rfl⟩⟩ := hrel
          cases gk with
          | zero => exact absurd HA.out (by simp [disk_named.l0])
          | succ k2 =>
            have H := HA.out
            clear HA
            simp only [disk_named.l0] at H
            by_cases c5 : x15_2 < (a0.size : Int)
            · rw [if_pos c5] at H
              have c5b0 : decide (x15_2 < (a0.size : Int)) = true := decide_eq_true c5
              clear c5
              by_cases c6 : 0 ≤ x15_2
              · rw [if_pos c6] at H
                have c6b0 : decide (0 ≤ x15_2) = true := decide_eq_true c6
                clear c6
                by_cases c7 : x15_2 < (a0.size : Int)
                · rw [if_pos c7] at H
                  have c7b0 : decide (x15_2 < (a0.size : Int)) = true := decide_eq_true c7
                  clear c7
                  by_cases c9 : (bt a0 x15_2) ≥ 97
                  · rw [if_pos c9] at H
                    have c9b0 : decide (97 ≤ (bt a0 x15_2)) = true := decide_eq_true c9
                    clear c9
                    by_cases c10 : (bt a0 x15_2) ≤ 122
                    · rw [if_pos c10] at H
                      have c10b0 : decide ((bt a0 x15_2) ≤ 122) = true := decide_eq_true c10
                      clear c10
                      have H' := Aside0.mk H
                      clear H
                      have p8 : 0 ≤ (x15_2 : Int) := of_decide_eq_true (by first | (with_reducible assumption) | assumption)
                      have q8 : x15_2 < (a0.size : Int) := of_decide_eq_true (by first | (with_reducible assumption) | assumption)
                      have hx8 := bt_at a0 x15_2
                      replace p8 := eq_true p8
                      replace q8 := eq_true q8
                      go_wp2
                      go_roundg k2
                      case measure => have := HJ1.out; have := HK2.out; omega
                      case rel => exact ⟨(wrap64 (x15_2 + 1)), (by first | rfl | (simp; done) | (simp [*]; done)), H', ⟨by have := HJ1.out; have := HK2.out; omega⟩, by repeat (first | exact Drawn0.refl _ | apply Drawn0.step)⟩
                    · rw [if_neg c10] at H
                      have c10b0 : decide ((bt a0 x15_2) ≤ 122) = false := decide_eq_false c10
                      clear c10
                      by_cases c11 : (bt a0 x15_2) ≥ 48
                      · rw [if_pos c11] at H
                        have c11b0 : decide (48 ≤ (bt a0 x15_2)) = true := decide_eq_true c11
                        clear c11
                        by_cases c12 : (bt a0 x15_2) ≤ 57
                        · rw [if_pos c12] at H
                          have c12b0 : decide ((bt a0 x15_2) ≤ 57) = true := decide_eq_true c12
                          clear c12
                          have H' := Aside0.mk H
                          clear H
                          have p8 : 0 ≤ (x15_2 : Int) := of_decide_eq_true (by first | (with_reducible assumption) | assumption)
                          have q8 : x15_2 < (a0.size : Int) := of_decide_eq_true (by first | (with_reducible assumption) | assumption)
                          have hx8 := bt_at a0 x15_2
                          replace p8 := eq_true p8
                          replace q8 := eq_true q8
                          go_wp2
                          go_roundg k2
                          case measure => have := HJ1.out; have := HK2.out; omega
                          case rel => exact ⟨(wrap64 (x15_2 + 1)), (by first | rfl | (simp; done) | (simp [*]; done)), H', ⟨by have := HJ1.out; have := HK2.out; omega⟩, by repeat (first | exact Drawn0.refl _ | apply Drawn0.step)⟩
                        · rw [if_neg c12] at H
                          have c12b0 : decide ((bt a0 x15_2) ≤ 57) = false := decide_eq_false c12
                          clear c12
                          by_cases c13 : (bt a0 x15_2) = 45
                          · rw [if_pos c13] at H
                            have c13b0 : ((bt a0 x15_2) == 45) = true := beq_iff_eq.mpr c13
                            have c13b1 : ((bt a0 x15_2) != 45) = false := bne_eq_false_iff_eq.mpr c13
                            clear c13
                            have H' := Aside0.mk H
                            clear H
                            have p8 : 0 ≤ (x15_2 : Int) := of_decide_eq_true (by first | (with_reducible assumption) | assumption)
                            have q8 : x15_2 < (a0.size : Int) := of_decide_eq_true (by first | (with_reducible assumption) | assumption)
                            have hx8 := bt_at a0 x15_2
                            replace p8 := eq_true p8
                            replace q8 := eq_true q8
                            go_wp2
                            go_roundg k2
                            case measure => have := HJ1.out; have := HK2.out; omega
                            case rel => exact ⟨(wrap64 (x15_2 + 1)), (by first | rfl | (simp; done) | (simp [*]; done)), H', ⟨by have := HJ1.out; have := HK2.out; omega⟩, by repeat (first | exact Drawn0.refl _ | apply Drawn0.step)⟩
                          · rw [if_neg c13] at H
                            have c13b0 : ((bt a0 x15_2) == 45) = false := beq_eq_false_iff_ne.mpr c13
                            have c13b1 : ((bt a0 x15_2) != 45) = true := bne_iff_ne.mpr c13
                            by_cases c14 : ((bt a0 x15_2) = 46)
                            · rw [if_pos c14] at H
                              have c14b0 : ((bt a0 x15_2) == 46) = true := beq_iff_eq.mpr c14
                              have c14b1 : ((bt a0 x15_2) != 46) = false := bne_eq_false_iff_eq.mpr c14
                              clear c14
                              have H' := Aside0.mk H
                              clear H
                              have p8 : 0 ≤ (x15_2 : Int) := of_decide_eq_true (by first | (with_reducible assumption) | assumption)
                              have q8 : x15_2 < (a0.size : Int) := of_decide_eq_true (by first | (with_reducible assumption) | assumption)
                              have hx8 := bt_at a0 x15_2
                              replace p8 := eq_true p8
                              replace q8 := eq_true q8
                              go_wp2
                              go_roundg k2
                              case measure => have := HJ1.out; have := HK2.out; omega
                              case rel => exact ⟨(wrap64 (x15_2 + 1)), (by first | rfl | (simp; done) | (simp [*]; done)), H', ⟨by have := HJ1.out; have := HK2.out; omega⟩, by repeat (first | exact Drawn0.refl _ | apply Drawn0.step)⟩
                            · rw [if_neg c14] at H
                              have c14b0 : ((bt a0 x15_2) == 46) = false := beq_eq_false_iff_ne.mpr c14
                              have c14b1 : ((bt a0 x15_2) != 46) = true := bne_iff_ne.mpr c14
                              obtain rfl := Option.some.inj H
                              have p8 : 0 ≤ (x15_2 : Int) := of_decide_eq_true (by first | (with_reducible assumption) | assumption)
                              have q8 : x15_2 < (a0.size : Int) := of_decide_eq_true (by first | (with_reducible assumption) | assumption)
                              have hx8 := bt_at a0 x15_2
                              replace p8 := eq_true p8
                              replace q8 := eq_true q8
                              go_wp2
                              go_ret
                              exact ⟨by first | rfl | (simp; done) | (simp [*]; done), by repeat (first | exact Drawn0.refl _ | apply Drawn0.step)⟩
                      · rw [if_neg c11] at H
                        have c11b0 : decide (48 ≤ (bt a0 x15_2)) = false := decide_eq_false c11
                        clear c11
                        by_cases c15 : (bt a0 x15_2) = 45
                        · rw [if_pos c15] at H
                          have c15b0 : ((bt a0 x15_2) == 45) = true := beq_iff_eq.mpr c15
                          have c15b1 : ((bt a0 x15_2) != 45) = false := bne_eq_false_iff_eq.mpr c15
                          clear c15
                          have H' := Aside0.mk H
                          clear H
                          have p8 : 0 ≤ (x15_2 : Int) := of_decide_eq_true (by first | (with_reducible assumption) | assumption)
                          have q8 : x15_2 < (a0.size : Int) := of_decide_eq_true (by first | (with_reducible assumption) | assumption)
                          have hx8 := bt_at a0 x15_2
                          replace p8 := eq_true p8
                          replace q8 := eq_true q8
                          go_wp2
                          go_roundg k2
                          case measure => have := HJ1.out; have := HK2.out; omega
                          case rel => exact ⟨(wrap64 (x15_2 + 1)), (by first | rfl | (simp; done) | (simp [*]; done)), H', ⟨by have := HJ1.out; have := HK2.out; omega⟩, by repeat (first | exact Drawn0.refl _ | apply Drawn0.step)⟩
                        · rw [if_neg c15] at H
                          have c15b0 : ((bt a0 x15_2) == 45) = false := beq_eq_false_iff_ne.mpr c15
                          have c15b1 : ((bt a0 x15_2) != 45) = true := bne_iff_ne.mpr c15
                          by_cases c16 : ((bt a0 x15_2) = 46)
                          · rw [if_pos c16] at H
                            have c16b0 : ((bt a0 x15_2) == 46) = true := beq_iff_eq.mpr c16
                            have c16b1 : ((bt a0 x15_2) != 46) = false := bne_eq_false_iff_eq.mpr c16
                            clear c16
                            have H' := Aside0.mk H
                            clear H
                            have p8 : 0 ≤ (x15_2 : Int) := of_decide_eq_true (by first | (with_reducible assumption) | assumption)
                            have q8 : x15_2 < (a0.size : Int) := of_decide_eq_true (by first | (with_reducible assumption) | assumption)
                            have hx8 := bt_at a0 x15_2
                            replace p8 := eq_true p8
                            replace q8 := eq_true q8
                            go_wp2
                            go_roundg k2
                            case measure => have := HJ1.out; have := HK2.out; omega
                            case rel => exact ⟨(wrap64 (x15_2 + 1)), (by first | rfl | (simp; done) | (simp [*]; done)), H', ⟨by have := HJ1.out; have := HK2.out; omega⟩, by repeat (first | exact Drawn0.refl _ | apply Drawn0.step)⟩
                          · rw [if_neg c16] at H
                            have c16b0 : ((bt a0 x15_2) == 46) = false := beq_eq_false_iff_ne.mpr c16
                            have c16b1 : ((bt a0 x15_2) != 46) = true := bne_iff_ne.mpr c16
                            obtain rfl := Option.some.inj H
                            have p8 : 0 ≤ (x15_2 : Int) := of_decide_eq_true (by first | (with_reducible assumption) | assumption)
                            have q8 : x15_2 < (a0.size : Int) := of_decide_eq_true (by first | (with_reducible assumption) | assumption)
                            have hx8 := bt_at a0 x15_2
                            replace p8 := eq_true p8
                            replace q8 := eq_true q8
                            go_wp2
                            go_ret
                            exact ⟨by first | rfl | (simp; done) | (simp [*]; done), by repeat (first | exact Drawn0.refl _ | apply Drawn0.step)⟩
                  · rw [if_neg c9] at H
                    have c9b0 : decide (97 ≤ (bt a0 x15_2)) = false := decide_eq_false c9
                    clear c9
                    by_cases c17 : (bt a0 x15_2) ≥ 48
                    · rw [if_pos c17] at H
                      have c17b0 : decide (48 ≤ (bt a0 x15_2)) = true := decide_eq_true c17
                      clear c17
                      by_cases c18 : (bt a0 x15_2) ≤ 57
                      · rw [if_pos c18] at H
                        have c18b0 : decide ((bt a0 x15_2) ≤ 57) = true := decide_eq_true c18
                        clear c18
                        have H' := Aside0.mk H
                        clear H
                        have p8 : 0 ≤ (x15_2 : Int) := of_decide_eq_true (by first | (with_reducible assumption) | assumption)
                        have q8 : x15_2 < (a0.size : Int) := of_decide_eq_true (by first | (with_reducible assumption) | assumption)
                        have hx8 := bt_at a0 x15_2
                        replace p8 := eq_true p8
                        replace q8 := eq_true q8
                        go_wp2
                        go_roundg k2
                        case measure => have := HJ1.out; have := HK2.out; omega
                        case rel => exact ⟨(wrap64 (x15_2 + 1)), (by first | rfl | (simp; done) | (simp [*]; done)), H', ⟨by have := HJ1.out; have := HK2.out; omega⟩, by repeat (first | exact Drawn0.refl _ | apply Drawn0.step)⟩
                      · rw [if_neg c18] at H
                        have c18b0 : decide ((bt a0 x15_2) ≤ 57) = false := decide_eq_false c18
                        clear c18
                        by_cases c19 : (bt a0 x15_2) = 45
                        · rw [if_pos c19] at H
                          have c19b0 : ((bt a0 x15_2) == 45) = true := beq_iff_eq.mpr c19
                          have c19b1 : ((bt a0 x15_2) != 45) = false := bne_eq_false_iff_eq.mpr c19
                          clear c19
                          have H' := Aside0.mk H
                          clear H
                          have p8 : 0 ≤ (x15_2 : Int) := of_decide_eq_true (by first | (with_reducible assumption) | assumption)
                          have q8 : x15_2 < (a0.size : Int) := of_decide_eq_true (by first | (with_reducible assumption) | assumption)
                          have hx8 := bt_at a0 x15_2
                          replace p8 := eq_true p8
                          replace q8 := eq_true q8
                          go_wp2
                          go_roundg k2
                          case measure => have := HJ1.out; have := HK2.out; omega
                          case rel => exact ⟨(wrap64 (x15_2 + 1)), (by first | rfl | (simp; done) | (simp [*]; done)), H', ⟨by have := HJ1.out; have := HK2.out; omega⟩, by repeat (first | exact Drawn0.refl _ | apply Drawn0.step)⟩
                        · rw [if_neg c19] at H
                          have c19b0 : ((bt a0 x15_2) == 45) = false := beq_eq_false_iff_ne.mpr c19
                          have c19b1 : ((bt a0 x15_2) != 45) = true := bne_iff_ne.mpr c19
                          by_cases c20 : ((bt a0 x15_2) = 46)
                          · rw [if_pos c20] at H
                            have c20b0 : ((bt a0 x15_2) == 46) = true := beq_iff_eq.mpr c20
                            have c20b1 : ((bt a0 x15_2) != 46) = false := bne_eq_false_iff_eq.mpr c20
                            clear c20
                            have H' := Aside0.mk H
                            clear H
                            have p8 : 0 ≤ (x15_2 : Int) := of_decide_eq_true (by first | (with_reducible assumption) | assumption)
                            have q8 : x15_2 < (a0.size : Int) := of_decide_eq_true (by first | (with_reducible assumption) | assumption)
                            have hx8 := bt_at a0 x15_2
                            replace p8 := eq_true p8
                            replace q8 := eq_true q8
                            go_wp2
                            go_roundg k2
                            case measure => have := HJ1.out; have := HK2.out; omega
                            case rel => exact ⟨(wrap64 (x15_2 + 1)), (by first | rfl | (simp; done) | (simp [*]; done)), H', ⟨by have := HJ1.out; have := HK2.out; omega⟩, by repeat (first | exact Drawn0.refl _ | apply Drawn0.step)⟩
                          · rw [if_neg c20] at H
                            have c20b0 : ((bt a0 x15_2) == 46) = false := beq_eq_false_iff_ne.mpr c20
                            have c20b1 : ((bt a0 x15_2) != 46) = true := bne_iff_ne.mpr c20
                            obtain rfl := Option.some.inj H
                            have p8 : 0 ≤ (x15_2 : Int) := of_decide_eq_true (by first | (with_reducible assumption) | assumption)
                            have q8 : x15_2 < (a0.size : Int) := of_decide_eq_true (by first | (with_reducible assumption) | assumption)
                            have hx8 := bt_at a0 x15_2
                            replace p8 := eq_true p8
                            replace q8 := eq_true q8
                            go_wp2
                            go_ret
                            exact ⟨by first | rfl | (simp; done) | (simp [*]; done), by repeat (first | exact Drawn0.refl _ | apply Drawn0.step)⟩
                    · rw [if_neg c17] at H
                      have c17b0 : decide (48 ≤ (bt a0 x15_2)) = false := decide_eq_false c17
                      clear c17
                      by_cases c21 : (bt a0 x15_2) = 45
                      · rw [if_pos c21] at H
                        have c21b0 : ((bt a0 x15_2) == 45) = true := beq_iff_eq.mpr c21
                        have c21b1 : ((bt a0 x15_2) != 45) = false := bne_eq_false_iff_eq.mpr c21
                        clear c21
                        have H' := Aside0.mk H
                        clear H
                        have p8 : 0 ≤ (x15_2 : Int) := of_decide_eq_true (by first | (with_reducible assumption) | assumption)
                        have q8 : x15_2 < (a0.size : Int) := of_decide_eq_true (by first | (with_reducible assumption) | assumption)
                        have hx8 := bt_at a0 x15_2
                        replace p8 := eq_true p8
                        replace q8 := eq_true q8
                        go_wp2
                        go_roundg k2
                        case measure => have := HJ1.out; have := HK2.out; omega
                        case rel => exact ⟨(wrap64 (x15_2 + 1)), (by first | rfl | (simp; done) | (simp [*]; done)), H', ⟨by have := HJ1.out; have := HK2.out; omega⟩, by repeat (first | exact Drawn0.refl _ | apply Drawn0.step)⟩
                      · rw [if_neg c21] at H
                        have c21b0 : ((bt a0 x15_2) == 45) = false := beq_eq_false_iff_ne.mpr c21
                        have c21b1 : ((bt a0 x15_2) != 45) = true := bne_iff_ne.mpr c21
                        by_cases c22 : ((bt a0 x15_2) = 46)
                        · rw [if_pos c22] at H
                          have c22b0 : ((bt a0 x15_2) == 46) = true := beq_iff_eq.mpr c22
                          have c22b1 : ((bt a0 x15_2) != 46) = false := bne_eq_false_iff_eq.mpr c22
                          clear c22
                          have H' := Aside0.mk H
                          clear H
                          have p8 : 0 ≤ (x15_2 : Int) := of_decide_eq_true (by first | (with_reducible assumption) | assumption)
                          have q8 : x15_2 < (a0.size : Int) := of_decide_eq_true (by first | (with_reducible assumption) | assumption)
                          have hx8 := bt_at a0 x15_2
                          replace p8 := eq_true p8
                          replace q8 := eq_true q8
                          go_wp2
                          go_roundg k2
                          case measure => have := HJ1.out; have := HK2.out; omega
                          case rel => exact ⟨(wrap64 (x15_2 + 1)), (by first | rfl | (simp; done) | (simp [*]; done)), H', ⟨by have := HJ1.out; have := HK2.out; omega⟩, by repeat (first | exact Drawn0.refl _ | apply Drawn0.step)⟩
                        · rw [if_neg c22] at H
                          have c22b0 : ((bt a0 x15_2) == 46) = false := beq_eq_false_iff_ne.mpr c22
                          have c22b1 : ((bt a0 x15_2) != 46) = true := bne_iff_ne.mpr c22
                          obtain rfl := Option.some.inj H
                          have p8 : 0 ≤ (x15_2 : Int) := of_decide_eq_true (by first | (with_reducible assumption) | assumption)
                          have q8 : x15_2 < (a0.size : Int) := of_decide_eq_true (by first | (with_reducible assumption) | assumption)
                          have hx8 := bt_at a0 x15_2
                          replace p8 := eq_true p8
                          replace q8 := eq_true q8
                          go_wp2
                          go_ret
                          exact ⟨by first | rfl | (simp; done) | (simp [*]; done), by repeat (first | exact Drawn0.refl _ | apply Drawn0.step)⟩
                · rw [if_neg c7] at H
                  exact absurd H (by simp)
              · rw [if_neg c6] at H
                exact absurd H (by simp)
            · rw [if_neg c5] at H
              have c5b0 : decide (x15_2 < (a0.size : Int)) = false := decide_eq_false c5
              clear c5
              obtain rfl := Option.some.inj H
              go_wp2
              go_ret
              exact ⟨by first | rfl | (simp; done) | (simp [*]; done), by repeat (first | exact Drawn0.refl _ | apply Drawn0.step)⟩

end Go.Proofs.Ytmmiipnmimjojaa.PS
end
section
namespace Go.Proofs.Ytmmiipnmimjojaa.PS
open Go.RowKit Go.Proofs.YtmmiipnmimjojaaW.PrintWords Go.Proofs.YtmmiipnmimjojaaW.PrintLast Go.Proofs.YtmmiipnmimjojaaW.PrintMore
set_option linter.unusedVariables false
set_option linter.unusedSimpArgs false
def okc (c : Int) : Bool := (decide (c ≥ 97) && decide (c ≤ 122)) || (decide (c ≥ 48) && decide (c ≤ 57)) || decide (c = 45) || decide (c = 46)
def allFrom (s : ByteArray) : Nat → Int → Bool
  | 0, _ => true
  | m + 1, i => okc (bt s i) && allFrom s m (i + 1)
def namedB (s : ByteArray) : Bool := decide (1 ≤ s.size) && decide (s.size ≤ 64) && allFrom s s.size 0
theorem okc_if {α : Type} (c : Int) (x y : α) : (if c ≥ 97 then (if c ≤ 122 then x else (if c ≥ 48 then (if c ≤ 57 then x else (if c = 45 then x else (if c = 46 then x else y))) else (if c = 45 then x else (if c = 46 then x else y)))) else (if c ≥ 48 then (if c ≤ 57 then x else (if c = 45 then x else (if c = 46 then x else y))) else (if c = 45 then x else (if c = 46 then x else y)))) = if okc c = true then x else y := by
  unfold okc
  by_cases h1 : c ≥ 97 <;> by_cases h2 : c ≤ 122 <;> by_cases h3 : c ≥ 48 <;> by_cases h4 : c ≤ 57 <;> by_cases h5 : c = 45 <;> by_cases h6 : c = 46 <;> simp [h1, h2, h3, h4, h5, h6] <;> omega
theorem wrap_succ {i : Int} (h0 : 0 ≤ i) (h : i ≤ 9223372036854775806) : wrap64 (i + 1) = i + 1 := by unfold wrap64; omega
theorem named_l0 (s : ByteArray) (hs : s.size ≤ 9223372036854775807) : ∀ (m k : Nat) (i : Int), 0 ≤ i → i + m = s.size → m < k → disk_named.l0 k s (s.size : Int) i = some (allFrom s m i)
  | 0, k + 1, i, h0, h1, _ => by rw [disk_named.l0, if_neg (by omega)]; rfl
  | m + 1, k + 1, i, h0, h1, hk => by
    have ih := named_l0 s hs m k (i + 1) (by omega) (by omega) (by omega)
    rw [disk_named.l0, if_pos (by omega), if_pos h0, if_pos (by omega), wrap_succ h0 (by omega), ih, okc_if, allFrom]
    cases okc (bt s i) <;> simp
theorem named_f (s : ByteArray) (hs : s.size ≤ 9223372036854775807) {k : Nat} (hk : s.size + 1 < k) : disk_named.f k s = some (namedB s) := by
  obtain ⟨k, rfl⟩ : ∃ j, k = j + 1 := ⟨k - 1, by omega⟩
  unfold disk_named.f namedB
  by_cases h0 : (s.size : Int) = 0
  · have : ¬ 1 ≤ s.size := by omega
    rw [if_pos h0, disk_named.j0, if_pos rfl]; simp [this]
  · have h1 : 1 ≤ s.size := by omega
    rw [if_neg h0, disk_named.j0]
    by_cases h2 : (s.size : Int) > 64
    · have : ¬ s.size ≤ 64 := by omega
      rw [if_pos (by simpa using h2)]; simp [this]
    · have h3 : s.size ≤ 64 := by omega
      rw [if_neg (by simpa using h2), named_l0 s hs s.size k 0 (by omega) (by omega) (by omega)]; simp [h1, h3]
theorem rnamed_l0 (s : ByteArray) (hs : s.size ≤ 9223372036854775807) : ∀ (m k : Nat) (i : Int), 0 ≤ i → i + m = s.size → m < k → tollgateref05_Named.l0 k s i = some (allFrom s m i && decide (1 ≤ s.size) && decide (s.size ≤ 64))
  | 0, k + 1, i, h0, h1, _ => by
    rw [tollgateref05_Named.l0, if_neg (by omega), allFrom]
    by_cases h : (s.size : Int) ≥ 1
    · have h' : 1 ≤ s.size := by omega
      rw [if_pos h]; simp [h']; omega
    · have h' : ¬ 1 ≤ s.size := by omega
      rw [if_neg h]; simp [h']
  | m + 1, k + 1, i, h0, h1, hk => by
    have ih := rnamed_l0 s hs m k (i + 1) (by omega) (by omega) (by omega)
    rw [tollgateref05_Named.l0, if_pos (by omega), if_pos h0, wrap_succ h0 (by omega), ih, okc_if, allFrom]
    cases okc (bt s i) <;> simp
theorem rnamed_f (s : ByteArray) (hs : s.size ≤ 9223372036854775807) {k : Nat} (hk : s.size < k) : tollgateref05_Named.f k s = some (namedB s) := by
  unfold tollgateref05_Named.f namedB
  rw [rnamed_l0 s hs s.size k 0 (by omega) (by omega) hk]
  congr 1
  cases allFrom s s.size 0 <;> cases decide (1 ≤ s.size) <;> cases decide (s.size ≤ 64) <;> rfl
theorem named_calls (s : ByteArray) (hs : s.size ≤ 9223372036854775807) (w : World) : Calls Try.prog 57 #[.string s] w fun e w' => e = .returned (.bool (namedB s)) ∧ Drawn0 w w' :=
  disk_named.calls (s.size + 2) s (namedB s) w (named_f s hs (by omega))
theorem rnamed_calls (s : ByteArray) (hs : s.size ≤ 9223372036854775807) (w : World) : Calls Try.prog 24 #[.string s] w fun e w' => e = .returned (.bool (namedB s)) ∧ Drawn0 w w' :=
  tollgateref05_Named.calls (s.size + 2) s (namedB s) w (rnamed_f s hs (by omega))
theorem namedB_size {s : ByteArray} (h : namedB s = true) : s.size ≤ 64 := by
  unfold namedB at h
  simp only [Bool.and_eq_true, decide_eq_true_eq] at h
  exact h.1.2
end Go.Proofs.Ytmmiipnmimjojaa.PS
end
section
namespace Go.Proofs.Ytmmiipnmimjojaa.PS
open Go.RowKit Go.Proofs.YtmmiipnmimjojaaW.PrintWords Go.Proofs.YtmmiipnmimjojaaW.PrintLast Go.Proofs.YtmmiipnmimjojaaW.PrintMore
open Go.Maps Go.Proofs.Ytmmiipnmimjojaa.PD
set_option linter.unusedVariables false
set_option linter.unusedSimpArgs false
section
variable {W w1 wf : World} {S : Nat → Prop} {v : Value} {xs : List Int}
theorem V_new (h : k8.R 5 w1 W.heap.size (fun _ => True) v xs) (hk : ∀ k, W.heap.size ≤ k → k < w1.heap.size → wf.heap[k]? = w1.heap[k]?) (hsz : w1.heap.size ≤ wf.heap.size) : Kd.V k8 5 wf 0 (RO wf (Nw W wf S)) v xs := by
  have h1 := Kd.R_step (Kd.R_bound h) (w1 := wf) (fun k ho hlt => hk k ho.2.1 hlt)
  refine Kd.R_V (Kd.R_mono h1 (fun k ho => ?_))
  obtain ⟨_, hb, hlt, q, hq, cs, hc⟩ := ho
  refine ⟨.inr ⟨hb, by omega⟩, cs, (0, 0), ?_⟩
  rw [hk k hb hlt, hc]
  rcases List.mem_cons.1 hq with rfl | hq
  · rfl
  · cases hq
theorem V_old (h : Kd.V k8 5 W 0 (RO W S) v xs) (hk : ∀ k, k < W.heap.size → S k → U8 W k → wf.heap[k]? = W.heap[k]?) : Kd.V k8 5 wf 0 (RO wf (Nw W wf S)) v xs :=
  Kd.V_map h fun A hF => Kd.F_mono (Kd.F_step (Kd.F_bound hF) (fun k ho hlt => hk k hlt ho.1.1 ho.1.2)) (fun k ho => ⟨.inl ho.1.1, ho.1.2.of_same (hk k ho.2 ho.1.1 ho.1.2)⟩)
end
theorem wr_b {W : World} {S : Nat → Prop} {own : Nat → Nat} {b : Nat} {f : Fil} (h : FilAt W S own b f) : WR W S b := by
  obtain ⟨cs, hh⟩ := h.blk
  exact ⟨h.1, U8.ne hh (by decide)⟩
theorem set_ne {w1 : World} {b i k : Nat} {u : Value} (h : k ≠ b) : (w1.setCell ⟨b, i, none⟩ u).heap[k]? = w1.heap[k]? := Below.heap_setCell _ _ _ k h
theorem set_size {w1 : World} {p : Addr} {u : Value} : (w1.setCell p u).heap.size = w1.heap.size := by simp [World.setCell]
/-- Only block b is written since w1. -/
structure OnlyB (w1 wf : World) (b : Nat) : Prop where
  os : wf.os = w1.os
  tape : wf.tape = w1.tape
  output : wf.output = w1.output
  size : wf.heap.size = w1.heap.size
  block : ∀ k, k ≠ b → wf.heap[k]? = w1.heap[k]?
theorem OnlyB.refl (w1 : World) (b : Nat) : OnlyB w1 w1 b := ⟨rfl, rfl, rfl, rfl, fun _ _ => rfl⟩
theorem OnlyB.set {w1 wf : World} {b : Nat} (h : OnlyB w1 wf b) (i : Nat) (u : Value) : OnlyB w1 (wf.setCell ⟨b, i, none⟩ u) b :=
  ⟨h.os, h.tape, h.output, set_size.trans h.size, fun k hk => (set_ne hk).trans (h.block k hk)⟩
theorem OnlyB.kp {W w1 wf : World} {b : Nat} (h : OnlyB w1 wf b) (hb : Below W.heap.size W w1) : Kp W wf (fun k => k = b) :=
  ⟨h.os.trans hb.os, h.tape.trans hb.tape, h.output.trans hb.output, by rw [h.size]; exact hb.size, fun k hk hn => (h.block k hn).trans (hb.block k hk)⟩
theorem sync_fin {W w1 wf : World} {S : Nat → Prop} {d m : Nat} {own : Nat → Nat} {T : Tb} {room : Int} {n : Nm} {b : Nat} {f : Fil} {vn vs vc v1 : Value} (h : DskIn W S d m own T room) (hm : (n, b, f) ∈ T)
    (hh : W.heap[b]? = some (.cells #[vn, vs, .bool f.f2, vc] 110 (0, 0))) (hn : Kd.V k8 5 W 0 (RO W S) vn f.f0) (hc : ∀ k, vc.ownBlock = some k → own k = b ∧ ∃ cs, W.heap[k]? = some (.cells cs 114 (0, 0)))
    (hb : Below W.heap.size W w1) (hr : k8.R 5 w1 W.heap.size (fun _ => True) v1 f.f0) (hf : wf.heap[b]? = some (.cells #[vn, v1, .bool true, .slice none 0 0] 110 (0, 0))) (ho : OnlyB w1 wf b) :
    Kp W wf (WR W S) ∧ DskIn wf (Nw W wf S) d m (ownN W own b) (aput n (b, ⟨f.f0, f.f0, true, []⟩) T) room := by
  have hfl := h.2.2.2.2.2.1 _ _ _ hm
  have k1 := ho.kp hb
  have hbl := blk_lt hh
  refine ⟨k1.mono (fun k e => by rw [e]; exact wr_b hfl), h.turn hm hh hc (k1.mono fun k e => .inl e) ?_⟩
  refine ⟨.inl hfl.1, by unfold ownN; rw [if_pos hbl]; exact hfl.2.1, _, _, _, hf, ?_, ?_, Kd.N_nil _ _ _ _ _, fun k hk => by cases hk⟩
  · exact V_old hn (fun k hk hS hu => k1.block k hk (fun e => by rw [e] at hu; exact U8.ne hh (by decide) hu))
  · exact V_new hr (fun k h1 h2 => ho.block k (by omega)) (by rw [ho.size]; exact Nat.le_refl _)
set_option maxRecDepth 100000 in
theorem sync1 {W : World} {S : Nat → Prop} {d m : Nat} {own : Nat → Nat} {T : Tb} {room : Int} {n : Nm} {b : Nat} {f : Fil} (h : DskIn W S d m own T room) (hm : (n, b, f) ∈ T) (hl : f.f0.length ≤ 140737488355328) :
    Calls Try.prog 61 #[.pointer (some ⟨b, 0, none⟩)] W fun e w' => ∃ r, e = .returned (.int .i64 r) ∧ r = 0 ∧ Kp W w' (WR W S) ∧ DskIn w' (Nw W w' S) d m (ownN W own b) (aput n (b, ⟨f.f0, f.f0, true, []⟩) T) room := by
  have hf := h.2.2.2.2.2.1 _ _ _ hm
  have hwr := wr_b hf
  obtain ⟨hSb, hob, vn, vs, vc, hh, hn, hs, hc, hown⟩ := hf
  obtain ⟨An, cn, rfl⟩ := Kd.V_slice hn
  have q0 : W.cell? ⟨b, 0, none⟩ = some (.slice An f.f0.length cn) := blk_cell hh 0
  have HN := Aside0.mk hn
  have HH := Aside0.mk hh
  have HC := Aside0.mk hc
  have HO := Aside0.mk hown
  have HW := Aside0.mk hwr
  have HD := Aside0.mk h
  clear hn hh hc hs hown h hwr
  go_enter Try.func61, Try.ntmps61
  go_wp2_with fail
  refine (clone8 An cn f.f0 W (Kd.V_reads' HN.out).2.2 hl).mono ?_
  rintro e w1 ⟨v1, rfl, hr, hb⟩
  have hh1 : w1.heap[b]? = some (.cells #[.slice An f.f0.length cn, vs, .bool f.f2, vc] 110 (0, 0)) := (hb.block _ (blk_lt HH.out)).trans HH.out
  have c1 : w1.cell? ⟨b, 1, none⟩ = some vs := blk_cell hh1 1
  have c2 : w1.cell? ⟨b, 2, none⟩ = some (.bool f.f2) := blk_cell hh1 2
  have c3 : w1.cell? ⟨b, 3, none⟩ = some vc := blk_cell hh1 3
  have f1 := blk_frozen hh1 1
  have f2 := blk_frozen hh1 2
  have f3 := blk_frozen hh1 3
  obtain ⟨Av, cv, rfl⟩ := Kd.R_slice hr
  have HR := Aside0.mk hr
  have HB := Aside0.mk hb
  have H1 := Aside0.mk hh1
  clear hr hb hh1
  go_wp2
  go_ret
  refine ⟨_, rfl, rfl, ?_⟩
  exact sync_fin HD.out hm HH.out HN.out (fun k hk => ⟨(HO.out k hk).2, Kd.N_typed HC.out k hk⟩) HB.out HR.out (blk_set (blk_set (blk_set H1.out 1 _) 2 _) 3 _) ((((OnlyB.refl _ _).set 1 _).set 2 _).set 3 _)
end Go.Proofs.Ytmmiipnmimjojaa.PS
end
section
namespace Go.Proofs.Ytmmiipnmimjojaa.PS
open Go.RowKit Go.Proofs.YtmmiipnmimjojaaW.PrintWords Go.Proofs.YtmmiipnmimjojaaW.PrintLast Go.Proofs.YtmmiipnmimjojaaW.PrintMore
open Go.Maps Go.Proofs.Ytmmiipnmimjojaa.PD
set_option linter.unusedVariables false
set_option linter.unusedSimpArgs false
theorem DskIn.get {W : World} {S : Nat → Prop} {d m : Nat} {own : Nat → Nat} {T : Tb} {room : Int} (h : DskIn W S d m own T room) (n : Nm) : aget n (tblk T) = (aget n T).map fun e => e.1 := aget_map _ _ _
theorem DskAt.in_ {W : World} {S : Nat → Prop} {d : Nat} {D : Dsk} (h : DskAt W S d D) (n : Nm) : ∃ m own T, DskIn W S d m own T D.room ∧ tfil T = D.files ∧ aget n D.files = (aget n T).map fun e => e.2 := by
  obtain ⟨m, own, T, hi, hD⟩ := h
  exact ⟨m, own, T, hi, hD, by rw [← hD]; exact aget_map _ _ _⟩
set_option maxRecDepth 100000 in
theorem with_sync {W : World} {S : Nat → Prop} {d m : Nat} {own : Nat → Nat} {T : Tb} {room : Int} {b : Nat} {f : Fil} {s : ByteArray} {caps : Array Value} {P : Int → World → Prop} (h : DskIn W S d m own T room) (hs : s.size ≤ maxLen) (hg : aget s.data.toList T = some (b, f))
    (hK : Calls Try.prog 61 (#[.pointer (some ⟨b, 0, none⟩)] ++ caps) W fun e w' => ∃ r, e = .returned (.int .i64 r) ∧ P r w') :
    Calls Try.prog 60 #[.pointer (some ⟨d, 0, none⟩), .string s, .func (.func 61) #[] caps] W fun e w' => ∃ r, e = .returned (.int .i64 r) ∧ P r w' := by
  have hc1 : W.cell? ⟨d, 1, none⟩ = some (.map (some m)) := blk_cell h.2.2.1 1
  have hl := h.2.2.2.1.look s hs (some b) (by rw [h.get, hg]; rfl)
  have HK := Aside0.mk hK
  clear hK hg h
  go_enter Try.func60, Try.ntmps60
  go_wp2_with fail
  refine HK.out.mono ?_
  rintro e w' ⟨r, rfl, hp⟩
  have HP := Aside0.mk hp
  clear hp
  go_wp2
  go_ret
  exact ⟨_, rfl, HP.out⟩
set_option maxRecDepth 100000 in
theorem gone_sync {W : World} {S : Nat → Prop} {d m : Nat} {own : Nat → Nat} {T : Tb} {room : Int} {s : ByteArray} {caps : Array Value} (h : DskIn W S d m own T room) (hs : s.size ≤ maxLen) (hg : aget s.data.toList T = none) :
    Calls Try.prog 60 #[.pointer (some ⟨d, 0, none⟩), .string s, .func (.func 61) #[] caps] W fun e w' => e = .returned (.int .i64 8) ∧ w' = W := by
  have hc1 : W.cell? ⟨d, 1, none⟩ = some (.map (some m)) := blk_cell h.2.2.1 1
  have hl := h.2.2.2.1.look s hs none (by rw [h.get, hg]; rfl)
  clear hg h
  go_enter Try.func60, Try.ntmps60
  go_wp2_with fail
  go_ret
  exact ⟨rfl, rfl⟩
set_option maxRecDepth 100000 in
set_option maxRecDepth 100000 in
theorem with_cut {W : World} {S : Nat → Prop} {d m : Nat} {own : Nat → Nat} {T : Tb} {room : Int} {b : Nat} {f : Fil} {s : ByteArray} {caps : Array Value} {P : Int → World → Prop} (h : DskIn W S d m own T room) (hs : s.size ≤ maxLen) (hg : aget s.data.toList T = some (b, f))
    (hK : Calls Try.prog 77 (#[.pointer (some ⟨b, 0, none⟩)] ++ caps) W fun e w' => ∃ r, e = .returned (.int .i64 r) ∧ P r w') :
    Calls Try.prog 60 #[.pointer (some ⟨d, 0, none⟩), .string s, .func (.func 77) #[] caps] W fun e w' => ∃ r, e = .returned (.int .i64 r) ∧ P r w' := by
  have hc1 : W.cell? ⟨d, 1, none⟩ = some (.map (some m)) := blk_cell h.2.2.1 1
  have hl := h.2.2.2.1.look s hs (some b) (by rw [h.get, hg]; rfl)
  have HK := Aside0.mk hK
  clear hK hg h
  go_enter Try.func60, Try.ntmps60
  go_wp2_with fail
  refine HK.out.mono ?_
  rintro e w' ⟨r, rfl, hp⟩
  have HP := Aside0.mk hp
  clear hp
  go_wp2
  go_ret
  exact ⟨_, rfl, HP.out⟩
set_option maxRecDepth 100000 in
theorem gone_cut {W : World} {S : Nat → Prop} {d m : Nat} {own : Nat → Nat} {T : Tb} {room : Int} {s : ByteArray} {caps : Array Value} (h : DskIn W S d m own T room) (hs : s.size ≤ maxLen) (hg : aget s.data.toList T = none) :
    Calls Try.prog 60 #[.pointer (some ⟨d, 0, none⟩), .string s, .func (.func 77) #[] caps] W fun e w' => e = .returned (.int .i64 8) ∧ w' = W := by
  have hc1 : W.cell? ⟨d, 1, none⟩ = some (.map (some m)) := blk_cell h.2.2.1 1
  have hl := h.2.2.2.1.look s hs none (by rw [h.get, hg]; rfl)
  clear hg h
  go_enter Try.func60, Try.ntmps60
  go_wp2_with fail
  go_ret
  exact ⟨rfl, rfl⟩
set_option maxRecDepth 100000 in
set_option maxRecDepth 100000 in
theorem with_rename {W : World} {S : Nat → Prop} {d m : Nat} {own : Nat → Nat} {T : Tb} {room : Int} {b : Nat} {f : Fil} {s : ByteArray} {caps : Array Value} {P : Int → World → Prop} (h : DskIn W S d m own T room) (hs : s.size ≤ maxLen) (hg : aget s.data.toList T = some (b, f))
    (hK : Calls Try.prog 75 (#[.pointer (some ⟨b, 0, none⟩)] ++ caps) W fun e w' => ∃ r, e = .returned (.int .i64 r) ∧ P r w') :
    Calls Try.prog 60 #[.pointer (some ⟨d, 0, none⟩), .string s, .func (.func 75) #[] caps] W fun e w' => ∃ r, e = .returned (.int .i64 r) ∧ P r w' := by
  have hc1 : W.cell? ⟨d, 1, none⟩ = some (.map (some m)) := blk_cell h.2.2.1 1
  have hl := h.2.2.2.1.look s hs (some b) (by rw [h.get, hg]; rfl)
  have HK := Aside0.mk hK
  clear hK hg h
  go_enter Try.func60, Try.ntmps60
  go_wp2_with fail
  refine HK.out.mono ?_
  rintro e w' ⟨r, rfl, hp⟩
  have HP := Aside0.mk hp
  clear hp
  go_wp2
  go_ret
  exact ⟨_, rfl, HP.out⟩
set_option maxRecDepth 100000 in
theorem gone_rename {W : World} {S : Nat → Prop} {d m : Nat} {own : Nat → Nat} {T : Tb} {room : Int} {s : ByteArray} {caps : Array Value} (h : DskIn W S d m own T room) (hs : s.size ≤ maxLen) (hg : aget s.data.toList T = none) :
    Calls Try.prog 60 #[.pointer (some ⟨d, 0, none⟩), .string s, .func (.func 75) #[] caps] W fun e w' => e = .returned (.int .i64 8) ∧ w' = W := by
  have hc1 : W.cell? ⟨d, 1, none⟩ = some (.map (some m)) := blk_cell h.2.2.1 1
  have hl := h.2.2.2.1.look s hs none (by rw [h.get, hg]; rfl)
  clear hg h
  go_enter Try.func60, Try.ntmps60
  go_wp2_with fail
  go_ret
  exact ⟨rfl, rfl⟩
set_option maxRecDepth 100000 in
set_option maxRecDepth 100000 in
theorem with_remove {W : World} {S : Nat → Prop} {d m : Nat} {own : Nat → Nat} {T : Tb} {room : Int} {b : Nat} {f : Fil} {s : ByteArray} {caps : Array Value} {P : Int → World → Prop} (h : DskIn W S d m own T room) (hs : s.size ≤ maxLen) (hg : aget s.data.toList T = some (b, f))
    (hK : Calls Try.prog 76 (#[.pointer (some ⟨b, 0, none⟩)] ++ caps) W fun e w' => ∃ r, e = .returned (.int .i64 r) ∧ P r w') :
    Calls Try.prog 60 #[.pointer (some ⟨d, 0, none⟩), .string s, .func (.func 76) #[] caps] W fun e w' => ∃ r, e = .returned (.int .i64 r) ∧ P r w' := by
  have hc1 : W.cell? ⟨d, 1, none⟩ = some (.map (some m)) := blk_cell h.2.2.1 1
  have hl := h.2.2.2.1.look s hs (some b) (by rw [h.get, hg]; rfl)
  have HK := Aside0.mk hK
  clear hK hg h
  go_enter Try.func60, Try.ntmps60
  go_wp2_with fail
  refine HK.out.mono ?_
  rintro e w' ⟨r, rfl, hp⟩
  have HP := Aside0.mk hp
  clear hp
  go_wp2
  go_ret
  exact ⟨_, rfl, HP.out⟩
set_option maxRecDepth 100000 in
theorem gone_remove {W : World} {S : Nat → Prop} {d m : Nat} {own : Nat → Nat} {T : Tb} {room : Int} {s : ByteArray} {caps : Array Value} (h : DskIn W S d m own T room) (hs : s.size ≤ maxLen) (hg : aget s.data.toList T = none) :
    Calls Try.prog 60 #[.pointer (some ⟨d, 0, none⟩), .string s, .func (.func 76) #[] caps] W fun e w' => e = .returned (.int .i64 8) ∧ w' = W := by
  have hc1 : W.cell? ⟨d, 1, none⟩ = some (.map (some m)) := blk_cell h.2.2.1 1
  have hl := h.2.2.2.1.look s hs none (by rw [h.get, hg]; rfl)
  clear hg h
  go_enter Try.func60, Try.ntmps60
  go_wp2_with fail
  go_ret
  exact ⟨rfl, rfl⟩
set_option maxRecDepth 100000 in
set_option maxRecDepth 100000 in
theorem with_read {W : World} {S : Nat → Prop} {d m : Nat} {own : Nat → Nat} {T : Tb} {room : Int} {b : Nat} {f : Fil} {s : ByteArray} {caps : Array Value} {P : Int → World → Prop} (h : DskIn W S d m own T room) (hs : s.size ≤ maxLen) (hg : aget s.data.toList T = some (b, f))
    (hK : Calls Try.prog 63 (#[.pointer (some ⟨b, 0, none⟩)] ++ caps) W fun e w' => ∃ r, e = .returned (.int .i64 r) ∧ P r w') :
    Calls Try.prog 60 #[.pointer (some ⟨d, 0, none⟩), .string s, .func (.func 63) #[] caps] W fun e w' => ∃ r, e = .returned (.int .i64 r) ∧ P r w' := by
  have hc1 : W.cell? ⟨d, 1, none⟩ = some (.map (some m)) := blk_cell h.2.2.1 1
  have hl := h.2.2.2.1.look s hs (some b) (by rw [h.get, hg]; rfl)
  have HK := Aside0.mk hK
  clear hK hg h
  go_enter Try.func60, Try.ntmps60
  go_wp2_with fail
  refine HK.out.mono ?_
  rintro e w' ⟨r, rfl, hp⟩
  have HP := Aside0.mk hp
  clear hp
  go_wp2
  go_ret
  exact ⟨_, rfl, HP.out⟩
set_option maxRecDepth 100000 in
theorem gone_read {W : World} {S : Nat → Prop} {d m : Nat} {own : Nat → Nat} {T : Tb} {room : Int} {s : ByteArray} {caps : Array Value} (h : DskIn W S d m own T room) (hs : s.size ≤ maxLen) (hg : aget s.data.toList T = none) :
    Calls Try.prog 60 #[.pointer (some ⟨d, 0, none⟩), .string s, .func (.func 63) #[] caps] W fun e w' => e = .returned (.int .i64 8) ∧ w' = W := by
  have hc1 : W.cell? ⟨d, 1, none⟩ = some (.map (some m)) := blk_cell h.2.2.1 1
  have hl := h.2.2.2.1.look s hs none (by rw [h.get, hg]; rfl)
  clear hg h
  go_enter Try.func60, Try.ntmps60
  go_wp2_with fail
  go_ret
  exact ⟨rfl, rfl⟩
set_option maxRecDepth 100000 in
set_option maxRecDepth 100000 in
theorem with_sure {W : World} {S : Nat → Prop} {d m : Nat} {own : Nat → Nat} {T : Tb} {room : Int} {b : Nat} {f : Fil} {s : ByteArray} {caps : Array Value} {P : Int → World → Prop} (h : DskIn W S d m own T room) (hs : s.size ≤ maxLen) (hg : aget s.data.toList T = some (b, f))
    (hK : Calls Try.prog 88 (#[.pointer (some ⟨b, 0, none⟩)] ++ caps) W fun e w' => ∃ r, e = .returned (.int .i64 r) ∧ P r w') :
    Calls Try.prog 60 #[.pointer (some ⟨d, 0, none⟩), .string s, .func (.func 88) #[] caps] W fun e w' => ∃ r, e = .returned (.int .i64 r) ∧ P r w' := by
  have hc1 : W.cell? ⟨d, 1, none⟩ = some (.map (some m)) := blk_cell h.2.2.1 1
  have hl := h.2.2.2.1.look s hs (some b) (by rw [h.get, hg]; rfl)
  have HK := Aside0.mk hK
  clear hK hg h
  go_enter Try.func60, Try.ntmps60
  go_wp2_with fail
  refine HK.out.mono ?_
  rintro e w' ⟨r, rfl, hp⟩
  have HP := Aside0.mk hp
  clear hp
  go_wp2
  go_ret
  exact ⟨_, rfl, HP.out⟩
set_option maxRecDepth 100000 in
theorem gone_sure {W : World} {S : Nat → Prop} {d m : Nat} {own : Nat → Nat} {T : Tb} {room : Int} {s : ByteArray} {caps : Array Value} (h : DskIn W S d m own T room) (hs : s.size ≤ maxLen) (hg : aget s.data.toList T = none) :
    Calls Try.prog 60 #[.pointer (some ⟨d, 0, none⟩), .string s, .func (.func 88) #[] caps] W fun e w' => e = .returned (.int .i64 8) ∧ w' = W := by
  have hc1 : W.cell? ⟨d, 1, none⟩ = some (.map (some m)) := blk_cell h.2.2.1 1
  have hl := h.2.2.2.1.look s hs none (by rw [h.get, hg]; rfl)
  clear hg h
  go_enter Try.func60, Try.ntmps60
  go_wp2_with fail
  go_ret
  exact ⟨rfl, rfl⟩
end Go.Proofs.Ytmmiipnmimjojaa.PS
end
