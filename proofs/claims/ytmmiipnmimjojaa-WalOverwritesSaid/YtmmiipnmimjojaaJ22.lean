/- The texts of this claim's seat, joined: part 22. -/
import Derived.Test.YtmmiipnmimjojaaJ21
section
-- written by wip/mkprint.py of this work
namespace Go.Proofs.Ytmmiipnmimjojaa.PS
open Go.RowKit Go.Proofs.YtmmiipnmimjojaaW.PrintWords Go.Proofs.YtmmiipnmimjojaaW.PrintLast Go.Proofs.YtmmiipnmimjojaaW.PrintMore
attribute [local go_sem] max2_int min2_int max_two min_two max_three min_three max_four min_four   -- for this text's walks alone
set_option linter.unusedVariables false
set_option linter.unusedSimpArgs false

/-! ### wal_number: function 66 -/
mutual
def wal_number.j0 : Nat → ByteArray → Bool → Option (Int)
  | 0, _, _ => none
  | k + 1, x0, x22 => if x22 = true then (some 0) else (wal_number.l0 k x0 0 4)
def wal_number.l0 : Nat → ByteArray → Int → Int → Option (Int)
  | 0, _, _, _ => none
  | k + 1, x0, x3, x4 => if x4 < (x0.size : Int) then (if 0 ≤ x4 then (if (bt x0 x4) < 48 then (some 0) else (if (bt x0 x4) > 57 then (some 0) else (wal_number.l0 k x0 (wrap64 ((wrap64 (10 * x3)) + (((bt x0 x4) - 48) % 256))) (wrap64 (x4 + 1))))) else (none)) else (if x3 > 1099511627776 then (some 0) else (some x3))
end
def wal_number.f (k : Nat) (a0 : ByteArray) : Option (Int) := if (a0.size : Int) < 5 then (wal_number.j0 k a0 true) else (if (a0.size : Int) > 17 then (wal_number.j0 k a0 true) else (if 0 ≤ 4 then (if 4 ≤ (a0.size : Int) then (if (a0.extract 0 4).toList = ([119, 97, 108, 45] : List UInt8) then (if 4 < (a0.size : Int) then (wal_number.j0 k a0 ((bt a0 4) == 48)) else (none)) else (wal_number.j0 k a0 true)) else (none)) else (none)))
theorem wal_number.mono_l : ∀ k, (∀ y0 y1, LeO (wal_number.j0 k y0 y1) (wal_number.j0 (k + 1) y0 y1)) ∧ (∀ y0 y1 y2, LeO (wal_number.l0 k y0 y1 y2) (wal_number.l0 (k + 1) y0 y1 y2))
  | 0 => ⟨fun _ _ r h => by simp [wal_number.j0] at h, fun _ _ _ r h => by simp [wal_number.l0] at h⟩
  | k + 1 => by
    obtain ⟨ih0, ih1⟩ := wal_number.mono_l k
    refine ⟨?_, ?_⟩
    · intro y0 y1
      unfold wal_number.j0
      repeat' first
      | (with_reducible exact ih0 _ _)
      | (with_reducible exact ih1 _ _ _)
      | (with_reducible exact LeO.refl _)
      | (with_reducible exact LeO.none _)
      | (with_reducible refine LeO.ite ?_ ?_)
      | (with_reducible refine LeO.bind ?_ (fun _ => ?_))
      | exact ih0 _ _
      | exact ih1 _ _ _
      | exact LeO.none _
      | refine LeO.ite ?_ ?_
      | refine LeO.bind ?_ (fun _ => ?_)
    · intro y0 y1 y2
      unfold wal_number.l0
      repeat' first
      | (with_reducible exact ih0 _ _)
      | (with_reducible exact ih1 _ _ _)
      | (with_reducible exact LeO.refl _)
      | (with_reducible exact LeO.none _)
      | (with_reducible refine LeO.ite ?_ ?_)
      | (with_reducible refine LeO.bind ?_ (fun _ => ?_))
      | exact ih0 _ _
      | exact ih1 _ _ _
      | exact LeO.none _
      | refine LeO.ite ?_ ?_
      | refine LeO.bind ?_ (fun _ => ?_)
theorem wal_number.mono : ∀ a0 k, LeO (wal_number.f k a0) (wal_number.f (k + 1) a0) := by
  intro a0 k
  obtain ⟨ih0, ih1⟩ := wal_number.mono_l k
  unfold wal_number.f
  repeat' first
      | (with_reducible exact ih0 _ _)
      | (with_reducible exact ih1 _ _ _)
      | (with_reducible exact LeO.refl _)
      | (with_reducible exact LeO.none _)
      | (with_reducible refine LeO.ite ?_ ?_)
      | (with_reducible refine LeO.bind ?_ (fun _ => ?_))
      | exact ih0 _ _
      | exact ih1 _ _ _
      | exact LeO.none _
      | refine LeO.ite ?_ ?_
      | refine LeO.bind ?_ (fun _ => ?_)
set_option maxHeartbeats 8000000 in
set_option maxRecDepth 100000 in
theorem wal_number.calls (k : Nat) (a0 : ByteArray) (r : Int) (w : World) (h : wal_number.f k a0 = some r) :
    Calls Try.prog 66 #[.string a0] w fun e w' => e = .returned (.int .i64 r) ∧ Drawn0 w w' := by
  have H : (if (a0.size : Int) < 5 then (wal_number.j0 k a0 true) else (if (a0.size : Int) > 17 then (wal_number.j0 k a0 true) else (if 0 ≤ 4 then (if 4 ≤ (a0.size : Int) then (if (a0.extract 0 4).toList = ([119, 97, 108, 45] : List UInt8) then (if 4 < (a0.size : Int) then (wal_number.j0 k a0 ((bt a0 4) == 48)) else (none)) else (wal_number.j0 k a0 true)) else (none)) else (none)))) = some r := h
  clear h
  have HC2 := Aside0.mk H
  clear H
  go_enter Try.func66, Try.ntmps66
  go_upto_region 1 with (fail)
  go_cut [22] (fun v22 wc => ∃ (kq : Nat) (x22_1 : Bool), v22 = .bool x22_1 ∧ Aside0 (wal_number.j0 kq a0 x22_1 = some r) ∧ Aside0 (kq ≤ k) ∧ Drawn0 w wc)
  case first =>
    have H := HC2.out
    clear HC2
    by_cases c3 : (a0.size : Int) < 5
    · rw [if_pos c3] at H
      have c3b0 : decide ((a0.size : Int) < 5) = true := decide_eq_true c3
      have c3b1 : decide (a0.size < 5) = true := decide_eq_true (by omega)
      clear c3
      (first | rw [c3b0] | (simp only [i64_w, i32_w]; rw [c3b0]) | skip)
      have H' := Aside0.mk H
      clear H
      go_wp2
      go_meet
      case rel => exact ⟨_, (true), (by first | rfl | (simp; done) | (simp [*]; done)), H', ⟨by first | omega | exact Nat.le_refl _⟩, by repeat (first | exact Drawn0.refl _ | apply Drawn0.step)⟩
    · rw [if_neg c3] at H
      have c3b0 : decide ((a0.size : Int) < 5) = false := decide_eq_false c3
      have c3b1 : decide (a0.size < 5) = false := decide_eq_false (by omega)
      clear c3
      (first | rw [c3b0] | (simp only [i64_w, i32_w]; rw [c3b0]) | skip)
      by_cases c4 : (a0.size : Int) > 17
      · rw [if_pos c4] at H
        have c4b0 : decide (17 < (a0.size : Int)) = true := decide_eq_true c4
        have c4b1 : decide (17 < a0.size) = true := decide_eq_true (by omega)
        clear c4
        have H' := Aside0.mk H
        clear H
        go_wp2
        go_meet
        case rel => exact ⟨_, (true), (by first | rfl | (simp; done) | (simp [*]; done)), H', ⟨by first | omega | exact Nat.le_refl _⟩, by repeat (first | exact Drawn0.refl _ | apply Drawn0.step)⟩
      · rw [if_neg c4] at H
        have c4b0 : decide (17 < (a0.size : Int)) = false := decide_eq_false c4
        have c4b1 : decide (17 < a0.size) = false := decide_eq_false (by omega)
        clear c4
        by_cases c5 : 0 ≤ 4
        · rw [if_pos c5] at H
          have c5b0 := eq_true c5
          have c5b1 : decide (0 ≤ 4) = true := decide_eq_true c5
          clear c5
          by_cases c6 : 4 ≤ (a0.size : Int)
          · rw [if_pos c6] at H
            have c6b0 := eq_true c6
            have c6b1 : decide (4 ≤ (a0.size : Int)) = true := decide_eq_true c6
            clear c6
            by_cases c7 : (a0.extract 0 4).toList = ([119, 97, 108, 45] : List UInt8)
            · rw [if_pos c7] at H
              have c7b0 : ((a0.extract 0 4).toList == ([119, 97, 108, 45] : List UInt8)) = true := beq_iff_eq.mpr c7
              have c7b1 : ((a0.extract 0 4).toList != ([119, 97, 108, 45] : List UInt8)) = false := bne_eq_false_iff_eq.mpr c7
              clear c7
              by_cases c8 : 4 < (a0.size : Int)
              · rw [if_pos c8] at H
                have c8b0 : decide (4 < (a0.size : Int)) = true := decide_eq_true c8
                have c8b1 : decide (4 < a0.size) = true := decide_eq_true (by omega)
                clear c8
                have H' := Aside0.mk H
                clear H
                have p9 : 0 ≤ (4 : Int) := (by omega)
                have q9 : 4 < a0.size := (by have : (4 : Int) < (a0.size : Int) := of_decide_eq_true (by first | (with_reducible assumption) | assumption); omega)
                have hx9 : ∀ h : 4 < a0.size, ((a0[4]'h).toNat : Int) = bt a0 4 := bt_at a0 4
                clear p9
                have qi9 : (4 < (a0.size : Int)) = True := eq_true (of_decide_eq_true (by first | (with_reducible assumption) | assumption))
                replace q9 := eq_true q9
                go_wp2
                go_meet
                case rel => exact ⟨_, (((bt a0 4) == 48)), (by first | rfl | (simp; done) | (simp [*]; done)), H', ⟨by first | omega | exact Nat.le_refl _⟩, by repeat (first | exact Drawn0.refl _ | apply Drawn0.step)⟩
              · rw [if_neg c8] at H
                exact absurd H (by simp)
            · rw [if_neg c7] at H
              have c7b0 : ((a0.extract 0 4).toList == ([119, 97, 108, 45] : List UInt8)) = false := beq_eq_false_iff_ne.mpr c7
              have c7b1 : ((a0.extract 0 4).toList != ([119, 97, 108, 45] : List UInt8)) = true := bne_iff_ne.mpr c7
              have H' := Aside0.mk H
              clear H
              go_wp2
              go_meet
              case rel => exact ⟨_, (true), (by first | rfl | (simp; done) | (simp [*]; done)), H', ⟨by first | omega | exact Nat.le_refl _⟩, by repeat (first | exact Drawn0.refl _ | apply Drawn0.step)⟩
          · rw [if_neg c6] at H
            exact absurd H (by simp)
        · rw [if_neg c5] at H
          exact absurd H (by simp)
  case rest =>
    clear HC2
    try clear p2
    try clear c3
    try clear c3b0
    try clear c3b1
    try clear c4
    try clear c4b0
    try clear c4b1
    try clear c5
    try clear c5b0
    try clear c5b1
    try clear c6
    try clear c6b0
    try clear c6b1
    try clear c7
    try clear c7b0
    try clear c7b1
    try clear c8
    try clear c8b0
    try clear c8b1
    try clear p9
    try clear q9
    try clear hx9
    try clear qi9
    try clear p9
    try clear q9
    obtain ⟨kq, x22_1, rfl, HA, HJ1, ⟨mc1, rfl⟩⟩ := hcut
    cases kq with
    | zero => exact absurd HA.out (by simp [wal_number.j0])
    | succ kj1 =>
      have H := HA.out
      clear HA
      simp only [wal_number.j0] at H
      by_cases c10 : x22_1 = true
      · subst c10
        have H1 : (some 0) = some r := by rw [if_pos rfl] at H; exact H
        clear H
        have H := H1
        clear H1
        obtain rfl := Option.some.inj H
        go_wp2
        go_ret
        exact ⟨by first | rfl | (simp; done) | (simp [*]; done), by repeat (first | exact Drawn0.refl _ | apply Drawn0.step)⟩
      · replace c10 := Bool.eq_false_iff.mpr c10
        subst c10
        have H1 : (wal_number.l0 kj1 a0 0 4) = some r := by rw [if_neg (show ¬ (false = true) by decide)] at H; exact H
        clear H
        have H := H1
        clear H1
        have H' := Aside0.mk H
        clear H
        go_wp2
        go_loopg [3, 4] kj1 (fun kq v3 v4 w' => ∃ (x3_2 : Int) (x4_2 : Int), v3 = .int .i64 x3_2 ∧ v4 = .int .i64 x4_2 ∧ Aside0 (wal_number.l0 kq a0 x3_2 x4_2 = some r) ∧ Aside0 (kq ≤ kj1) ∧ Drawn0 w w')
        case atStart => exact ⟨(0), (4), (by first | rfl | (simp; done) | (simp [*]; done)), (by first | rfl | (simp; done) | (simp [*]; done)), H', ⟨Nat.le_refl _⟩, by repeat (first | exact Drawn0.refl _ | apply Drawn0.step)⟩
        case round =>
          clear H'
          try clear c1
          try clear p2
          try clear c3
          try clear c3b0
          try clear c3b1
          try clear c4
          try clear c4b0
          try clear c4b1
          try clear c5
          try clear c5b0
          try clear c5b1
          try clear c6
          try clear c6b0
          try clear c6b1
          try clear c7
          try clear c7b0
          try clear c7b1
          try clear c8
          try clear c8b0
          try clear c8b1
          try clear p9
          try clear q9
          try clear hx9
          try clear qi9
          try clear c10
          try clear p2
          try clear p9
          try clear q9
          obtain ⟨x3_2, x4_2, rfl, rfl, HA, HK2, ⟨m2, rfl⟩⟩ := hrel
          cases gk with
          | zero => exact absurd HA.out (by simp [wal_number.l0])
          | succ k2 =>
            have H := HA.out
            clear HA
            simp only [wal_number.l0] at H
            by_cases c11 : x4_2 < (a0.size : Int)
            · rw [if_pos c11] at H
              have c11b0 : decide (x4_2 < (a0.size : Int)) = true := decide_eq_true c11
              clear c11
              by_cases c12 : 0 ≤ x4_2
              · rw [if_pos c12] at H
                have c12b0 : decide (0 ≤ x4_2) = true := decide_eq_true c12
                clear c12
                by_cases c14 : (bt a0 x4_2) < 48
                · rw [if_pos c14] at H
                  have c14b0 : decide ((bt a0 x4_2) < 48) = true := decide_eq_true c14
                  clear c14
                  obtain rfl := Option.some.inj H
                  have p13 : 0 ≤ (x4_2 : Int) := of_decide_eq_true (by first | (with_reducible assumption) | assumption)
                  have q13 : x4_2 < (a0.size : Int) := of_decide_eq_true (by first | (with_reducible assumption) | assumption)
                  have hx13 := bt_at a0 x4_2
                  replace p13 := eq_true p13
                  replace q13 := eq_true q13
                  go_wp2
                  go_ret
                  exact ⟨by first | rfl | (simp; done) | (simp [*]; done), by repeat (first | exact Drawn0.refl _ | apply Drawn0.step)⟩
                · rw [if_neg c14] at H
                  have c14b0 : decide ((bt a0 x4_2) < 48) = false := decide_eq_false c14
                  clear c14
                  by_cases c16 : (bt a0 x4_2) > 57
                  · rw [if_pos c16] at H
                    have c16b0 : decide (57 < (bt a0 x4_2)) = true := decide_eq_true c16
                    clear c16
                    obtain rfl := Option.some.inj H
                    have p13 : 0 ≤ (x4_2 : Int) := of_decide_eq_true (by first | (with_reducible assumption) | assumption)
                    have q13 : x4_2 < (a0.size : Int) := of_decide_eq_true (by first | (with_reducible assumption) | assumption)
                    have hx13 := bt_at a0 x4_2
                    replace p13 := eq_true p13
                    replace q13 := eq_true q13
                    have p15 : 0 ≤ (x4_2 : Int) := of_decide_eq_true (by first | (with_reducible assumption) | assumption)
                    have q15 : x4_2 < (a0.size : Int) := of_decide_eq_true (by first | (with_reducible assumption) | assumption)
                    have hx15 := bt_at a0 x4_2
                    replace p15 := eq_true p15
                    replace q15 := eq_true q15
                    go_wp2
                    go_ret
                    exact ⟨by first | rfl | (simp; done) | (simp [*]; done), by repeat (first | exact Drawn0.refl _ | apply Drawn0.step)⟩
                  · rw [if_neg c16] at H
                    have c16b0 : decide (57 < (bt a0 x4_2)) = false := decide_eq_false c16
                    clear c16
                    have H' := Aside0.mk H
                    clear H
                    have p13 : 0 ≤ (x4_2 : Int) := of_decide_eq_true (by first | (with_reducible assumption) | assumption)
                    have q13 : x4_2 < (a0.size : Int) := of_decide_eq_true (by first | (with_reducible assumption) | assumption)
                    have hx13 := bt_at a0 x4_2
                    replace p13 := eq_true p13
                    replace q13 := eq_true q13
                    have p15 : 0 ≤ (x4_2 : Int) := of_decide_eq_true (by first | (with_reducible assumption) | assumption)
                    have q15 : x4_2 < (a0.size : Int) := of_decide_eq_true (by first | (with_reducible assumption) | assumption)
                    have hx15 := bt_at a0 x4_2
                    replace p15 := eq_true p15
                    replace q15 := eq_true q15
                    have p17 : 0 ≤ (x4_2 : Int) := of_decide_eq_true (by first | (with_reducible assumption) | assumption)
                    have q17 : x4_2 < (a0.size : Int) := of_decide_eq_true (by first | (with_reducible assumption) | assumption)
                    have hx17 := bt_at a0 x4_2
                    replace p17 := eq_true p17
                    replace q17 := eq_true q17
                    go_wp2
                    go_roundg k2
                    case measure => have := HJ1.out; have := HK2.out; omega
                    case rel => exact ⟨(wrap64 ((wrap64 (10 * x3_2)) + (((bt a0 x4_2) - 48) % 256))), (wrap64 (x4_2 + 1)), (by first | rfl | (simp; done) | (simp [*]; done)), (by first | rfl | (simp; done) | (simp [*]; done)), H', ⟨by have := HJ1.out; have := HK2.out; omega⟩, by repeat (first | exact Drawn0.refl _ | apply Drawn0.step)⟩
              · rw [if_neg c12] at H
                exact absurd H (by simp)
            · rw [if_neg c11] at H
              have c11b0 : decide (x4_2 < (a0.size : Int)) = false := decide_eq_false c11
              clear c11
              by_cases c18 : x3_2 > 1099511627776
              · rw [if_pos c18] at H
                have c18b0 : decide (1099511627776 < x3_2) = true := decide_eq_true c18
                clear c18
                obtain rfl := Option.some.inj H
                go_wp2
                go_ret
                exact ⟨by first | rfl | (simp; done) | (simp [*]; done), by repeat (first | exact Drawn0.refl _ | apply Drawn0.step)⟩
              · rw [if_neg c18] at H
                have c18b0 : decide (1099511627776 < x3_2) = false := decide_eq_false c18
                clear c18
                obtain rfl := Option.some.inj H
                go_wp2
                go_ret
                exact ⟨by first | rfl | (simp; done) | (simp [*]; done), by repeat (first | exact Drawn0.refl _ | apply Drawn0.step)⟩

end Go.Proofs.Ytmmiipnmimjojaa.PS
end
section
/- The names of logs. -/
namespace Go.Proofs.Ytmmiipnmimjojaa.PS
open Go.RowKit Go.Proofs.YtmmiipnmimjojaaW.PrintWords Go.Proofs.YtmmiipnmimjojaaW.PrintLast Go.Proofs.YtmmiipnmimjojaaW.PrintMore
open Go.Maps Go.Proofs.Ytmmiipnmimjojaa.PD
set_option linter.unusedVariables false
set_option linter.unusedSimpArgs false
/-- A number's figures. -/
def digL : Nat → Int → List UInt8
  | 0, _ => []
  | k + 1, m => if 0 < m then digL k (m / 10) ++ [UInt8.ofNat (48 + (m % 10).toNat)] else []
theorem enc_dig (d : Int) (h0 : 0 ≤ d) (h1 : d < 10) : (Utf8.encode (48 + d)).data.toList = [UInt8.ofNat (48 + d.toNat)] := by
  rcases (show d = 0 ∨ d = 1 ∨ d = 2 ∨ d = 3 ∨ d = 4 ∨ d = 5 ∨ d = 6 ∨ d = 7 ∨ d = 8 ∨ d = 9 by omega) with rfl | rfl | rfl | rfl | rfl | rfl | rfl | rfl | rfl | rfl <;> rfl
theorem ba_append (a b : ByteArray) : (a ++ b).data.toList = a.data.toList ++ b.data.toList := by simp
theorem digB_list : ∀ (k : Nat) (m : Int) (s : ByteArray), (digB k m s).data.toList = digL k m ++ s.data.toList
  | 0, _, s => rfl
  | k + 1, m, s => by
    rw [digB, digL]
    by_cases h : 0 < m
    · rw [if_pos h, if_pos h, digB_list, ba_append, enc_dig _ (by omega) (by omega), List.append_assoc]
    · rw [if_neg h, if_neg h]; rfl
def nm (n : Int) : Nm := (nameB n).data.toList
theorem nm_eq (n : Int) : nm n = [119, 97, 108, 45] ++ digL 14 n := by
  unfold nm nameB
  rw [ba_append, digB_list]
  show _ ++ (digL 14 n ++ []) = _
  rw [List.append_nil]
def valL (l : List UInt8) (a : Int) : Int := l.foldl (fun a c => 10 * a + ((c.toNat : Int) - 48)) a
theorem dig_nat (d : Int) (h0 : 0 ≤ d) (h1 : d < 10) : ((UInt8.ofNat (48 + d.toNat)).toNat : Int) = 48 + d := by
  have : (UInt8.ofNat (48 + d.toNat)).toNat = 48 + d.toNat := by
    simp only [UInt8.toNat_ofNat']
    omega
  omega
theorem digL_val : ∀ (k : Nat) (m : Int), 0 ≤ m → m < 10 ^ k → valL (digL k m) 0 = m
  | 0, m, h0, h1 => by simp at h1; show (0 : Int) = m; omega
  | k + 1, m, h0, h1 => by
    rw [digL]
    by_cases h : 0 < m
    · rw [if_pos h]
      unfold valL
      rw [List.foldl_append]
      have ih := digL_val k (m / 10) (by omega) (by rw [Int.pow_succ] at h1; omega)
      unfold valL at ih
      rw [ih]
      show 10 * (m / 10) + (((UInt8.ofNat (48 + (m % 10).toNat)).toNat : Int) - 48) = m
      rw [dig_nat _ (by omega) (by omega)]
      omega
    · rw [if_neg h]; show (0 : Int) = m; omega
theorem digL_dig : ∀ (k : Nat) (m : Int), ∀ c ∈ digL k m, 48 ≤ (c.toNat : Int) ∧ (c.toNat : Int) ≤ 57
  | 0, _, c, h => by cases h
  | k + 1, m, c, h => by
    rw [digL] at h
    by_cases hm : 0 < m
    · rw [if_pos hm] at h
      rcases List.mem_append.1 h with h | h
      · exact digL_dig k _ c h
      · rw [List.mem_singleton.1 h, dig_nat _ (by omega) (by omega)]; omega
    · rw [if_neg hm] at h; cases h
theorem digL_len : ∀ (j k : Nat) (m : Int), 0 ≤ m → m < 10 ^ j → (digL k m).length ≤ j
  | _, 0, m, _, _ => Nat.zero_le _
  | 0, k + 1, m, h0, h1 => by simp at h1; rw [digL, if_neg (by omega)]; exact Nat.le_refl _
  | j + 1, k + 1, m, h0, h1 => by
    rw [digL]
    by_cases h : 0 < m
    · rw [if_pos h, List.length_append, List.length_singleton]
      have := digL_len j k (m / 10) (by omega) (by rw [Int.pow_succ] at h1; omega)
      omega
    · rw [if_neg h]; exact Nat.zero_le _
theorem digL_head : ∀ (k : Nat) (m : Int), 0 < m → m < 10 ^ (k + 1) → ∃ c l, digL (k + 1) m = c :: l ∧ c.toNat ≠ 48
  | 0, m, h0, h1 => by
    simp at h1
    refine ⟨_, [], by rw [digL, if_pos h0, digL]; rfl, ?_⟩
    have := dig_nat (m % 10) (by omega) (by omega)
    omega
  | k + 1, m, h0, h1 => by
    rw [digL, if_pos h0]
    by_cases h : 0 < m / 10
    · obtain ⟨c, l, hc, hn⟩ := digL_head k (m / 10) h (by rw [Int.pow_succ] at h1; omega)
      exact ⟨c, l ++ [UInt8.ofNat (48 + (m % 10).toNat)], by rw [hc]; rfl, hn⟩
    · rw [digL, if_neg h]
      refine ⟨_, [], rfl, ?_⟩
      have := dig_nat (m % 10) (by omega) (by omega)
      omega
theorem nm_inj {n m : Int} (h0 : 0 ≤ n) (h1 : n ≤ 1099511627776) (k0 : 0 ≤ m) (k1 : m ≤ 1099511627776) (h : nm n = nm m) : n = m := by
  rw [nm_eq, nm_eq] at h
  have h2 := List.append_cancel_left h
  have e1 := digL_val 14 n h0 (by omega)
  have e2 := digL_val 14 m k0 (by omega)
  rw [← e1, ← e2, h2]
theorem bt_list (s : ByteArray) (i : Int) : bt s i = ((s.data.toList.getD i.toNat 0).toNat : Int) := by
  unfold bt
  by_cases h : i.toNat < s.size
  · rw [dif_pos h, List.getD_eq_getElem?_getD, List.getElem?_eq_getElem (by simpa using h)]
    rfl
  · rw [dif_neg h, List.getD_eq_getElem?_getD, List.getElem?_eq_none (by simpa using h)]
    rfl
theorem valL_ge : ∀ (l : List UInt8) (a : Int), 0 ≤ a → (∀ c ∈ l, 48 ≤ (c.toNat : Int) ∧ (c.toNat : Int) ≤ 57) → a ≤ valL l a
  | [], a, _, _ => Int.le_refl _
  | c :: l, a, h0, h => by
    have hc := h c (.head _)
    have := valL_ge l (10 * a + ((c.toNat : Int) - 48)) (by omega) (fun x hx => h x (.tail _ hx))
    show a ≤ valL l (10 * a + ((c.toNat : Int) - 48))
    omega
theorem number_l0' (s : ByteArray) (hs : s.size ≤ 1000) : ∀ (l : List UInt8) (k i : Nat) (a : Int), s.data.toList.drop i = l → i + l.length = s.size → l.length < k → 0 ≤ a → (∀ c ∈ l, 48 ≤ (c.toNat : Int) ∧ (c.toNat : Int) ≤ 57) → valL l a ≤ 1099511627776 →
    wal_number.l0 k s a i = some (valL l a)
  | [], k + 1, i, a, hl, hi, _, h0, _, hv => by
    rw [wal_number.l0, if_neg (by simp at hi; omega), if_neg (by have : valL [] a = a := rfl; omega)]
    rfl
  | c :: l, k + 1, i, a, hl, hi, hk, h0, hd, hv => by
    have hc := hd c (.head _)
    have hbt : bt s i = c.toNat := by
      rw [bt_list, Int.toNat_natCast, List.getD_eq_getElem?_getD]
      have : (s.data.toList.drop i)[0]? = some c := by rw [hl]; rfl
      rw [List.getElem?_drop, Nat.add_zero] at this
      rw [this]; rfl
    have hge := valL_ge l (10 * a + ((c.toNat : Int) - 48)) (by omega) (fun x hx => hd x (.tail _ hx))
    have hv' : valL l (10 * a + ((c.toNat : Int) - 48)) ≤ 1099511627776 := hv
    have hi' : i + (l.length + 1) = s.size := hi
    rw [wal_number.l0, if_pos (by omega), if_pos (by omega), hbt, if_neg (by omega), if_neg (by omega)]
    have e1 : wrap64 (wrap64 (10 * a) + ((c.toNat : Int) - 48) % 256) = 10 * a + ((c.toNat : Int) - 48) := by unfold wrap64; omega
    have e2 : wrap64 ((i : Int) + 1) = ((i + 1 : Nat) : Int) := by unfold wrap64; omega
    rw [e1, e2]
    exact number_l0' s hs l k (i + 1) _ (by rw [← List.drop_drop, hl]; rfl) (by omega) (by simp at hk; omega) (by omega) (fun x hx => hd x (.tail _ hx)) hv'
theorem nm_len {n : Int} (h0 : 1 ≤ n) (h1 : n ≤ 1099511627776) : 5 ≤ (nm n).length ∧ (nm n).length ≤ 17 := by
  rw [nm_eq]
  have l1 := digL_len 13 14 n (by omega) (by omega)
  obtain ⟨c, l, hc, _⟩ := digL_head 13 n (by omega) (by omega)
  rw [List.length_append]
  have : (digL 14 n).length = l.length + 1 := by rw [show (14 : Nat) = 13 + 1 from rfl, hc]; rfl
  simp only [List.length_cons, List.length_nil]
  omega
theorem number_name {n : Int} (h0 : 1 ≤ n) (h1 : n ≤ 1099511627776) : wal_number.f 40 (nameB n) = some n := by
  have hl := nm_len h0 h1
  have hsz : (nameB n).size = (nm n).length := by unfold nm; simp
  obtain ⟨c, l, hc, hcn⟩ := digL_head 13 n (by omega) (by omega)
  have hnm : (nameB n).data.toList = [119, 97, 108, 45] ++ digL 14 n := nm_eq n
  unfold wal_number.f
  rw [if_neg (by omega), if_neg (by omega), if_pos (by decide), if_pos (by omega)]
  have hex : ((nameB n).extract 0 4).toList = [119, 97, 108, 45] := by
    rw [ByteArray.toList_eq]
    have : ((nameB n).extract 0 4).data.toList = (nameB n).data.toList.take 4 := by simp
    rw [this, hnm]; rfl
  rw [if_pos hex, if_pos (by omega)]
  have hb4 : (bt (nameB n) 4 == 48) = false := by
    rw [bt_list, hnm]
    show ((((digL 14 n).getD 0 0).toNat : Int) == 48) = false
    rw [show digL 14 n = c :: l from hc]
    show ((c.toNat : Int) == 48) = false
    exact beq_eq_false_iff_ne.mpr (by omega)
  rw [hb4, wal_number.j0, if_neg (by decide)]
  have hv := digL_val 14 n (by omega) (by omega)
  have := number_l0' (nameB n) (by omega) (digL 14 n) 39 4 0 (by rw [hnm]; rfl) (by rw [hsz, nm_eq, List.length_append]; rfl) (by have := digL_len 13 14 n (by omega) (by omega); omega) (by omega) (digL_dig 14 n) (by rw [hv]; exact h1)
  rw [hv] at this
  exact this
theorem named_name {n : Int} (h0 : 1 ≤ n) (h1 : n ≤ 1099511627776) : namedB (nameB n) = true := by
  have hl := nm_len h0 h1
  have hsz : (nameB n).size = (nm n).length := by unfold nm; simp
  have hnm : (nameB n).data.toList = [119, 97, 108, 45] ++ digL 14 n := nm_eq n
  have hc : ∀ c ∈ (nameB n).data.toList, okc (c.toNat : Int) = true := fun c hc => by
    rw [hnm] at hc
    rcases List.mem_append.1 hc with hc | hc
    · simp at hc
      rcases hc with rfl | rfl | rfl | rfl <;> rfl
    · have := digL_dig 14 n c hc
      unfold okc
      simp; omega
  have hall : ∀ (m : Nat) (i : Nat), i + m ≤ (nameB n).size → allFrom (nameB n) m i = true := by
    intro m
    induction m with
    | zero => intro i _; rfl
    | succ m ih =>
      intro i hi
      have h2 := ih (i + 1) (by omega)
      rw [show ((i + 1 : Nat) : Int) = (i : Int) + 1 by omega] at h2
      rw [allFrom, h2, Bool.and_true, bt_list, Int.toNat_natCast]
      refine hc _ ?_
      rw [List.getD_eq_getElem?_getD, List.getElem?_eq_getElem (by simpa using (show i < (nameB n).size by omega))]
      exact List.getElem_mem _
  unfold namedB
  rw [decide_eq_true (by omega), decide_eq_true (by omega)]
  exact hall _ 0 (by omega)
end Go.Proofs.Ytmmiipnmimjojaa.PS
end
section
/- Words for wal.Open. -/
namespace Go.Proofs.Ytmmiipnmimjojaa.PS
open Go.RowKit Go.Proofs.YtmmiipnmimjojaaW.PrintWords Go.Proofs.YtmmiipnmimjojaaW.PrintLast Go.Proofs.YtmmiipnmimjojaaW.PrintMore
open Go.Maps Go.Proofs.Ytmmiipnmimjojaa.PD
set_option linter.unusedVariables false
set_option linter.unusedSimpArgs false
theorem wnumber_calls {n : Int} (h0 : 1 ≤ n) (h1 : n ≤ 1099511627776) (w : World) : Calls Try.prog 66 #[.string (nameB n)] w fun e w' => e = .returned (.int .i64 n) ∧ Drawn0 w w' :=
  wal_number.calls 40 (nameB n) n w (number_name h0 h1)
/-- The greatest number. -/
def maxL (ks : List Int) : Int := ks.foldl max 0
theorem maxL_snoc (ks : List Int) (k : Int) : maxL (ks ++ [k]) = max (maxL ks) k := by unfold maxL; rw [List.foldl_append]; rfl
theorem maxL_le {b : Int} : ∀ {ks : List Int} {a : Int}, a ≤ b → (∀ k ∈ ks, k ≤ b) → ks.foldl max a ≤ b
  | [], a, ha, _ => ha
  | k :: ks, a, ha, h => maxL_le (ks := ks) (Int.max_le.2 ⟨ha, h k (.head _)⟩) (fun j hj => h j (.tail _ hj))
theorem maxL_ge : ∀ {ks : List Int} {a : Int}, a ≤ ks.foldl max a
  | [], a => Int.le_refl _
  | k :: ks, a => Int.le_trans (Int.le_max_left a k) (maxL_ge (ks := ks) (a := max a k))
theorem maxL_mem : ∀ {ks : List Int} {a : Int}, ∀ k ∈ ks, k ≤ ks.foldl max a
  | k :: ks, a, j, hj => by
    rcases List.mem_cons.1 hj with rfl | hj
    · exact Int.le_trans (Int.le_max_right a j) (maxL_ge (ks := ks))
    · exact maxL_mem (ks := ks) (a := max a k) j hj
/-- Elder logs are removed. -/
def dropL (n : Int) (ks : List Int) (D : Dsk) : Dsk := ks.foldl (fun D k => if k < n then (dRemove D (nameB k)).2 else D) D
theorem dropL_snoc (n : Int) (ks : List Int) (k : Int) (D : Dsk) : dropL n (ks ++ [k]) D = if k < n then (dRemove (dropL n ks D) (nameB k)).2 else dropL n ks D := by unfold dropL; rw [List.foldl_append]; rfl
theorem F_bysG {α : Type} {d : Kd α} {W w' : World} {S S' : Nat → Prop} {L n : Nat} {A : Option Addr} {l : List α} (h : Bys W S w' S' L) (hF : Kd.F d W (fun k => (¬ S k ∧ k ≠ L) ∧ k < W.heap.size) A n l) : Kd.F d w' (fun k => (¬ S' k ∧ k ≠ L) ∧ k < w'.heap.size) A n l :=
  Kd.F_mono (Kd.F_step hF fun k hk hlt => (h.step hlt hk.1.1 hk.1.2).1) (fun k hk => ⟨⟨(h.step hk.2 hk.1.1 hk.1.2).2, hk.1.2⟩, Nat.lt_of_lt_of_le hk.2 h.size⟩)
theorem F_newG {α : Type} {d : Kd α} {e : Nat} {W0 W w3 : World} {S Q : Nat → Prop} {g N L base : Nat} {D : Dsk} {M : LM} {A : Option Addr} {c : Nat} {b : List α} (h : Wl W0 W S Q g N L D M) (hb : W.heap.size ≤ base) (hr : d.R e w3 base (fun _ => True) (.slice A b.length c) b) : Kd.F d w3 (fun k => (¬ S k ∧ k ≠ L) ∧ k < w3.heap.size) A b.length b :=
  Kd.F_mono (Kd.R_F (Kd.R_bound hr)) (fun k hk => ⟨⟨fun hS => by have := (h.dk.2.1 k hS).2; have := hk.2.1; omega, fun e => by have := h.lt; have := hk.2.1; omega⟩, hk.2.2.1⟩)
/-- The file's number is told. -/
theorem Wl.setN {W0 W : World} {S Q : Nat → Prop} {g N L : Nat} {D : Dsk} {M : LM} (h : Wl W0 W S Q g N L D M) (z : Int) (m : Nat) : AfW W0 W S Q g N L D { M with n := z } ((W.drewN m).setCell ⟨L, 6, none⟩ (.int .i64 z)) := by
  obtain ⟨hQ, v, hb, hv⟩ := h.lg
  refine h.setL (M' := { M with n := z }) hv (kp_set ((Kp.refl W (fun k => k = L)).drewN m) 6 _) ?_
  have hb' : (W.drewN m).heap[L]? = some (.cells (lgC g M v) 126 (0, 0)) := hb
  have h1 := blk_set hb' 6 (.int .i64 z)
  rw [h1]
  unfold lgC
  simp
/-- A log that begins. -/
theorem Wl.begin {W0 W : World} {S : Nat → Prop} {g N : Nat} {D : Dsk} (h : Dk W0 W S g N D) (w1 : World) (hw : w1 = W.alloc (.cells #[.pointer (some ⟨g, 0, none⟩), .int .i64 0, .int .i64 0, .int .i64 0, .int .i64 0, .slice none 0 0, .int .i64 0, .int .i64 0] 126)) :
    Wl W0 w1 S (fun k => k = W.heap.size) g N W.heap.size D ⟨0, 0, WS.zero⟩ ∧ Bys W S w1 S W.heap.size := by
  have hb : Below W.heap.size W w1 := by rw [hw]; exact below_alloc (Below.refl _ _) _
  have hbk : w1.heap[W.heap.size]? = some (.cells (lgC g ⟨0, 0, WS.zero⟩ (.slice none 0 0)) 126 (0, 0)) := by rw [hw]; exact blk_new W _
  refine ⟨⟨h.step hb, ⟨rfl, .slice none 0 0, hbk, none, 0, rfl, Nat.zero_le _, Kd.F_nil _ _ _⟩, fun k hk => ?_⟩, Bys.of_below hb⟩
  have h1 := blk_lt hbk
  have h2 := h.1.size
  rw [hk]
  exact ⟨by omega, h1, fun hS => by have := (h.2.1 _ hS).2; omega⟩
theorem run_len : ∀ {rs : List Rc} {s s' : WS}, s.run rs = some s' → s'.es.length ≤ s.es.length + rs.length
  | [], s, s', h => by cases h; exact Nat.le_refl _
  | r :: rs, s, s', h => by
    rw [WS.run] at h
    cases h1 : s.step r with
    | none => rw [h1] at h; cases h
    | some s1 =>
      rw [h1] at h
      have h2 := run_len (rs := rs) (s := s1) (s' := s') h
      have h3 : s1.es.length ≤ s.es.length + 1 := by
        cases r with
        | mark i t => cases h1; exact Nat.zero_le _
        | hard t v => cases h1; exact Nat.le_succ _
        | ent x =>
          replace h1 : (if s.fit x then some (s.add x) else none) = some s1 := h1
          by_cases hf : s.fit x
          · rw [if_pos hf] at h1
            cases h1
            unfold WS.add
            rw [List.length_append, List.length_take, List.length_singleton]
            omega
          · rw [if_neg hf] at h1; cases h1
      rw [List.length_cons]
      omega
/-- Row i of rows of bytes. -/
theorem row_at {w : World} {base c : Nat} {A : Option Addr} {rows : List (List Value)} {qs : List (List Int)} {ok : Nat → Prop} {i : Int} (h1 : (Kd.raw 1).R 22 w base ok (.slice A rows.length c) rows) (h2 : RowsR w base rows qs) (h0 : 0 ≤ i) (hi : i < (rows.length : Int)) :
    ∃ g1 v q, A = some ⟨g1, 0, none⟩ ∧ qs[i.toNat]? = some q ∧ w.cell? ⟨g1, i.toNat, none⟩ = some v ∧ k8.R 5 w base (fun _ => True) v q := by
  obtain ⟨g1, cap, hv, hg, _⟩ := Kd.R_form h1 (by omega)
  injection hv with hA _ hcap
  subst hA
  obtain ⟨cs, hcl, hM, hcc, _⟩ := Kd.R_elem h1 [] i h0 hi
  have hc : rows[i.toNat]? = some cs := by
    have h3 := hM.1
    rw [List.getD_eq_getElem?_getD, List.getElem?_eq_getElem (by omega)] at h3
    rw [List.getElem?_eq_getElem (by omega)]
    exact congrArg some h3.symm
  have key : ∀ (rs : List (List Value)) (ps : List (List Int)) (j : Nat) (c : List Value), RowsR w base rs ps → rs[j]? = some c → ∃ q v, ps[j]? = some q ∧ c = [v] ∧ k8.R 5 w base (fun _ => True) v q := by
    intro rs
    induction rs with
    | nil => intro ps j c _ h; simp at h
    | cons r rs ih =>
      intro ps j c h h'
      cases ps with
      | nil => exact h.elim
      | cons p ps =>
        obtain ⟨⟨v, hr, hR⟩, hrest⟩ := h
        cases j with
        | zero => simp at h'; exact ⟨p, v, rfl, by rw [← h', hr], hR⟩
        | succ j => simpa using ih ps j c hrest (by simpa using h')
  obtain ⟨q, v, hq, hcv, hR⟩ := key rows qs i.toNat cs h2 hc
  have hx := hcc 0 v (by rw [hcv]; rfl)
  rw [show i.toNat * (Kd.raw 1).sz + 0 = i.toNat by show i.toNat * 1 + 0 = i.toNat; omega] at hx
  exact ⟨g1, v, q, rfl, hq, hx, hR⟩
theorem wread_len {N : Nat} {D : Dsk} (h : DInv N D) (s : ByteArray) : (dRead D s).1.length ≤ 262144 ∧ (dSure D s).1.length ≤ 262144 := by
  unfold dRead dSure
  cases hg : aget s.data.toList D.files with
  | none => exact ⟨Nat.zero_le _, Nat.zero_le _⟩
  | some f =>
    refine ⟨(h.get hg).short, ?_⟩
    dsimp only
    split
    · exact (h.get hg).ch.len
    · exact Nat.zero_le _
/-- The state that was read, and its size. -/
theorem Wl.setAll {W0 w : World} {S Q : Nat → Prop} {g N L : Nat} {D : Dsk} {M : LM} {s : WS} {v : Value} (z : Int) (h : Wl W0 w S Q g N L D M) (hV : Kd.V k48 48 w 0 (fun k => Q k ∧ k ≠ L) v s.es) :
    AfW W0 w S Q g N L D ⟨M.n, z, s⟩ ((((((w.setCell ⟨L, 1, none⟩ (.int .i64 s.bi)).setCell ⟨L, 2, none⟩ (.int .i64 s.bt)).setCell ⟨L, 3, none⟩ (.int .i64 s.ht)).setCell ⟨L, 4, none⟩ (.int .i64 s.hv)).setCell ⟨L, 5, none⟩ v).setCell ⟨L, 7, none⟩ (.int .i64 z)) := by
  obtain ⟨A, c, hb, _⟩ := h.cells
  refine h.setL (M' := ⟨M.n, z, s⟩) (v := v) hV ?_ ?_
  · exact kp_set (kp_set (kp_set (kp_set (kp_set (kp_set (Kp.refl w (fun k => k = L)) 1 _) 2 _) 3 _) 4 _) 5 _) 7 _
  · have h3 := blk_set hb 1 (.int .i64 s.bi)
    have h4 := blk_set h3 2 (.int .i64 s.bt)
    have h5 := blk_set h4 3 (.int .i64 s.ht)
    have h6 := blk_set h5 4 (.int .i64 s.hv)
    have h7 := blk_set h6 5 v
    have h8 := blk_set h7 7 (.int .i64 z)
    rw [h8]
    unfold lgC
    simp
theorem open_mid {W0 w6 w : World} {S Q : Nat → Prop} {g N L T c : Nat} {D : Dsk} {M : LM} {A : Option Addr} {l : List S48} (h : Wl W0 w6 S Q g N L D M) (hT : w6.heap.size = T) (hb : Below w6.heap.size w6 w) (hc : l.length ≤ c) (hF : Kd.F k48 w (fun k => T < k) A l.length l) :
    ∃ Q9 : Nat → Prop, Wl W0 w S Q9 g N L D M ∧ Kd.V k48 48 w 0 (fun k => Q9 k ∧ k ≠ L) (.slice A l.length c) l ∧ ∀ k, Q9 k → Q k ∨ T < k := by
  have hl := h.lt
  have hs := h.dk.1.size
  refine ⟨fun k => Q k ∨ (T < k ∧ k < w.heap.size), (h.below hb).more (fun k hk => .inl hk) (fun k hk => ?_), ⟨A, c, rfl, hc, Kd.F_mono (Kd.F_bound hF) (fun k hk => ⟨.inr hk, by have := hk.1; omega⟩)⟩, fun k hk => hk.elim .inl (fun h => .inr h.1)⟩
  rcases hk with hk | ⟨h1, h2⟩
  · exact (h.below hb).q k hk
  · exact ⟨by omega, h2, fun hS => by have := (h.dk.2.1 k hS).2; omega⟩
theorem RowsR.len' {w : World} {base : Nat} {rs : List (List Value)} {qs : List (List Int)} (h : RowsR w base rs qs) : rs.length = qs.length := h.len
end Go.Proofs.Ytmmiipnmimjojaa.PS
end
