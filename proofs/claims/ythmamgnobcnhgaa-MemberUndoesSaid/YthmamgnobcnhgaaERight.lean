import Derived.Test.YthmamgnobcnhgaaEContains
import Derived.Test.YthmamgnobcnhgaaPMx55
namespace Go.Proofs.Ythmamgnobcnhgaa.PM
open Go.RowKit Go.Proofs.YthmamgnobcnhgaaW.PrintWords Go.Proofs.YthmamgnobcnhgaaW.PrintLast Go.Proofs.YthmamgnobcnhgaaW.PrintMore
set_option linter.unusedVariables false
set_option linter.unusedSimpArgs false
theorem wrap64_in {n : Int} (h : -9223372036854775808 ≤ n ∧ n ≤ 9223372036854775807) : wrap64 n = n := by unfold wrap64; omega
/-- Numbers that rise behind p, up to 9. -/
def ups : Int → List Int → Bool
  | _, [] => true
  | p, n :: l => decide (p < n) && decide (n ≤ 9) && ups n l
theorem rd_at {l : List Int} {i : Int} (h0 : 0 ≤ i) (h1 : i < l.length) : l.drop i.toNat = rd l i :: l.drop (i + 1).toNat := by
  have h : i.toNat < l.length := by omega
  unfold rd
  rw [List.drop_eq_getElem_cons h, List.getD_eq_getElem?_getD, List.getElem?_eq_getElem h, show (i + 1).toNat = i.toNat + 1 by omega]
  rfl
theorem rises_l0 (l : List Int) (hl : l.length ≤ 9223372036854775000) : ∀ (m k : Nat) (i : Int), 0 ≤ i → i + m = l.length → m < k → 0 ≤ (if i = 0 then 0 else rd l (i - 1)) → member_rises.l0 k l l l.length i = some (ups (if i = 0 then 0 else rd l (i - 1)) (l.drop i.toNat))
  | 0, k + 1, i, h0, h1, _, _ => by
    rw [member_rises.l0, if_neg (by omega), List.drop_eq_nil_of_le (by omega)]; rfl
  | m + 1, k + 1, i, h0, h1, hk, hp => by
    have hi : i < l.length := by omega
    have ih := rises_l0 l hl m k (i + 1) (by omega) (by omega) (by omega)
    rw [if_neg (by omega), show i + 1 - 1 = i by omega] at ih
    rw [member_rises.l0, if_pos hi, if_pos h0, if_pos hi, rd_at h0 hi, ups]
    by_cases c1 : rd l i < 1
    · rw [if_pos c1]
      have : ¬ ((if i = 0 then 0 else rd l (i - 1)) < rd l i) := by omega
      simp [this]
    · rw [if_neg c1]
      by_cases c2 : rd l i > 9
      · rw [if_pos c2]
        have : ¬ rd l i ≤ 9 := by omega
        simp [this]
      · rw [if_neg c2]
        rw [wrap64_in (n := i + 1) (by omega)]
        by_cases c3 : i > 0
        · rw [if_pos c3, wrap64_in (n := i - 1) (by omega), if_pos (by omega), if_pos (by omega), if_neg (show ¬ i = 0 by omega)]
          by_cases c4 : rd l i ≤ rd l (i - 1)
          · rw [if_pos c4]
            have : ¬ rd l (i - 1) < rd l i := by omega
            simp [this]
          · rw [if_neg c4, ih (by omega)]
            have h1 : rd l (i - 1) < rd l i := by omega
            have h2 : rd l i ≤ 9 := by omega
            simp [h1, h2]
        · rw [if_neg c3, ih (by omega)]
          have hz : i = 0 := by omega
          have h1 : (0 : Int) < rd l i := by omega
          have h2 : rd l i ≤ 9 := by omega
          rw [if_pos hz]
          simp [h1, h2]
theorem rises_f {l : List Int} (hl : l.length ≤ 9223372036854775000) : member_rises.f (l.length + 1) l = some (ups 0 l) := by
  have := rises_l0 l hl l.length (l.length + 1) 0 (by omega) (by omega) (by omega) (by simp)
  simpa [member_rises.f] using this
theorem rises_same (A0 : Option Addr) (c0 : Nat) (l0 : List Int) (w : World) (hr0 : Kd.C (Kd.int .i64) w A0 l0.length l0) (hc0 : l0.length ≤ c0) (hl : l0.length ≤ 9223372036854775000) :
    Calls Try.prog 50 #[.slice A0 l0.length c0] w fun e w' => e = .returned (.bool (ups 0 l0)) ∧ ∃ m, w' = w.drewN m :=
  (member_rises.calls (l0.length + 1) A0 c0 l0 _ w hr0 hc0 (rises_f hl)).mono fun _ _ ⟨he, hd⟩ => ⟨he, hd.out⟩
theorem rises_r (A0 : Option Addr) (c0 : Nat) (l0 : List Int) (w : World) (hr0 : Kd.C (Kd.int .i64) w A0 l0.length l0) (hc0 : l0.length ≤ c0) (hl : l0.length ≤ 9223372036854775000) (r : Bool) (h : ups 0 l0 = r) :
    Calls Try.prog 50 #[.slice A0 l0.length c0] w fun e w' => e = .returned (.bool r) ∧ ∃ m, w' = w.drewN m := by subst h; exact rises_same A0 c0 l0 w hr0 hc0 hl
/-- The first place whose number meets p, or -1. -/
def idxF (p : Int → Bool) : List Int → Int → Int
  | [], _ => -1
  | x :: l, i => if p x = true then i else idxF p l (i + 1)
theorem idxF_any (p : Int → Bool) : ∀ (l : List Int) (i : Int), 0 ≤ i → decide (0 ≤ idxF p l i) = l.any p
  | [], i, h => by simp [idxF]
  | x :: l, i, h => by
    rw [idxF, List.any_cons]
    by_cases hx : p x = true
    · rw [if_pos hx, hx]; simp [h]
    · rw [if_neg hx, idxF_any p l (i + 1) (by omega)]
      have : p x = false := by simpa using hx
      rw [this]; rfl
theorem contains_r (A0 : Option Addr) (c0 : Nat) (l0 : List Int) (a1 : Int) (w : World) (hr0 : Kd.C (Kd.int .i64) w A0 l0.length l0) (r : Bool) (h : l0.contains a1 = r) :
    Calls Try.prog 53 #[.slice A0 l0.length c0, .int .i64 a1] w fun e w' => e = .returned (.bool r) ∧ w' = w := by
  subst h; exact contains_same A0 c0 l0 a1 w hr0
set_option maxHeartbeats 1000000 in
set_option maxRecDepth 100000 in
theorem right1_calls (w : World) (bx : Nat) (A : Option Addr) (c : Nat) (V : List Int) (n : Int) (hb : w.cell? ⟨bx, 0, none⟩ = some (.slice A V.length c)) (hr : Kd.C (Kd.int .i64) w A V.length V) (r : Bool) (h : V.contains n = r) :
    Calls Try.prog 52 #[.int .i64 n, .pointer (some ⟨bx, 0, none⟩)] w fun e w' => e = .returned (.bool r) ∧ w' = w := by
  have HR := Aside0.mk hr
  have HS := Aside0.mk h
  clear hr h
  go_enter Try.func52, Try.ntmps52
  go_wp2_with (go_at_call 53; refine (contains_r _ _ _ _ _ HR.out r HS.out).mono ?_; rintro e w' ⟨rfl, rfl⟩)
  go_ret
  exact ⟨rfl, rfl⟩
set_option maxHeartbeats 1000000 in
set_option maxRecDepth 100000 in
theorem index_right (w : World) (bx : Nat) (A : Option Addr) (c : Nat) (V : List Int) (hb : w.cell? ⟨bx, 0, none⟩ = some (.slice A V.length c)) (hr : Kd.C (Kd.int .i64) w A V.length V)
    (A1 : Option Addr) (c1 : Nat) (L : List Int) (hr1 : Kd.C (Kd.int .i64) w A1 L.length L) (hL : L.length ≤ 9223372036854775000) (R : Int) (hR : idxF (fun n => V.contains n) L 0 = R) :
    Calls Try.prog 69 #[.slice A1 L.length c1, .func (.func 52) #[] #[.pointer (some ⟨bx, 0, none⟩)]] w fun e w' => e = .returned (.int .i64 R) ∧ w' = w := by
  have HR := Aside0.mk hr
  have HR1 := Aside0.mk hr1
  have HS := Aside0.mk hR
  have HB := Aside0.mk hb
  clear hr hr1 hR hb
  go_enter Try.func69, Try.ntmps69
  go_wp2_with fail
  go_loopg [8] L.length (fun kq v8 w' => ∃ i : Int, v8 = .int .i64 i ∧ 0 ≤ i ∧ i + kq = L.length ∧ Aside0 (idxF (fun n => V.contains n) (L.drop i.toNat) i = R) ∧ w' = w)
  case atStart => exact ⟨0, rfl, by omega, by omega, HS, rfl⟩
  case round =>
    obtain ⟨i, rfl, i0, i1, HI, hw⟩ := hrel
    subst hw
    by_cases hi : i < L.length
    · have hb7 : decide (i < (L.length : Int)) = true := by simpa using hi
      obtain ⟨ad, rfl, hcell⟩ := Kd.at_int HR1.out i i0 hi
      obtain ⟨x, hx⟩ : ∃ x, rd L i = x := ⟨_, rfl⟩
      obtain ⟨r, hr⟩ : ∃ r, V.contains x = r := ⟨_, rfl⟩
      have h0 := HI.out
      rw [rd_at i0 hi, idxF, hx] at h0
      rw [hr] at h0
      rw [hx] at hcell
      have HX := Aside0.mk hr
      have H0 := Aside0.mk h0
      clear hr h0 hx HI
      have p0 := eq_true i0
      have p1 := eq_true hi
      cases r with
      | true =>
        go_wp2_with (go_at_call 52; refine (right1_calls _ bx A c V x HB.out HR.out true HX.out).mono ?_; rintro e w' ⟨rfl, rfl⟩)
        go_ret
        have h1 : i = R := by simpa using H0.out
        subst h1
        exact ⟨rfl, rfl⟩
      | false =>
        go_wp2_with (go_at_call 52; refine (right1_calls _ bx A c V x HB.out HR.out false HX.out).mono ?_; rintro e w' ⟨rfl, rfl⟩)
        go_roundg (gk - 1)
        case measure => omega
        case rel => exact ⟨i + 1, rfl, by omega, by omega, ⟨by simpa using H0.out⟩, rfl⟩
    · have hb7 : decide (i < (L.length : Int)) = false := by simpa using hi
      have h0 := HI.out
      rw [List.drop_eq_nil_of_le (by omega), idxF] at h0
      subst h0
      go_wp2
      go_ret
      exact ⟨rfl, rfl⟩
set_option maxHeartbeats 1000000 in
set_option maxRecDepth 100000 in
theorem any_right (w : World) (bx : Nat) (A : Option Addr) (c : Nat) (V : List Int) (hb : w.cell? ⟨bx, 0, none⟩ = some (.slice A V.length c)) (hr : Kd.C (Kd.int .i64) w A V.length V)
    (A1 : Option Addr) (c1 : Nat) (L : List Int) (hr1 : Kd.C (Kd.int .i64) w A1 L.length L) (hL : L.length ≤ 9223372036854775000) (r : Bool) (hR : (L.any fun n => V.contains n) = r) :
    Calls Try.prog 51 #[.slice A1 L.length c1, .func (.func 52) #[] #[.pointer (some ⟨bx, 0, none⟩)]] w fun e w' => e = .returned (.bool r) ∧ w' = w := by
  obtain ⟨R, hI⟩ : ∃ R, idxF (fun n => V.contains n) L 0 = R := ⟨_, rfl⟩
  have hd : decide (0 ≤ R) = r := by rw [← hI, idxF_any _ _ _ (by omega), hR]
  have HR := Aside0.mk hr
  have HR1 := Aside0.mk hr1
  have HI := Aside0.mk hI
  have HB := Aside0.mk hb
  clear hr hr1 hR hb hI
  go_enter Try.func51, Try.ntmps51
  go_wp2_with (go_at_call 69; refine (index_right _ bx A c V HB.out HR.out A1 c1 L HR1.out hL R HI.out).mono ?_; rintro e w' ⟨rfl, rfl⟩)
  go_ret
  exact ⟨rfl, rfl⟩
/-- member.Right -/
def rightB (V L : List Int) : Bool := !(V.length == 0) && ups 0 V && ups 0 L && !(L.any fun n => V.contains n)
def member_Right.f (l0_0 : List Int) (l0_1 : List Int) : Option (Bool) := if l0_0.length ≤ 140737488355328 ∧ l0_1.length ≤ 140737488355328 then some (rightB l0_0 l0_1) else none
set_option maxHeartbeats 2000000 in
set_option maxRecDepth 100000 in
theorem right_core (A0 : Option Addr) (c0 : Nat) (V : List Int) (A1 : Option Addr) (c1 : Nat) (L : List Int) (w : World) (hr0 : Kd.C (Kd.int .i64) w A0 V.length V) (hc0 : V.length ≤ c0) (hr1 : Kd.C (Kd.int .i64) w A1 L.length L) (hc1 : L.length ≤ c1)
    (hV : V.length ≤ 140737488355328) (hL : L.length ≤ 140737488355328) (r : Bool) (hres : rightB V L = r) :
    Calls Try.prog 26 #[.agg #[.slice A0 V.length c0, .slice A1 L.length c1]] w fun e w' => e = .returned (.bool r) ∧ Below w.heap.size w w' := by
  have HS := Aside0.mk hres
  have HR0 := Aside0.mk hr0
  have HR1 := Aside0.mk hr1
  clear hres hr0 hr1
  have HB := Aside0.mk (below_alloc (Below.refl w.heap.size w) (.cells #[.slice A0 V.length c0, .slice A1 L.length c1] 24 (0, 0)))
  have fin : ∀ m, Below w.heap.size w ((w.alloc (.cells #[.slice A0 V.length c0, .slice A1 L.length c1] 24 (0, 0))).drewN m) := fun m => pw_below_drewN HB.out m
  have HF := Aside0.mk fin
  have cl : ∀ m (A : Option Addr) (l : List Int), Kd.C (Kd.int .i64) w A l.length l → Kd.C (Kd.int .i64) ((w.alloc (.cells #[.slice A0 V.length c0, .slice A1 L.length c1] 24 (0, 0))).drewN m) A l.length l := fun m A l h => Kd.C_below h (fin m)
  have HC := Aside0.mk cl
  clear fin cl
  by_cases hz : V.length = 0
  · have hzb : ((V.length : Int) == 0) = true := by simpa using hz
    have hx : r = false := by rw [← HS.out, rightB]; simp [hz]
    have HX := Aside0.mk hx
    clear hx hz
    go_enter Try.func26, Try.ntmps26
    go_wp2
    go_ret
    have hx := HX.out
    subst hx
    exact ⟨rfl, HF.out 0⟩
  · have hzb : ((V.length : Int) == 0) = false := by simpa using hz
    have hzz : (V.length == 0) = false := by simpa using hz
    have HZ := Aside0.mk hzz
    obtain ⟨b1, hb1⟩ : ∃ b, ups 0 V = b := ⟨_, rfl⟩
    obtain ⟨b2, hb2⟩ : ∃ b, ups 0 L = b := ⟨_, rfl⟩
    obtain ⟨b3, hb3⟩ : ∃ b, (L.any fun n => V.contains n) = b := ⟨_, rfl⟩
    have H1 := Aside0.mk hb1
    have H2 := Aside0.mk hb2
    have H3 := Aside0.mk hb3
    clear hb1 hb2 hb3 hz hzz
    go_enter Try.func26, Try.ntmps26
    go_wp2_with fail
    refine (rises_r A0 c0 V _ (HC.out 0 A0 V HR0.out) hc0 (by omega) b1 H1.out).mono ?_
    rintro e w1 ⟨rfl, m1, rfl⟩
    cases b1 with
    | false =>
      go_wp2
      go_ret
      have hx : r = false := by rw [← HS.out, rightB, H1.out]; simp
      subst hx
      exact ⟨rfl, HF.out m1⟩
    | true =>
      go_wp2_with fail
      refine (rises_r A1 c1 L _ (HC.out m1 A1 L HR1.out) hc1 (by omega) b2 H2.out).mono ?_
      rintro e w2 ⟨rfl, m2, hw2⟩
      rw [World.drewN_drewN] at hw2
      subst hw2
      cases b2 with
      | false =>
        go_wp2
        go_ret
        have hx : r = false := by rw [← HS.out, rightB, H2.out]; simp
        subst hx
        exact ⟨rfl, HF.out _⟩
      | true =>
        go_wp2_with fail
        refine (any_right _ w.heap.size A0 c0 V (by simp [go_sem]) (HC.out _ A0 V HR0.out) A1 c1 L (HC.out _ A1 L HR1.out) (by omega) b3 H3.out).mono ?_
        rintro e w3 ⟨rfl, rfl⟩
        go_wp2
        go_ret
        have hx : r = !b3 := by rw [← HS.out, rightB, H1.out, H2.out, H3.out, HZ.out]; simp
        subst hx
        exact ⟨rfl, HF.out _⟩
theorem member_Right.calls (A0_0 : Option Addr) (c0_0 : Nat) (l0_0 : List Int) (A0_1 : Option Addr) (c0_1 : Nat) (l0_1 : List Int) (r : Bool) (w : World) (hr0_0 : Kd.C (Kd.int .i64) w A0_0 l0_0.length l0_0) (hc0_0 : l0_0.length ≤ c0_0) (hr0_1 : Kd.C (Kd.int .i64) w A0_1 l0_1.length l0_1) (hc0_1 : l0_1.length ≤ c0_1) (h : member_Right.f l0_0 l0_1 = some r) :
    Calls Try.prog 26 #[.agg #[.slice A0_0 l0_0.length c0_0, .slice A0_1 l0_1.length c0_1]] w fun e w' => e = .returned (.bool r) ∧ Below w.heap.size w w' := by
  unfold member_Right.f at h
  by_cases hc : l0_0.length ≤ 140737488355328 ∧ l0_1.length ≤ 140737488355328
  · rw [if_pos hc] at h
    exact right_core _ _ _ _ _ _ w hr0_0 hc0_0 hr0_1 hc0_1 hc.1 hc.2 r (Option.some.inj h)
  · rw [if_neg hc] at h; cases h
end Go.Proofs.Ythmamgnobcnhgaa.PM
