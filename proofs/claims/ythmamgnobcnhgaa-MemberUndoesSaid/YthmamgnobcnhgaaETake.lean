import Derived.Test.YthmamgnobcnhgaaPMx0
import Derived.ScopeJumps
import Derived.WalkMore
import Derived.WalkSpells
import Derived.WalkLawsBesides
namespace Go.Proofs.Ythmamgnobcnhgaa.PM
open Go.RowKit Go.Proofs.YthmamgnobcnhgaaW.PrintWords Go.Proofs.YthmamgnobcnhgaaW.PrintLast Go.Proofs.YthmamgnobcnhgaaW.PrintMore
set_option linter.unusedVariables false
set_option linter.unusedSimpArgs false

def okBytes (l : List Int) : Bool := l.all fun x => decide (0 ≤ x) && decide (x < 256)
def takeGo (l : List Int) (at_ : Int) : Nat → Int → Int → Int × Int × Int
  | 0, _, _ => (0, 0, 6)
  | m + 1, k, n =>
    if at_ + k = l.length then (0, 0, 3) else
      if rd l (at_ + k) ≥ 128 then (if k + 1 = 6 then (0, 0, 6) else takeGo l at_ m (k + 1) (n + (rd l (at_ + k) % 128) * 128 ^ k.toNat))
      else if rd l (at_ + k) = 0 ∧ 0 < k then (0, 0, 4)
      else if n + (rd l (at_ + k) % 128) * 128 ^ k.toNat > 1099511627776 then (0, 0, 6)
      else (n + (rd l (at_ + k) % 128) * 128 ^ k.toNat, at_ + k + 1, 0)
def takeNum (l : List Int) (at_ : Int) : Int × Int × Int := if at_ < 0 then (0, 0, 2) else if at_ > l.length then (0, 0, 2) else takeGo l at_ 6 0 0


theorem ofInt_i64 (a : Nat) (ha : a < 9223372036854775808) : (BitVec.ofInt 64 (a : Int)).toNat = a := by
  rw [BitVec.ofInt_natCast, BitVec.toNat_ofNat]; exact Nat.mod_eq_of_lt (by omega)
theorem i64_and_nat (a b : Nat) (ha : a < 9223372036854775808) (hb : b < 9223372036854775808) : bits .and .i64 (a : Int) (b : Int) = ((a &&& b : Nat) : Int) := by
  have hx : a &&& b < 2 ^ 63 := Nat.and_lt_two_pow _ (by omega)
  show IntKind.i64.wrap ((BitVec.ofInt 64 (a : Int) &&& BitVec.ofInt 64 (b : Int)).toNat : Int) = _
  rw [BitVec.toNat_and, ofInt_i64 a ha, ofInt_i64 b hb, IntKind.wrap_i64]
  omega
theorem i64_or_nat (a b : Nat) (ha : a < 9223372036854775808) (hb : b < 9223372036854775808) : bits .or .i64 (a : Int) (b : Int) = ((a ||| b : Nat) : Int) := by
  have hx : a ||| b < 2 ^ 63 := Nat.or_lt_two_pow (by omega) (by omega)
  show IntKind.i64.wrap ((BitVec.ofInt 64 (a : Int) ||| BitVec.ofInt 64 (b : Int)).toNat : Int) = _
  rw [BitVec.toNat_or, ofInt_i64 a ha, ofInt_i64 b hb, IntKind.wrap_i64]
  omega
theorem and127 (c : Int) (h0 : 0 ≤ c) (h1 : c ≤ 9223372036854775807) : bits .and .i64 c 127 = c % 128 := by
  obtain ⟨m, rfl⟩ := Int.eq_ofNat_of_zero_le h0
  have h := i64_and_nat m 127 (by omega) (by omega)
  rw [show ((127 : Nat) : Int) = 127 from rfl] at h
  rw [h, show (127 : Nat) = 2 ^ 7 - 1 from rfl, Nat.and_two_pow_sub_one_eq_mod]
  omega
theorem or_step (i : Nat) (M : Int) (hM : M = ((2 ^ i : Nat) : Int)) (hi : i ≤ 35) (n c : Int) (hn0 : 0 ≤ n) (hn1 : n < M) (h0 : 0 ≤ c) (h1 : c ≤ 255) :
    bits .or .i64 n (wrap64 (bits .and .i64 c 127 * M)) = n + c % 128 * M := by
  have hp : 2 ^ i ≤ 2 ^ 35 := Nat.pow_le_pow_right (by omega) hi
  obtain ⟨m, rfl⟩ := Int.eq_ofNat_of_zero_le hn0
  obtain ⟨d, rfl⟩ := Int.eq_ofNat_of_zero_le h0
  subst hM
  rw [and127 d (by omega) (by omega)]
  have e1 : ((d : Int) % 128 * ((2 ^ i : Nat) : Int)) = ((d % 128 * 2 ^ i : Nat) : Int) := by push_cast; rfl
  have hd : d % 128 * 2 ^ i ≤ 127 * 2 ^ 35 := Nat.mul_le_mul (by omega) hp
  rw [e1]
  have e2 : wrap64 ((d % 128 * 2 ^ i : Nat) : Int) = ((d % 128 * 2 ^ i : Nat) : Int) := by unfold wrap64; omega
  rw [e2, i64_or_nat _ _ (by omega) (by omega)]
  have e3 : m ||| d % 128 * 2 ^ i = m + d % 128 * 2 ^ i := by
    rw [Nat.or_comm, Nat.mul_comm, ← Nat.two_pow_add_eq_or_of_lt (by omega : m < 2 ^ i), Nat.add_comm]
  rw [e3]
  push_cast
  rfl
def J17 (w : World) (l0 : List Int) (A0 : Option Addr) (c0 : Nat) (a1 : Int) (R : Int × Int × Int) (a' : Act) (w' : World) : Prop :=
  w' = w ∧ ∃ (k : Nat) (n : Int) (x0 x1 x2 x3 x4 x5 x6 x7 x8 x9 x10 x11 x12 x13 x14 x15 x16 x17 x18 x19 x20 x21 x22 x23 x24 x25 x26 x27 x28 x29 x30 x31 x32 x33 x34 x35 x36 x37 x38 x39 x40 x41 x42 x43 x44 x45 x46 x47 x48 : Value), k < 6 ∧ a1 + k ≤ l0.length ∧ 0 ≤ n ∧ n < 128 ^ k ∧ takeGo l0 a1 (6 - k) k n = R ∧ a' = { tmps := #[.slice A0 l0.length c0, .int .i64 a1, undef, undef, .int .i64 0, .int .i64 0, .int .i64 0, .int .i64 n, .int .i64 k, x0, x1, x2, x3, x4, x5, x6, x7, x8, x9, x10, x11, x12, x13, x14, x15, x16, x17, x18, x19, x20, x21, x22, x23, x24, x25, x26, x27, x28, x29, x30, x31, x32, x33, x34, x35, x36, x37, x38, x39, x40, x41, x42, x43, x44, x45, x46, x47, x48], defers := [] }

def wire_TakeNumber.f (l0 : List Int) (a1 : Int) : Option (Int × Int × Int) := if okBytes l0 = true ∧ l0.length ≤ 200000000000000 then some (takeNum l0 a1) else none
theorem okBytes_rd {l : List Int} (h : okBytes l = true) (i : Int) : 0 ≤ rd l i ∧ rd l i ≤ 255 := by
  unfold rd
  rcases Nat.lt_or_ge i.toNat l.length with hl | hl
  · have hx : l.getD i.toNat 0 ∈ l := by rw [List.getD_eq_getElem?_getD, List.getElem?_eq_getElem hl]; exact List.getElem_mem hl
    have := List.all_eq_true.1 h _ hx
    simp only [Bool.and_eq_true, decide_eq_true_eq] at this
    omega
  · rw [List.getD_eq_getElem?_getD, List.getElem?_eq_none hl]; simp

section
variable {l : List Int} {at_ k n c : Int} {m : Nat}
theorem tg_short (h : at_ + k = l.length) : takeGo l at_ (m + 1) k n = (0, 0, 3) := by simp only [takeGo]; rw [if_pos h]
theorem tg_more (h : ¬ at_ + k = l.length) (hc : rd l (at_ + k) = c) (h1 : 128 ≤ c) (hk : ¬ k + 1 = 6) : takeGo l at_ (m + 1) k n = takeGo l at_ m (k + 1) (n + c % 128 * 128 ^ k.toNat) := by
  simp only [takeGo]; rw [if_neg h, hc, if_pos h1, if_neg hk]
theorem tg_full (h : ¬ at_ + k = l.length) (hc : rd l (at_ + k) = c) (h1 : 128 ≤ c) (hk : k + 1 = 6) : takeGo l at_ (m + 1) k n = (0, 0, 6) := by
  simp only [takeGo]; rw [if_neg h, hc, if_pos h1, if_pos hk]
theorem tg_form (h : ¬ at_ + k = l.length) (hc : rd l (at_ + k) = c) (h1 : c = 0) (hk : 0 < k) : takeGo l at_ (m + 1) k n = (0, 0, 4) := by
  simp only [takeGo]; rw [if_neg h, hc, if_neg (by omega), if_pos ⟨h1, hk⟩]
theorem tg_limit (h : ¬ at_ + k = l.length) (hc : rd l (at_ + k) = c) (h1 : c < 128) (hz : ¬ (c = 0 ∧ 0 < k)) (hm : n + c % 128 * 128 ^ k.toNat > 1099511627776) : takeGo l at_ (m + 1) k n = (0, 0, 6) := by
  simp only [takeGo]; rw [if_neg h, hc, if_neg (by omega), if_neg hz, if_pos hm]
theorem tg_ok (h : ¬ at_ + k = l.length) (hc : rd l (at_ + k) = c) (h1 : c < 128) (hz : ¬ (c = 0 ∧ 0 < k)) (hm : n + c % 128 * 128 ^ k.toNat ≤ 1099511627776) : takeGo l at_ (m + 1) k n = (n + c % 128 * 128 ^ k.toNat, at_ + k + 1, 0) := by
  simp only [takeGo]; rw [if_neg h, hc, if_neg (by omega), if_neg hz, if_neg (by omega)]
end
theorem ret3 {a b c a' b' c' : Int} (h : (a', b', c') = (a, b, c)) : Ending.returned (.tuple #[.int .i64 a', .int .i64 b', .int .i64 c']) = Ending.returned (.tuple #[.int .i64 a, .int .i64 b, .int .i64 c]) := by
  simp only [Prod.mk.injEq] at h; obtain ⟨rfl, rfl, rfl⟩ := h; rfl
set_option maxHeartbeats 4000000 in
set_option maxRecDepth 100000 in
theorem wire_TakeNumber.core (A0 : Option Addr) (c0 : Nat) (l0 : List Int) (a1 : Int) (r1 : Int) (r2 : Int) (r3 : Int) (w : World) (hr0 : Kd.C (Kd.int .u8) w A0 l0.length l0) (hc0 : l0.length ≤ c0)
   (h0 : 0 ≤ a1) (h1 : a1 ≤ l0.length) (hl : (l0.length : Int) ≤ 200000000000000) (hb : ∀ i, 0 ≤ rd l0 i ∧ rd l0 i ≤ 255) (hR : takeGo l0 a1 6 0 0 = (r1, r2, r3)) :
    Calls Try.prog 66 #[.slice A0 l0.length c0, .int .i64 a1] w fun e w' => e = .returned (.tuple #[.int .i64 r1, .int .i64 r2, .int .i64 r3]) ∧ w = w' := by
  have HG := Aside0.mk hR
  clear hR
  have HB := Aside0.mk hb
  clear hb
  go_enter Try.func66, Try.ntmps66
  go_wp2
  refine wp_scope_jumps 0 (J17 w l0 A0 c0 a1 (r1, r2, r3)) (fun a' _ => 6 - (match a'.tmps.getD 8 undef with | .int _ q => q | _ => 0).toNat) rfl ?_ ?_
  · go_wp2
    go_step3
    rcases (show a1 = (l0.length : Int) ∨ a1 < (l0.length : Int) by omega) with hge | hlt
    · have HF := Aside0.mk (HG.out.symm.trans (tg_short (l := l0) (at_ := a1) (k := 0) (m := 5) (n := 0) (by omega)))
      have hne : (a1 == (l0.length : Int)) = true := by simp; omega
      clear hge
      go_wp2
      simp only [Exit.jump]
      go_ret3
      exact ⟨ret3 HF.out.symm, rfl⟩
    · have hbc := HB.out (a1)
      obtain ⟨ad, rfl, hcell⟩ := Kd.at_int hr0 (a1) (by omega) hlt
      obtain ⟨c, hcc⟩ : ∃ c, rd l0 (a1) = c := ⟨_, rfl⟩
      rw [hcc] at hcell hbc
      clear hr0
      have hne : (a1 == (l0.length : Int)) = false := by simp; omega
      have HO := Aside0.mk (or_step 0 1 (by decide) (by omega) 0 c (by omega) (by omega) hbc.1 hbc.2)
      rcases (show c < 128 ∨ 128 ≤ c by omega) with hc | hc
      · have HF := Aside0.mk (HG.out.symm.trans (tg_ok (l := l0) (at_ := a1) (k := 0) (m := 5) (n := 0) (c := c) (by omega) (by simpa using hcc) hc (by omega) (by simp; omega)))
        have HO' : Aside0 (bits .or .i64 0 (wrap64 (bits .and .i64 c 127)) = c) := ⟨by have := HO.out; rw [Int.mul_one] at this; rw [this]; omega⟩
        have hlim : decide (1099511627776 < bits .or .i64 0 (wrap64 (bits .and .i64 c 127))) = false := by rw [HO'.out]; simp; omega
        clear hcc
        rcases (show c = 0 ∨ 0 < c by omega) with hz | hz
        · have hz0 : (c == 0) = true := by simp; omega
          clear hz
          go_wp2
          simp only [Exit.jump]
          go_ret3
          exact ⟨ret3 (by rw [HF.out, HO'.out]; simp; omega), rfl⟩
        · have hz0 : (c == 0) = false := by simp; omega
          clear hz
          go_wp2
          simp only [Exit.jump]
          go_ret3
          exact ⟨ret3 (by rw [HF.out, HO'.out]; simp; omega), rfl⟩
      · have HF := Aside0.mk (HG.out.symm.trans (tg_more (l := l0) (at_ := a1) (k := 0) (m := 5) (n := 0) (c := c) (by omega) (by simpa using hcc) hc (by omega)))
        have hlt' : a1 + 1 ≤ (l0.length : Int) := by omega
        clear hcc
        go_wp2
        go_step3
        have HO2 : Aside0 (bits .or .i64 0 (wrap64 (bits .and .i64 c 127)) = 0 + c % 128 * 1) := ⟨by have := HO.out; first | exact this | (rw [Int.mul_one] at this; exact this)⟩
        have HJ := Aside0.mk (show True from trivial)
        exact ⟨rfl, ⟨rfl, 1, _, _, _, _, _, _, _, _, _, _, _, _, _, _, _, _, _, _, _, _, _, _, _, _, _, _, _, _, _, _, _, _, _, _, _, _, _, _, _, _, _, _, _, _, _, _, _, _, _, _, by omega, by omega, by rw [HO2.out]; omega, by rw [HO2.out]; simp; omega, by rw [HF.out, HO2.out]; simp, rfl⟩⟩
  · rintro a' w' ⟨rfl, k, n, x0, x1, x2, x3, x4, x5, x6, x7, x8, x9, x10, x11, x12, x13, x14, x15, x16, x17, x18, x19, x20, x21, x22, x23, x24, x25, x26, x27, x28, x29, x30, x31, x32, x33, x34, x35, x36, x37, x38, x39, x40, x41, x42, x43, x44, x45, x46, x47, x48, hk, hk1, hn0, hn1, hG, rfl⟩
    clear HG
    obtain rfl | rfl | rfl | rfl | rfl | rfl : k = 0 ∨ k = 1 ∨ k = 2 ∨ k = 3 ∨ k = 4 ∨ k = 5 := by omega
    · have HG := Aside0.mk hG
      clear hG hk
      have hn : n < 1 := by simpa using hn1
      clear hn1
      obtain rfl : n = 0 := by omega
      rcases (show a1 = (l0.length : Int) ∨ a1 < (l0.length : Int) by omega) with hge | hlt
      · have HF := Aside0.mk (HG.out.symm.trans (tg_short (l := l0) (at_ := a1) (k := 0) (m := 5) (n := 0) (by omega)))
        have hne : (a1 == (l0.length : Int)) = true := by simp; omega
        clear hge
        go_wp2
        simp only [Exit.jump]
        go_ret3
        exact ⟨ret3 HF.out.symm, rfl⟩
      · have hbc := HB.out (a1)
        obtain ⟨ad, rfl, hcell⟩ := Kd.at_int hr0 (a1) (by omega) hlt
        obtain ⟨c, hcc⟩ : ∃ c, rd l0 (a1) = c := ⟨_, rfl⟩
        rw [hcc] at hcell hbc
        clear hr0
        have hne : (a1 == (l0.length : Int)) = false := by simp; omega
        have HO := Aside0.mk (or_step 0 1 (by decide) (by omega) 0 c (by omega) (by omega) hbc.1 hbc.2)
        rcases (show c < 128 ∨ 128 ≤ c by omega) with hc | hc
        · have HF := Aside0.mk (HG.out.symm.trans (tg_ok (l := l0) (at_ := a1) (k := 0) (m := 5) (n := 0) (c := c) (by omega) (by simpa using hcc) hc (by omega) (by simp; omega)))
          have HO' : Aside0 (bits .or .i64 0 (wrap64 (bits .and .i64 c 127)) = c) := ⟨by have := HO.out; rw [Int.mul_one] at this; rw [this]; omega⟩
          have hlim : decide (1099511627776 < bits .or .i64 0 (wrap64 (bits .and .i64 c 127))) = false := by rw [HO'.out]; simp; omega
          clear hcc
          rcases (show c = 0 ∨ 0 < c by omega) with hz | hz
          · have hz0 : (c == 0) = true := by simp; omega
            clear hz
            go_wp2
            simp only [Exit.jump]
            go_ret3
            exact ⟨ret3 (by rw [HF.out, HO'.out]; simp; omega), rfl⟩
          · have hz0 : (c == 0) = false := by simp; omega
            clear hz
            go_wp2
            simp only [Exit.jump]
            go_ret3
            exact ⟨ret3 (by rw [HF.out, HO'.out]; simp; omega), rfl⟩
        · have HF := Aside0.mk (HG.out.symm.trans (tg_more (l := l0) (at_ := a1) (k := 0) (m := 5) (n := 0) (c := c) (by omega) (by simpa using hcc) hc (by omega)))
          have hlt' : a1 + 1 ≤ (l0.length : Int) := by omega
          clear hcc
          go_wp2
          go_step3
          have HO2 : Aside0 (bits .or .i64 0 (wrap64 (bits .and .i64 c 127)) = 0 + c % 128 * 1) := ⟨by have := HO.out; first | exact this | (rw [Int.mul_one] at this; exact this)⟩
          have HJ := Aside0.mk (show True from trivial)
          exact ⟨rfl, ⟨rfl, 1, _, _, _, _, _, _, _, _, _, _, _, _, _, _, _, _, _, _, _, _, _, _, _, _, _, _, _, _, _, _, _, _, _, _, _, _, _, _, _, _, _, _, _, _, _, _, _, _, _, _, by omega, by omega, by rw [HO2.out]; omega, by rw [HO2.out]; simp; omega, by rw [HF.out, HO2.out]; simp, rfl⟩, by simp⟩
    · have HG := Aside0.mk hG
      clear hG hk
      have hn : n < 128 := by simpa using hn1
      clear hn1
      rcases (show a1 + 1 = (l0.length : Int) ∨ a1 + 1 < (l0.length : Int) by omega) with hge | hlt
      · have HF := Aside0.mk (HG.out.symm.trans (tg_short (l := l0) (at_ := a1) (k := 1) (m := 4) (n := n) (by omega)))
        have hne : (a1 + 1 == (l0.length : Int)) = true := by simp; omega
        clear hge
        go_wp2
        simp only [Exit.jump]
        go_ret3
        exact ⟨ret3 HF.out.symm, rfl⟩
      · have hbc := HB.out (a1 + 1)
        obtain ⟨ad, rfl, hcell⟩ := Kd.at_int hr0 (a1 + 1) (by omega) hlt
        obtain ⟨c, hcc⟩ : ∃ c, rd l0 (a1 + 1) = c := ⟨_, rfl⟩
        rw [hcc] at hcell hbc
        clear hr0
        have hne : (a1 + 1 == (l0.length : Int)) = false := by simp; omega
        have HO := Aside0.mk (or_step 7 128 (by decide) (by omega) n c (by omega) (by omega) hbc.1 hbc.2)
        rcases (show c < 128 ∨ 128 ≤ c by omega) with hc | hc
        · rcases (show c = 0 ∨ 0 < c by omega) with hz | hz
          · have HF := Aside0.mk (HG.out.symm.trans (tg_form (l := l0) (at_ := a1) (k := 1) (m := 4) (n := n) (c := c) (by omega) hcc hz (by omega)))
            clear hcc hc HO
            subst hz
            go_wp2
            simp only [Exit.jump]
            go_ret3
            exact ⟨ret3 HF.out.symm, rfl⟩
          · have hz0 : (c == 0) = false := by simp; omega
            rcases (show 1099511627776 < n + c % 128 * 128 ∨ n + c % 128 * 128 ≤ 1099511627776 by omega) with hm | hm
            · have HF := Aside0.mk (HG.out.symm.trans (tg_limit (l := l0) (at_ := a1) (k := 1) (m := 4) (n := n) (c := c) (by omega) hcc hc (by omega) (by simpa using hm)))
              have hlim : decide (1099511627776 < bits .or .i64 n (wrap64 (bits .and .i64 c 127 * 128))) = true := by rw [HO.out]; simpa using hm
              clear hcc hm
              go_wp2
              simp only [Exit.jump]
              go_ret3
              exact ⟨ret3 HF.out.symm, rfl⟩
            · have HF := Aside0.mk (HG.out.symm.trans (tg_ok (l := l0) (at_ := a1) (k := 1) (m := 4) (n := n) (c := c) (by omega) hcc hc (by omega) (by simpa using hm)))
              have hlim : decide (1099511627776 < bits .or .i64 n (wrap64 (bits .and .i64 c 127 * 128))) = false := by rw [HO.out]; simpa using hm
              clear hcc hm
              go_wp2
              simp only [Exit.jump]
              go_ret3
              exact ⟨ret3 (by rw [HF.out, HO.out]; simp; omega), rfl⟩
        · have HF := Aside0.mk (HG.out.symm.trans (tg_more (l := l0) (at_ := a1) (k := 1) (m := 4) (n := n) (c := c) (by omega) hcc hc (by omega)))
          have hlt' : a1 + 1 + 1 ≤ (l0.length : Int) := by omega
          clear hcc
          go_wp2
          go_step3
          have HO2 : Aside0 (bits .or .i64 n (wrap64 (bits .and .i64 c 127 * 128)) = n + c % 128 * 128) := ⟨by have := HO.out; first | exact this | (rw [Int.mul_one] at this; exact this)⟩
          have HJ := Aside0.mk (show True from trivial)
          exact ⟨rfl, ⟨rfl, 2, _, _, _, _, _, _, _, _, _, _, _, _, _, _, _, _, _, _, _, _, _, _, _, _, _, _, _, _, _, _, _, _, _, _, _, _, _, _, _, _, _, _, _, _, _, _, _, _, _, _, by omega, by omega, by rw [HO2.out]; omega, by rw [HO2.out]; simp; omega, by rw [HF.out, HO2.out]; simp, rfl⟩, by simp⟩
    · have HG := Aside0.mk hG
      clear hG hk
      have hn : n < 16384 := by simpa using hn1
      clear hn1
      rcases (show a1 + 2 = (l0.length : Int) ∨ a1 + 2 < (l0.length : Int) by omega) with hge | hlt
      · have HF := Aside0.mk (HG.out.symm.trans (tg_short (l := l0) (at_ := a1) (k := 2) (m := 3) (n := n) (by omega)))
        have hne : (a1 + 2 == (l0.length : Int)) = true := by simp; omega
        clear hge
        go_wp2
        simp only [Exit.jump]
        go_ret3
        exact ⟨ret3 HF.out.symm, rfl⟩
      · have hbc := HB.out (a1 + 2)
        obtain ⟨ad, rfl, hcell⟩ := Kd.at_int hr0 (a1 + 2) (by omega) hlt
        obtain ⟨c, hcc⟩ : ∃ c, rd l0 (a1 + 2) = c := ⟨_, rfl⟩
        rw [hcc] at hcell hbc
        clear hr0
        have hne : (a1 + 2 == (l0.length : Int)) = false := by simp; omega
        have HO := Aside0.mk (or_step 14 16384 (by decide) (by omega) n c (by omega) (by omega) hbc.1 hbc.2)
        rcases (show c < 128 ∨ 128 ≤ c by omega) with hc | hc
        · rcases (show c = 0 ∨ 0 < c by omega) with hz | hz
          · have HF := Aside0.mk (HG.out.symm.trans (tg_form (l := l0) (at_ := a1) (k := 2) (m := 3) (n := n) (c := c) (by omega) hcc hz (by omega)))
            clear hcc hc HO
            subst hz
            go_wp2
            simp only [Exit.jump]
            go_ret3
            exact ⟨ret3 HF.out.symm, rfl⟩
          · have hz0 : (c == 0) = false := by simp; omega
            rcases (show 1099511627776 < n + c % 128 * 16384 ∨ n + c % 128 * 16384 ≤ 1099511627776 by omega) with hm | hm
            · have HF := Aside0.mk (HG.out.symm.trans (tg_limit (l := l0) (at_ := a1) (k := 2) (m := 3) (n := n) (c := c) (by omega) hcc hc (by omega) (by simpa using hm)))
              have hlim : decide (1099511627776 < bits .or .i64 n (wrap64 (bits .and .i64 c 127 * 16384))) = true := by rw [HO.out]; simpa using hm
              clear hcc hm
              go_wp2
              simp only [Exit.jump]
              go_ret3
              exact ⟨ret3 HF.out.symm, rfl⟩
            · have HF := Aside0.mk (HG.out.symm.trans (tg_ok (l := l0) (at_ := a1) (k := 2) (m := 3) (n := n) (c := c) (by omega) hcc hc (by omega) (by simpa using hm)))
              have hlim : decide (1099511627776 < bits .or .i64 n (wrap64 (bits .and .i64 c 127 * 16384))) = false := by rw [HO.out]; simpa using hm
              clear hcc hm
              go_wp2
              simp only [Exit.jump]
              go_ret3
              exact ⟨ret3 (by rw [HF.out, HO.out]; simp; omega), rfl⟩
        · have HF := Aside0.mk (HG.out.symm.trans (tg_more (l := l0) (at_ := a1) (k := 2) (m := 3) (n := n) (c := c) (by omega) hcc hc (by omega)))
          have hlt' : a1 + 2 + 1 ≤ (l0.length : Int) := by omega
          clear hcc
          go_wp2
          go_step3
          have HO2 : Aside0 (bits .or .i64 n (wrap64 (bits .and .i64 c 127 * 16384)) = n + c % 128 * 16384) := ⟨by have := HO.out; first | exact this | (rw [Int.mul_one] at this; exact this)⟩
          have HJ := Aside0.mk (show True from trivial)
          exact ⟨rfl, ⟨rfl, 3, _, _, _, _, _, _, _, _, _, _, _, _, _, _, _, _, _, _, _, _, _, _, _, _, _, _, _, _, _, _, _, _, _, _, _, _, _, _, _, _, _, _, _, _, _, _, _, _, _, _, by omega, by omega, by rw [HO2.out]; omega, by rw [HO2.out]; simp; omega, by rw [HF.out, HO2.out]; simp, rfl⟩, by simp⟩
    · have HG := Aside0.mk hG
      clear hG hk
      have hn : n < 2097152 := by simpa using hn1
      clear hn1
      rcases (show a1 + 3 = (l0.length : Int) ∨ a1 + 3 < (l0.length : Int) by omega) with hge | hlt
      · have HF := Aside0.mk (HG.out.symm.trans (tg_short (l := l0) (at_ := a1) (k := 3) (m := 2) (n := n) (by omega)))
        have hne : (a1 + 3 == (l0.length : Int)) = true := by simp; omega
        clear hge
        go_wp2
        simp only [Exit.jump]
        go_ret3
        exact ⟨ret3 HF.out.symm, rfl⟩
      · have hbc := HB.out (a1 + 3)
        obtain ⟨ad, rfl, hcell⟩ := Kd.at_int hr0 (a1 + 3) (by omega) hlt
        obtain ⟨c, hcc⟩ : ∃ c, rd l0 (a1 + 3) = c := ⟨_, rfl⟩
        rw [hcc] at hcell hbc
        clear hr0
        have hne : (a1 + 3 == (l0.length : Int)) = false := by simp; omega
        have HO := Aside0.mk (or_step 21 2097152 (by decide) (by omega) n c (by omega) (by omega) hbc.1 hbc.2)
        rcases (show c < 128 ∨ 128 ≤ c by omega) with hc | hc
        · rcases (show c = 0 ∨ 0 < c by omega) with hz | hz
          · have HF := Aside0.mk (HG.out.symm.trans (tg_form (l := l0) (at_ := a1) (k := 3) (m := 2) (n := n) (c := c) (by omega) hcc hz (by omega)))
            clear hcc hc HO
            subst hz
            go_wp2
            simp only [Exit.jump]
            go_ret3
            exact ⟨ret3 HF.out.symm, rfl⟩
          · have hz0 : (c == 0) = false := by simp; omega
            rcases (show 1099511627776 < n + c % 128 * 2097152 ∨ n + c % 128 * 2097152 ≤ 1099511627776 by omega) with hm | hm
            · have HF := Aside0.mk (HG.out.symm.trans (tg_limit (l := l0) (at_ := a1) (k := 3) (m := 2) (n := n) (c := c) (by omega) hcc hc (by omega) (by simpa using hm)))
              have hlim : decide (1099511627776 < bits .or .i64 n (wrap64 (bits .and .i64 c 127 * 2097152))) = true := by rw [HO.out]; simpa using hm
              clear hcc hm
              go_wp2
              simp only [Exit.jump]
              go_ret3
              exact ⟨ret3 HF.out.symm, rfl⟩
            · have HF := Aside0.mk (HG.out.symm.trans (tg_ok (l := l0) (at_ := a1) (k := 3) (m := 2) (n := n) (c := c) (by omega) hcc hc (by omega) (by simpa using hm)))
              have hlim : decide (1099511627776 < bits .or .i64 n (wrap64 (bits .and .i64 c 127 * 2097152))) = false := by rw [HO.out]; simpa using hm
              clear hcc hm
              go_wp2
              simp only [Exit.jump]
              go_ret3
              exact ⟨ret3 (by rw [HF.out, HO.out]; simp; omega), rfl⟩
        · have HF := Aside0.mk (HG.out.symm.trans (tg_more (l := l0) (at_ := a1) (k := 3) (m := 2) (n := n) (c := c) (by omega) hcc hc (by omega)))
          have hlt' : a1 + 3 + 1 ≤ (l0.length : Int) := by omega
          clear hcc
          go_wp2
          go_step3
          have HO2 : Aside0 (bits .or .i64 n (wrap64 (bits .and .i64 c 127 * 2097152)) = n + c % 128 * 2097152) := ⟨by have := HO.out; first | exact this | (rw [Int.mul_one] at this; exact this)⟩
          have HJ := Aside0.mk (show True from trivial)
          exact ⟨rfl, ⟨rfl, 4, _, _, _, _, _, _, _, _, _, _, _, _, _, _, _, _, _, _, _, _, _, _, _, _, _, _, _, _, _, _, _, _, _, _, _, _, _, _, _, _, _, _, _, _, _, _, _, _, _, _, by omega, by omega, by rw [HO2.out]; omega, by rw [HO2.out]; simp; omega, by rw [HF.out, HO2.out]; simp, rfl⟩, by simp⟩
    · have HG := Aside0.mk hG
      clear hG hk
      have hn : n < 268435456 := by simpa using hn1
      clear hn1
      rcases (show a1 + 4 = (l0.length : Int) ∨ a1 + 4 < (l0.length : Int) by omega) with hge | hlt
      · have HF := Aside0.mk (HG.out.symm.trans (tg_short (l := l0) (at_ := a1) (k := 4) (m := 1) (n := n) (by omega)))
        have hne : (a1 + 4 == (l0.length : Int)) = true := by simp; omega
        clear hge
        go_wp2
        simp only [Exit.jump]
        go_ret3
        exact ⟨ret3 HF.out.symm, rfl⟩
      · have hbc := HB.out (a1 + 4)
        obtain ⟨ad, rfl, hcell⟩ := Kd.at_int hr0 (a1 + 4) (by omega) hlt
        obtain ⟨c, hcc⟩ : ∃ c, rd l0 (a1 + 4) = c := ⟨_, rfl⟩
        rw [hcc] at hcell hbc
        clear hr0
        have hne : (a1 + 4 == (l0.length : Int)) = false := by simp; omega
        have HO := Aside0.mk (or_step 28 268435456 (by decide) (by omega) n c (by omega) (by omega) hbc.1 hbc.2)
        rcases (show c < 128 ∨ 128 ≤ c by omega) with hc | hc
        · rcases (show c = 0 ∨ 0 < c by omega) with hz | hz
          · have HF := Aside0.mk (HG.out.symm.trans (tg_form (l := l0) (at_ := a1) (k := 4) (m := 1) (n := n) (c := c) (by omega) hcc hz (by omega)))
            clear hcc hc HO
            subst hz
            go_wp2
            simp only [Exit.jump]
            go_ret3
            exact ⟨ret3 HF.out.symm, rfl⟩
          · have hz0 : (c == 0) = false := by simp; omega
            rcases (show 1099511627776 < n + c % 128 * 268435456 ∨ n + c % 128 * 268435456 ≤ 1099511627776 by omega) with hm | hm
            · have HF := Aside0.mk (HG.out.symm.trans (tg_limit (l := l0) (at_ := a1) (k := 4) (m := 1) (n := n) (c := c) (by omega) hcc hc (by omega) (by simpa using hm)))
              have hlim : decide (1099511627776 < bits .or .i64 n (wrap64 (bits .and .i64 c 127 * 268435456))) = true := by rw [HO.out]; simpa using hm
              clear hcc hm
              go_wp2
              simp only [Exit.jump]
              go_ret3
              exact ⟨ret3 HF.out.symm, rfl⟩
            · have HF := Aside0.mk (HG.out.symm.trans (tg_ok (l := l0) (at_ := a1) (k := 4) (m := 1) (n := n) (c := c) (by omega) hcc hc (by omega) (by simpa using hm)))
              have hlim : decide (1099511627776 < bits .or .i64 n (wrap64 (bits .and .i64 c 127 * 268435456))) = false := by rw [HO.out]; simpa using hm
              clear hcc hm
              go_wp2
              simp only [Exit.jump]
              go_ret3
              exact ⟨ret3 (by rw [HF.out, HO.out]; simp; omega), rfl⟩
        · have HF := Aside0.mk (HG.out.symm.trans (tg_more (l := l0) (at_ := a1) (k := 4) (m := 1) (n := n) (c := c) (by omega) hcc hc (by omega)))
          have hlt' : a1 + 4 + 1 ≤ (l0.length : Int) := by omega
          clear hcc
          go_wp2
          go_step3
          have HO2 : Aside0 (bits .or .i64 n (wrap64 (bits .and .i64 c 127 * 268435456)) = n + c % 128 * 268435456) := ⟨by have := HO.out; first | exact this | (rw [Int.mul_one] at this; exact this)⟩
          have HJ := Aside0.mk (show True from trivial)
          exact ⟨rfl, ⟨rfl, 5, _, _, _, _, _, _, _, _, _, _, _, _, _, _, _, _, _, _, _, _, _, _, _, _, _, _, _, _, _, _, _, _, _, _, _, _, _, _, _, _, _, _, _, _, _, _, _, _, _, _, by omega, by omega, by rw [HO2.out]; omega, by rw [HO2.out]; simp; omega, by rw [HF.out, HO2.out]; simp, rfl⟩, by simp⟩
    · have HG := Aside0.mk hG
      clear hG hk
      have hn : n < 34359738368 := by simpa using hn1
      clear hn1
      rcases (show a1 + 5 = (l0.length : Int) ∨ a1 + 5 < (l0.length : Int) by omega) with hge | hlt
      · have HF := Aside0.mk (HG.out.symm.trans (tg_short (l := l0) (at_ := a1) (k := 5) (m := 0) (n := n) (by omega)))
        have hne : (a1 + 5 == (l0.length : Int)) = true := by simp; omega
        clear hge
        go_wp2
        simp only [Exit.jump]
        go_ret3
        exact ⟨ret3 HF.out.symm, rfl⟩
      · have hbc := HB.out (a1 + 5)
        obtain ⟨ad, rfl, hcell⟩ := Kd.at_int hr0 (a1 + 5) (by omega) hlt
        obtain ⟨c, hcc⟩ : ∃ c, rd l0 (a1 + 5) = c := ⟨_, rfl⟩
        rw [hcc] at hcell hbc
        clear hr0
        have hne : (a1 + 5 == (l0.length : Int)) = false := by simp; omega
        have HO := Aside0.mk (or_step 35 34359738368 (by decide) (by omega) n c (by omega) (by omega) hbc.1 hbc.2)
        rcases (show c < 128 ∨ 128 ≤ c by omega) with hc | hc
        · rcases (show c = 0 ∨ 0 < c by omega) with hz | hz
          · have HF := Aside0.mk (HG.out.symm.trans (tg_form (l := l0) (at_ := a1) (k := 5) (m := 0) (n := n) (c := c) (by omega) hcc hz (by omega)))
            clear hcc hc HO
            subst hz
            go_wp2
            simp only [Exit.jump]
            go_ret3
            exact ⟨ret3 HF.out.symm, rfl⟩
          · have hz0 : (c == 0) = false := by simp; omega
            rcases (show 1099511627776 < n + c % 128 * 34359738368 ∨ n + c % 128 * 34359738368 ≤ 1099511627776 by omega) with hm | hm
            · have HF := Aside0.mk (HG.out.symm.trans (tg_limit (l := l0) (at_ := a1) (k := 5) (m := 0) (n := n) (c := c) (by omega) hcc hc (by omega) (by simpa using hm)))
              have hlim : decide (1099511627776 < bits .or .i64 n (wrap64 (bits .and .i64 c 127 * 34359738368))) = true := by rw [HO.out]; simpa using hm
              clear hcc hm
              go_wp2
              simp only [Exit.jump]
              go_ret3
              exact ⟨ret3 HF.out.symm, rfl⟩
            · have HF := Aside0.mk (HG.out.symm.trans (tg_ok (l := l0) (at_ := a1) (k := 5) (m := 0) (n := n) (c := c) (by omega) hcc hc (by omega) (by simpa using hm)))
              have hlim : decide (1099511627776 < bits .or .i64 n (wrap64 (bits .and .i64 c 127 * 34359738368))) = false := by rw [HO.out]; simpa using hm
              clear hcc hm
              go_wp2
              simp only [Exit.jump]
              go_ret3
              exact ⟨ret3 (by rw [HF.out, HO.out]; simp; omega), rfl⟩
        · have HF := Aside0.mk (HG.out.symm.trans (tg_full (l := l0) (at_ := a1) (k := 5) (m := 0) (n := n) (c := c) (by omega) hcc hc (by omega)))
          clear hcc
          go_wp2
          simp only [Exit.jump]
          go_ret3
          exact ⟨ret3 HF.out.symm, rfl⟩
theorem wire_TakeNumber.early (A0 : Option Addr) (c0 : Nat) (l0 : List Int) (a1 : Int) (w : World) (h : a1 < 0 ∨ (l0.length : Int) < a1) :
    Calls Try.prog 66 #[.slice A0 l0.length c0, .int .i64 a1] w fun e w' => e = .returned (.tuple #[.int .i64 0, .int .i64 0, .int .i64 2]) ∧ w = w' := by
  rcases (show a1 < 0 ∨ 0 ≤ a1 ∧ (l0.length : Int) < a1 by omega) with h | h
  · have tok : True := trivial
    go_enter Try.func66, Try.ntmps66
    go_wp2
    refine wp_scope_straight ?_
    go_wp2
    try rw [Exit.noGoto_ret]
    go_ret3
    exact ⟨rfl, rfl⟩
  · obtain ⟨h1, h2⟩ := h
    go_enter Try.func66, Try.ntmps66
    go_wp2
    refine wp_scope_straight ?_
    go_wp2
    try rw [Exit.noGoto_ret]
    go_ret3
    exact ⟨rfl, rfl⟩
theorem wire_TakeNumber.calls (A0 : Option Addr) (c0 : Nat) (l0 : List Int) (a1 : Int) (r1 : Int) (r2 : Int) (r3 : Int) (w : World) (hr0 : Kd.C (Kd.int .u8) w A0 l0.length l0) (hc0 : l0.length ≤ c0) (h : wire_TakeNumber.f l0 a1 = some (r1, r2, r3)) :
    Calls Try.prog 66 #[.slice A0 l0.length c0, .int .i64 a1] w fun e w' => e = .returned (.tuple #[.int .i64 r1, .int .i64 r2, .int .i64 r3]) ∧ Drawn0 w w' := by
  unfold wire_TakeNumber.f at h
  by_cases hc : okBytes l0 = true ∧ l0.length ≤ 200000000000000
  · rw [if_pos hc] at h
    have h := Option.some.inj h
    unfold takeNum at h
    by_cases h1 : a1 < 0
    · rw [if_pos h1] at h
      simp only [Prod.mk.injEq] at h
      obtain ⟨rfl, rfl, rfl⟩ := h
      refine (wire_TakeNumber.early A0 c0 l0 a1 w (.inl h1)).mono ?_
      rintro e w' ⟨rfl, rfl⟩
      exact ⟨rfl, Drawn0.refl w⟩
    · rw [if_neg h1] at h
      by_cases h2 : a1 > l0.length
      · rw [if_pos h2] at h
        simp only [Prod.mk.injEq] at h
        obtain ⟨rfl, rfl, rfl⟩ := h
        refine (wire_TakeNumber.early A0 c0 l0 a1 w (.inr h2)).mono ?_
        rintro e w' ⟨rfl, rfl⟩
        exact ⟨rfl, Drawn0.refl w⟩
      · rw [if_neg h2] at h
        refine (wire_TakeNumber.core A0 c0 l0 a1 r1 r2 r3 w hr0 hc0 (by omega) (by omega) (by omega) (okBytes_rd hc.1) h).mono ?_
        rintro e w' ⟨rfl, rfl⟩
        exact ⟨rfl, Drawn0.refl w⟩
  · rw [if_neg hc] at h
    cases h
end Go.Proofs.Ythmamgnobcnhgaa.PM
