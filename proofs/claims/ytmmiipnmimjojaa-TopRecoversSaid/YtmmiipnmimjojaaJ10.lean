/- The texts of this claim's seat, joined: part 10. -/
import Derived.Test.YtmmiipnmimjojaaJ9
import Derived.ScopeJumps
import Derived.WalkMore
import Derived.WalkSpells
import Derived.WalkLawsBesides
section
namespace Go.Proofs.Ytmmiipnmimjojaa.PS
open Go.RowKit Go.Proofs.YtmmiipnmimjojaaW.PrintWords Go.Proofs.YtmmiipnmimjojaaW.PrintLast Go.Proofs.YtmmiipnmimjojaaW.PrintMore
set_option linter.unusedVariables false
set_option linter.unusedSimpArgs false

def okBytes (l : List Int) : Bool := l.all fun x => decide (0 ≤ x) && decide (x < 256)
def takeGo (l : List Int) (at_ : Int) : Nat → Int → Int → Int × Int × Int
  | 0, _, _ => (0, 0, 6)
  | m + 1, k, n =>
    if at_ + k = l.length then (0, 0, 3) else
      if rd l (at_ + k) ≥ 128 then (if k + 1 = 6 then (0, 0, 6) else takeGo l at_ m (k + 1) (n + (rd l (at_ + k) % 128) * 128 ^ k.toNat))
      else if rd l (at_ + k) = 0 ∧ 0 < k then (0, 0, 4)
      else if n + (rd l (at_ + k) % 128) * 128 ^ k.toNat > 1099511627776 then (0, 0, 6)
      else (n + (rd l (at_ + k) % 128) * 128 ^ k.toNat, at_ + k + 1, 0)
def takeNum (l : List Int) (at_ : Int) : Int × Int × Int := if at_ < 0 then (0, 0, 2) else if at_ > l.length then (0, 0, 2) else takeGo l at_ 6 0 0


theorem ofInt_i64 (a : Nat) (ha : a < 9223372036854775808) : (BitVec.ofInt 64 (a : Int)).toNat = a := by
  rw [BitVec.ofInt_natCast, BitVec.toNat_ofNat]; exact Nat.mod_eq_of_lt (by omega)
theorem i64_and_nat (a b : Nat) (ha : a < 9223372036854775808) (hb : b < 9223372036854775808) : bits .and .i64 (a : Int) (b : Int) = ((a &&& b : Nat) : Int) := by
  have hx : a &&& b < 2 ^ 63 := Nat.and_lt_two_pow _ (by omega)
  show IntKind.i64.wrap ((BitVec.ofInt 64 (a : Int) &&& BitVec.ofInt 64 (b : Int)).toNat : Int) = _
  rw [BitVec.toNat_and, ofInt_i64 a ha, ofInt_i64 b hb, IntKind.wrap_i64]
  omega
theorem i64_or_nat (a b : Nat) (ha : a < 9223372036854775808) (hb : b < 9223372036854775808) : bits .or .i64 (a : Int) (b : Int) = ((a ||| b : Nat) : Int) := by
  have hx : a ||| b < 2 ^ 63 := Nat.or_lt_two_pow (by omega) (by omega)
  show IntKind.i64.wrap ((BitVec.ofInt 64 (a : Int) ||| BitVec.ofInt 64 (b : Int)).toNat : Int) = _
  rw [BitVec.toNat_or, ofInt_i64 a ha, ofInt_i64 b hb, IntKind.wrap_i64]
  omega
theorem and127 (c : Int) (h0 : 0 ≤ c) (h1 : c ≤ 9223372036854775807) : bits .and .i64 c 127 = c % 128 := by
  obtain ⟨m, rfl⟩ := Int.eq_ofNat_of_zero_le h0
  have h := i64_and_nat m 127 (by omega) (by omega)
  rw [show ((127 : Nat) : Int) = 127 from rfl] at h
  rw [h, show (127 : Nat) = 2 ^ 7 - 1 from rfl, Nat.and_two_pow_sub_one_eq_mod]
  omega
theorem or_step (i : Nat) (M : Int) (hM : M = ((2 ^ i : Nat) : Int)) (hi : i ≤ 35) (n c : Int) (hn0 : 0 ≤ n) (hn1 : n < M) (h0 : 0 ≤ c) (h1 : c ≤ 255) :
    bits .or .i64 n (wrap64 (bits .and .i64 c 127 * M)) = n + c % 128 * M := by
  have hp : 2 ^ i ≤ 2 ^ 35 := Nat.pow_le_pow_right (by omega) hi
  obtain ⟨m, rfl⟩ := Int.eq_ofNat_of_zero_le hn0
  obtain ⟨d, rfl⟩ := Int.eq_ofNat_of_zero_le h0
  subst hM
  rw [and127 d (by omega) (by omega)]
  have e1 : ((d : Int) % 128 * ((2 ^ i : Nat) : Int)) = ((d % 128 * 2 ^ i : Nat) : Int) := by push_cast; rfl
  have hd : d % 128 * 2 ^ i ≤ 127 * 2 ^ 35 := Nat.mul_le_mul (by omega) hp
  rw [e1]
  have e2 : wrap64 ((d % 128 * 2 ^ i : Nat) : Int) = ((d % 128 * 2 ^ i : Nat) : Int) := by unfold wrap64; omega
  rw [e2, i64_or_nat _ _ (by omega) (by omega)]
  have e3 : m ||| d % 128 * 2 ^ i = m + d % 128 * 2 ^ i := by
    rw [Nat.or_comm, Nat.mul_comm, ← Nat.two_pow_add_eq_or_of_lt (by omega : m < 2 ^ i), Nat.add_comm]
  rw [e3]
  push_cast
  rfl
def J17 (w : World) (l0 : List Int) (A0 : Option Addr) (c0 : Nat) (a1 : Int) (R : Int × Int × Int) (a' : Act) (w' : World) : Prop :=
  w' = w ∧ ∃ (k : Nat) (n : Int) (x0 x1 x2 x3 x4 x5 x6 x7 x8 x9 x10 x11 x12 x13 x14 x15 x16 x17 x18 x19 x20 x21 x22 x23 x24 x25 x26 x27 x28 x29 x30 x31 x32 x33 x34 x35 x36 x37 x38 x39 x40 x41 x42 x43 x44 x45 x46 x47 x48 : Value), k < 6 ∧ a1 + k ≤ l0.length ∧ 0 ≤ n ∧ n < 128 ^ k ∧ takeGo l0 a1 (6 - k) k n = R ∧ a' = { tmps := #[.slice A0 l0.length c0, .int .i64 a1, undef, undef, .int .i64 0, .int .i64 0, .int .i64 0, .int .i64 n, .int .i64 k, x0, x1, x2, x3, x4, x5, x6, x7, x8, x9, x10, x11, x12, x13, x14, x15, x16, x17, x18, x19, x20, x21, x22, x23, x24, x25, x26, x27, x28, x29, x30, x31, x32, x33, x34, x35, x36, x37, x38, x39, x40, x41, x42, x43, x44, x45, x46, x47, x48], defers := [] }

def wire_TakeNumber.f (l0 : List Int) (a1 : Int) : Option (Int × Int × Int) := if okBytes l0 = true ∧ l0.length ≤ 200000000000000 then some (takeNum l0 a1) else none
theorem okBytes_rd {l : List Int} (h : okBytes l = true) (i : Int) : 0 ≤ rd l i ∧ rd l i ≤ 255 := by
  unfold rd
  rcases Nat.lt_or_ge i.toNat l.length with hl | hl
  · have hx : l.getD i.toNat 0 ∈ l := by rw [List.getD_eq_getElem?_getD, List.getElem?_eq_getElem hl]; exact List.getElem_mem hl
    have := List.all_eq_true.1 h _ hx
    simp only [Bool.and_eq_true, decide_eq_true_eq] at this
    omega
  · rw [List.getD_eq_getElem?_getD, List.getElem?_eq_none hl]; simp

section
variable {l : List Int} {at_ k n c : Int} {m : Nat}
theorem tg_short (h : at_ + k = l.length) : takeGo l at_ (m + 1) k n = (0, 0, 3) := by simp only [takeGo]; rw [if_pos h]
theorem tg_more (h : ¬ at_ + k = l.length) (hc : rd l (at_ + k) = c) (h1 : 128 ≤ c) (hk : ¬ k + 1 = 6) : takeGo l at_ (m + 1) k n = takeGo l at_ m (k + 1) (n + c % 128 * 128 ^ k.toNat) := by
  simp only [takeGo]; rw [if_neg h, hc, if_pos h1, if_neg hk]
theorem tg_full (h : ¬ at_ + k = l.length) (hc : rd l (at_ + k) = c) (h1 : 128 ≤ c) (hk : k + 1 = 6) : takeGo l at_ (m + 1) k n = (0, 0, 6) := by
  simp only [takeGo]; rw [if_neg h, hc, if_pos h1, if_pos hk]
theorem tg_form (h : ¬ at_ + k = l.length) (hc : rd l (at_ + k) = c) (h1 : c = 0) (hk : 0 < k) : takeGo l at_ (m + 1) k n = (0, 0, 4) := by
  simp only [takeGo]; rw [if_neg h, hc, if_neg (by omega), if_pos ⟨h1, hk⟩]
theorem tg_limit (h : ¬ at_ + k = l.length) (hc : rd l (at_ + k) = c) (h1 : c < 128) (hz : ¬ (c = 0 ∧ 0 < k)) (hm : n + c % 128 * 128 ^ k.toNat > 1099511627776) : takeGo l at_ (m + 1) k n = (0, 0, 6) := by
  simp only [takeGo]; rw [if_neg h, hc, if_neg (by omega), if_neg hz, if_pos hm]
theorem tg_ok (h : ¬ at_ + k = l.length) (hc : rd l (at_ + k) = c) (h1 : c < 128) (hz : ¬ (c = 0 ∧ 0 < k)) (hm : n + c % 128 * 128 ^ k.toNat ≤ 1099511627776) : takeGo l at_ (m + 1) k n = (n + c % 128 * 128 ^ k.toNat, at_ + k + 1, 0) := by
  simp only [takeGo]; rw [if_neg h, hc, if_neg (by omega), if_neg hz, if_neg (by omega)]
end
theorem ret3 {a b c a' b' c' : Int} (h : (a', b', c') = (a, b, c)) : Ending.returned (.tuple #[.int .i64 a', .int .i64 b', .int .i64 c']) = Ending.returned (.tuple #[.int .i64 a, .int .i64 b, .int .i64 c]) := by
  simp only [Prod.mk.injEq] at h; obtain ⟨rfl, rfl, rfl⟩ := h; rfl
set_option maxHeartbeats 4000000 in
set_option maxRecDepth 100000 in
theorem wire_TakeNumber.core (A0 : Option Addr) (c0 : Nat) (l0 : List Int) (a1 : Int) (r1 : Int) (r2 : Int) (r3 : Int) (w : World) (hr0 : Kd.C (Kd.int .u8) w A0 l0.length l0) (hc0 : l0.length ≤ c0)
   (h0 : 0 ≤ a1) (h1 : a1 ≤ l0.length) (hl : (l0.length : Int) ≤ 200000000000000) (hb : ∀ i, 0 ≤ rd l0 i ∧ rd l0 i ≤ 255) (hR : takeGo l0 a1 6 0 0 = (r1, r2, r3)) :
    Calls Try.prog 100 #[.slice A0 l0.length c0, .int .i64 a1] w fun e w' => e = .returned (.tuple #[.int .i64 r1, .int .i64 r2, .int .i64 r3]) ∧ w = w' := by
  have HG := Aside0.mk hR
  clear hR
  have HB := Aside0.mk hb
  clear hb
  go_enter Try.func100, Try.ntmps100
  go_wp2
  refine wp_scope_jumps 0 (J17 w l0 A0 c0 a1 (r1, r2, r3)) (fun a' _ => 6 - (match a'.tmps.getD 8 undef with | .int _ q => q | _ => 0).toNat) rfl ?_ ?_
  · go_wp2
    go_step3
    rcases (show a1 = (l0.length : Int) ∨ a1 < (l0.length : Int) by omega) with hge | hlt
    · have HF := Aside0.mk (HG.out.symm.trans (tg_short (l := l0) (at_ := a1) (k := 0) (m := 5) (n := 0) (by omega)))
      have hne : (a1 == (l0.length : Int)) = true := by simp; omega
      clear hge
      go_wp2
      simp only [Exit.jump]
      go_ret3
      exact ⟨ret3 HF.out.symm, rfl⟩
    · have hbc := HB.out (a1)
      obtain ⟨ad, rfl, hcell⟩ := Kd.at_int hr0 (a1) (by omega) hlt
      obtain ⟨c, hcc⟩ : ∃ c, rd l0 (a1) = c := ⟨_, rfl⟩
      rw [hcc] at hcell hbc
      clear hr0
      have hne : (a1 == (l0.length : Int)) = false := by simp; omega
      have HO := Aside0.mk (or_step 0 1 (by decide) (by omega) 0 c (by omega) (by omega) hbc.1 hbc.2)
      rcases (show c < 128 ∨ 128 ≤ c by omega) with hc | hc
      · have HF := Aside0.mk (HG.out.symm.trans (tg_ok (l := l0) (at_ := a1) (k := 0) (m := 5) (n := 0) (c := c) (by omega) (by simpa using hcc) hc (by omega) (by simp; omega)))
        have HO' : Aside0 (bits .or .i64 0 (wrap64 (bits .and .i64 c 127)) = c) := ⟨by have := HO.out; rw [Int.mul_one] at this; rw [this]; omega⟩
        have hlim : decide (1099511627776 < bits .or .i64 0 (wrap64 (bits .and .i64 c 127))) = false := by rw [HO'.out]; simp; omega
        clear hcc
        rcases (show c = 0 ∨ 0 < c by omega) with hz | hz
        · have hz0 : (c == 0) = true := by simp; omega
          clear hz
          go_wp2
          simp only [Exit.jump]
          go_ret3
          exact ⟨ret3 (by rw [HF.out, HO'.out]; simp; omega), rfl⟩
        · have hz0 : (c == 0) = false := by simp; omega
          clear hz
          go_wp2
          simp only [Exit.jump]
          go_ret3
          exact ⟨ret3 (by rw [HF.out, HO'.out]; simp; omega), rfl⟩
      · have HF := Aside0.mk (HG.out.symm.trans (tg_more (l := l0) (at_ := a1) (k := 0) (m := 5) (n := 0) (c := c) (by omega) (by simpa using hcc) hc (by omega)))
        have hlt' : a1 + 1 ≤ (l0.length : Int) := by omega
        clear hcc
        go_wp2
        go_step3
        have HO2 : Aside0 (bits .or .i64 0 (wrap64 (bits .and .i64 c 127)) = 0 + c % 128 * 1) := ⟨by have := HO.out; first | exact this | (rw [Int.mul_one] at this; exact this)⟩
        have HJ := Aside0.mk (show True from trivial)
        exact ⟨rfl, ⟨rfl, 1, _, _, _, _, _, _, _, _, _, _, _, _, _, _, _, _, _, _, _, _, _, _, _, _, _, _, _, _, _, _, _, _, _, _, _, _, _, _, _, _, _, _, _, _, _, _, _, _, _, _, by omega, by omega, by rw [HO2.out]; omega, by rw [HO2.out]; simp; omega, by rw [HF.out, HO2.out]; simp, rfl⟩⟩
  · rintro a' w' ⟨rfl, k, n, x0, x1, x2, x3, x4, x5, x6, x7, x8, x9, x10, x11, x12, x13, x14, x15, x16, x17, x18, x19, x20, x21, x22, x23, x24, x25, x26, x27, x28, x29, x30, x31, x32, x33, x34, x35, x36, x37, x38, x39, x40, x41, x42, x43, x44, x45, x46, x47, x48, hk, hk1, hn0, hn1, hG, rfl⟩
    clear HG
    obtain rfl | rfl | rfl | rfl | rfl | rfl : k = 0 ∨ k = 1 ∨ k = 2 ∨ k = 3 ∨ k = 4 ∨ k = 5 := by omega
    · have HG := Aside0.mk hG
      clear hG hk
      have hn : n < 1 := by simpa using hn1
      clear hn1
      obtain rfl : n = 0 := by omega
      rcases (show a1 = (l0.length : Int) ∨ a1 < (l0.length : Int) by omega) with hge | hlt
      · have HF := Aside0.mk (HG.out.symm.trans (tg_short (l := l0) (at_ := a1) (k := 0) (m := 5) (n := 0) (by omega)))
        have hne : (a1 == (l0.length : Int)) = true := by simp; omega
        clear hge
        go_wp2
        simp only [Exit.jump]
        go_ret3
        exact ⟨ret3 HF.out.symm, rfl⟩
      · have hbc := HB.out (a1)
        obtain ⟨ad, rfl, hcell⟩ := Kd.at_int hr0 (a1) (by omega) hlt
        obtain ⟨c, hcc⟩ : ∃ c, rd l0 (a1) = c := ⟨_, rfl⟩
        rw [hcc] at hcell hbc
        clear hr0
        have hne : (a1 == (l0.length : Int)) = false := by simp; omega
        have HO := Aside0.mk (or_step 0 1 (by decide) (by omega) 0 c (by omega) (by omega) hbc.1 hbc.2)
        rcases (show c < 128 ∨ 128 ≤ c by omega) with hc | hc
        · have HF := Aside0.mk (HG.out.symm.trans (tg_ok (l := l0) (at_ := a1) (k := 0) (m := 5) (n := 0) (c := c) (by omega) (by simpa using hcc) hc (by omega) (by simp; omega)))
          have HO' : Aside0 (bits .or .i64 0 (wrap64 (bits .and .i64 c 127)) = c) := ⟨by have := HO.out; rw [Int.mul_one] at this; rw [this]; omega⟩
          have hlim : decide (1099511627776 < bits .or .i64 0 (wrap64 (bits .and .i64 c 127))) = false := by rw [HO'.out]; simp; omega
          clear hcc
          rcases (show c = 0 ∨ 0 < c by omega) with hz | hz
          · have hz0 : (c == 0) = true := by simp; omega
            clear hz
            go_wp2
            simp only [Exit.jump]
            go_ret3
            exact ⟨ret3 (by rw [HF.out, HO'.out]; simp; omega), rfl⟩
          · have hz0 : (c == 0) = false := by simp; omega
            clear hz
            go_wp2
            simp only [Exit.jump]
            go_ret3
            exact ⟨ret3 (by rw [HF.out, HO'.out]; simp; omega), rfl⟩
        · have HF := Aside0.mk (HG.out.symm.trans (tg_more (l := l0) (at_ := a1) (k := 0) (m := 5) (n := 0) (c := c) (by omega) (by simpa using hcc) hc (by omega)))
          have hlt' : a1 + 1 ≤ (l0.length : Int) := by omega
          clear hcc
          go_wp2
          go_step3
          have HO2 : Aside0 (bits .or .i64 0 (wrap64 (bits .and .i64 c 127)) = 0 + c % 128 * 1) := ⟨by have := HO.out; first | exact this | (rw [Int.mul_one] at this; exact this)⟩
          have HJ := Aside0.mk (show True from trivial)
          exact ⟨rfl, ⟨rfl, 1, _, _, _, _, _, _, _, _, _, _, _, _, _, _, _, _, _, _, _, _, _, _, _, _, _, _, _, _, _, _, _, _, _, _, _, _, _, _, _, _, _, _, _, _, _, _, _, _, _, _, by omega, by omega, by rw [HO2.out]; omega, by rw [HO2.out]; simp; omega, by rw [HF.out, HO2.out]; simp, rfl⟩, by simp⟩
    · have HG := Aside0.mk hG
      clear hG hk
      have hn : n < 128 := by simpa using hn1
      clear hn1
      rcases (show a1 + 1 = (l0.length : Int) ∨ a1 + 1 < (l0.length : Int) by omega) with hge | hlt
      · have HF := Aside0.mk (HG.out.symm.trans (tg_short (l := l0) (at_ := a1) (k := 1) (m := 4) (n := n) (by omega)))
        have hne : (a1 + 1 == (l0.length : Int)) = true := by simp; omega
        clear hge
        go_wp2
        simp only [Exit.jump]
        go_ret3
        exact ⟨ret3 HF.out.symm, rfl⟩
      · have hbc := HB.out (a1 + 1)
        obtain ⟨ad, rfl, hcell⟩ := Kd.at_int hr0 (a1 + 1) (by omega) hlt
        obtain ⟨c, hcc⟩ : ∃ c, rd l0 (a1 + 1) = c := ⟨_, rfl⟩
        rw [hcc] at hcell hbc
        clear hr0
        have hne : (a1 + 1 == (l0.length : Int)) = false := by simp; omega
        have HO := Aside0.mk (or_step 7 128 (by decide) (by omega) n c (by omega) (by omega) hbc.1 hbc.2)
        rcases (show c < 128 ∨ 128 ≤ c by omega) with hc | hc
        · rcases (show c = 0 ∨ 0 < c by omega) with hz | hz
          · have HF := Aside0.mk (HG.out.symm.trans (tg_form (l := l0) (at_ := a1) (k := 1) (m := 4) (n := n) (c := c) (by omega) hcc hz (by omega)))
            clear hcc hc HO
            subst hz
            go_wp2
            simp only [Exit.jump]
            go_ret3
            exact ⟨ret3 HF.out.symm, rfl⟩
          · have hz0 : (c == 0) = false := by simp; omega
            rcases (show 1099511627776 < n + c % 128 * 128 ∨ n + c % 128 * 128 ≤ 1099511627776 by omega) with hm | hm
            · have HF := Aside0.mk (HG.out.symm.trans (tg_limit (l := l0) (at_ := a1) (k := 1) (m := 4) (n := n) (c := c) (by omega) hcc hc (by omega) (by simpa using hm)))
              have hlim : decide (1099511627776 < bits .or .i64 n (wrap64 (bits .and .i64 c 127 * 128))) = true := by rw [HO.out]; simpa using hm
              clear hcc hm
              go_wp2
              simp only [Exit.jump]
              go_ret3
              exact ⟨ret3 HF.out.symm, rfl⟩
            · have HF := Aside0.mk (HG.out.symm.trans (tg_ok (l := l0) (at_ := a1) (k := 1) (m := 4) (n := n) (c := c) (by omega) hcc hc (by omega) (by simpa using hm)))
              have hlim : decide (1099511627776 < bits .or .i64 n (wrap64 (bits .and .i64 c 127 * 128))) = false := by rw [HO.out]; simpa using hm
              clear hcc hm
              go_wp2
              simp only [Exit.jump]
              go_ret3
              exact ⟨ret3 (by rw [HF.out, HO.out]; simp; omega), rfl⟩
        · have HF := Aside0.mk (HG.out.symm.trans (tg_more (l := l0) (at_ := a1) (k := 1) (m := 4) (n := n) (c := c) (by omega) hcc hc (by omega)))
          have hlt' : a1 + 1 + 1 ≤ (l0.length : Int) := by omega
          clear hcc
          go_wp2
          go_step3
          have HO2 : Aside0 (bits .or .i64 n (wrap64 (bits .and .i64 c 127 * 128)) = n + c % 128 * 128) := ⟨by have := HO.out; first | exact this | (rw [Int.mul_one] at this; exact this)⟩
          have HJ := Aside0.mk (show True from trivial)
          exact ⟨rfl, ⟨rfl, 2, _, _, _, _, _, _, _, _, _, _, _, _, _, _, _, _, _, _, _, _, _, _, _, _, _, _, _, _, _, _, _, _, _, _, _, _, _, _, _, _, _, _, _, _, _, _, _, _, _, _, by omega, by omega, by rw [HO2.out]; omega, by rw [HO2.out]; simp; omega, by rw [HF.out, HO2.out]; simp, rfl⟩, by simp⟩
    · have HG := Aside0.mk hG
      clear hG hk
      have hn : n < 16384 := by simpa using hn1
      clear hn1
      rcases (show a1 + 2 = (l0.length : Int) ∨ a1 + 2 < (l0.length : Int) by omega) with hge | hlt
      · have HF := Aside0.mk (HG.out.symm.trans (tg_short (l := l0) (at_ := a1) (k := 2) (m := 3) (n := n) (by omega)))
        have hne : (a1 + 2 == (l0.length : Int)) = true := by simp; omega
        clear hge
        go_wp2
        simp only [Exit.jump]
        go_ret3
        exact ⟨ret3 HF.out.symm, rfl⟩
      · have hbc := HB.out (a1 + 2)
        obtain ⟨ad, rfl, hcell⟩ := Kd.at_int hr0 (a1 + 2) (by omega) hlt
        obtain ⟨c, hcc⟩ : ∃ c, rd l0 (a1 + 2) = c := ⟨_, rfl⟩
        rw [hcc] at hcell hbc
        clear hr0
        have hne : (a1 + 2 == (l0.length : Int)) = false := by simp; omega
        have HO := Aside0.mk (or_step 14 16384 (by decide) (by omega) n c (by omega) (by omega) hbc.1 hbc.2)
        rcases (show c < 128 ∨ 128 ≤ c by omega) with hc | hc
        · rcases (show c = 0 ∨ 0 < c by omega) with hz | hz
          · have HF := Aside0.mk (HG.out.symm.trans (tg_form (l := l0) (at_ := a1) (k := 2) (m := 3) (n := n) (c := c) (by omega) hcc hz (by omega)))
            clear hcc hc HO
            subst hz
            go_wp2
            simp only [Exit.jump]
            go_ret3
            exact ⟨ret3 HF.out.symm, rfl⟩
          · have hz0 : (c == 0) = false := by simp; omega
            rcases (show 1099511627776 < n + c % 128 * 16384 ∨ n + c % 128 * 16384 ≤ 1099511627776 by omega) with hm | hm
            · have HF := Aside0.mk (HG.out.symm.trans (tg_limit (l := l0) (at_ := a1) (k := 2) (m := 3) (n := n) (c := c) (by omega) hcc hc (by omega) (by simpa using hm)))
              have hlim : decide (1099511627776 < bits .or .i64 n (wrap64 (bits .and .i64 c 127 * 16384))) = true := by rw [HO.out]; simpa using hm
              clear hcc hm
              go_wp2
              simp only [Exit.jump]
              go_ret3
              exact ⟨ret3 HF.out.symm, rfl⟩
            · have HF := Aside0.mk (HG.out.symm.trans (tg_ok (l := l0) (at_ := a1) (k := 2) (m := 3) (n := n) (c := c) (by omega) hcc hc (by omega) (by simpa using hm)))
              have hlim : decide (1099511627776 < bits .or .i64 n (wrap64 (bits .and .i64 c 127 * 16384))) = false := by rw [HO.out]; simpa using hm
              clear hcc hm
              go_wp2
              simp only [Exit.jump]
              go_ret3
              exact ⟨ret3 (by rw [HF.out, HO.out]; simp; omega), rfl⟩
        · have HF := Aside0.mk (HG.out.symm.trans (tg_more (l := l0) (at_ := a1) (k := 2) (m := 3) (n := n) (c := c) (by omega) hcc hc (by omega)))
          have hlt' : a1 + 2 + 1 ≤ (l0.length : Int) := by omega
          clear hcc
          go_wp2
          go_step3
          have HO2 : Aside0 (bits .or .i64 n (wrap64 (bits .and .i64 c 127 * 16384)) = n + c % 128 * 16384) := ⟨by have := HO.out; first | exact this | (rw [Int.mul_one] at this; exact this)⟩
          have HJ := Aside0.mk (show True from trivial)
          exact ⟨rfl, ⟨rfl, 3, _, _, _, _, _, _, _, _, _, _, _, _, _, _, _, _, _, _, _, _, _, _, _, _, _, _, _, _, _, _, _, _, _, _, _, _, _, _, _, _, _, _, _, _, _, _, _, _, _, _, by omega, by omega, by rw [HO2.out]; omega, by rw [HO2.out]; simp; omega, by rw [HF.out, HO2.out]; simp, rfl⟩, by simp⟩
    · have HG := Aside0.mk hG
      clear hG hk
      have hn : n < 2097152 := by simpa using hn1
      clear hn1
      rcases (show a1 + 3 = (l0.length : Int) ∨ a1 + 3 < (l0.length : Int) by omega) with hge | hlt
      · have HF := Aside0.mk (HG.out.symm.trans (tg_short (l := l0) (at_ := a1) (k := 3) (m := 2) (n := n) (by omega)))
        have hne : (a1 + 3 == (l0.length : Int)) = true := by simp; omega
        clear hge
        go_wp2
        simp only [Exit.jump]
        go_ret3
        exact ⟨ret3 HF.out.symm, rfl⟩
      · have hbc := HB.out (a1 + 3)
        obtain ⟨ad, rfl, hcell⟩ := Kd.at_int hr0 (a1 + 3) (by omega) hlt
        obtain ⟨c, hcc⟩ : ∃ c, rd l0 (a1 + 3) = c := ⟨_, rfl⟩
        rw [hcc] at hcell hbc
        clear hr0
        have hne : (a1 + 3 == (l0.length : Int)) = false := by simp; omega
        have HO := Aside0.mk (or_step 21 2097152 (by decide) (by omega) n c (by omega) (by omega) hbc.1 hbc.2)
        rcases (show c < 128 ∨ 128 ≤ c by omega) with hc | hc
        · rcases (show c = 0 ∨ 0 < c by omega) with hz | hz
          · have HF := Aside0.mk (HG.out.symm.trans (tg_form (l := l0) (at_ := a1) (k := 3) (m := 2) (n := n) (c := c) (by omega) hcc hz (by omega)))
            clear hcc hc HO
            subst hz
            go_wp2
            simp only [Exit.jump]
            go_ret3
            exact ⟨ret3 HF.out.symm, rfl⟩
          · have hz0 : (c == 0) = false := by simp; omega
            rcases (show 1099511627776 < n + c % 128 * 2097152 ∨ n + c % 128 * 2097152 ≤ 1099511627776 by omega) with hm | hm
            · have HF := Aside0.mk (HG.out.symm.trans (tg_limit (l := l0) (at_ := a1) (k := 3) (m := 2) (n := n) (c := c) (by omega) hcc hc (by omega) (by simpa using hm)))
              have hlim : decide (1099511627776 < bits .or .i64 n (wrap64 (bits .and .i64 c 127 * 2097152))) = true := by rw [HO.out]; simpa using hm
              clear hcc hm
              go_wp2
              simp only [Exit.jump]
              go_ret3
              exact ⟨ret3 HF.out.symm, rfl⟩
            · have HF := Aside0.mk (HG.out.symm.trans (tg_ok (l := l0) (at_ := a1) (k := 3) (m := 2) (n := n) (c := c) (by omega) hcc hc (by omega) (by simpa using hm)))
              have hlim : decide (1099511627776 < bits .or .i64 n (wrap64 (bits .and .i64 c 127 * 2097152))) = false := by rw [HO.out]; simpa using hm
              clear hcc hm
              go_wp2
              simp only [Exit.jump]
              go_ret3
              exact ⟨ret3 (by rw [HF.out, HO.out]; simp; omega), rfl⟩
        · have HF := Aside0.mk (HG.out.symm.trans (tg_more (l := l0) (at_ := a1) (k := 3) (m := 2) (n := n) (c := c) (by omega) hcc hc (by omega)))
          have hlt' : a1 + 3 + 1 ≤ (l0.length : Int) := by omega
          clear hcc
          go_wp2
          go_step3
          have HO2 : Aside0 (bits .or .i64 n (wrap64 (bits .and .i64 c 127 * 2097152)) = n + c % 128 * 2097152) := ⟨by have := HO.out; first | exact this | (rw [Int.mul_one] at this; exact this)⟩
          have HJ := Aside0.mk (show True from trivial)
          exact ⟨rfl, ⟨rfl, 4, _, _, _, _, _, _, _, _, _, _, _, _, _, _, _, _, _, _, _, _, _, _, _, _, _, _, _, _, _, _, _, _, _, _, _, _, _, _, _, _, _, _, _, _, _, _, _, _, _, _, by omega, by omega, by rw [HO2.out]; omega, by rw [HO2.out]; simp; omega, by rw [HF.out, HO2.out]; simp, rfl⟩, by simp⟩
    · have HG := Aside0.mk hG
      clear hG hk
      have hn : n < 268435456 := by simpa using hn1
      clear hn1
      rcases (show a1 + 4 = (l0.length : Int) ∨ a1 + 4 < (l0.length : Int) by omega) with hge | hlt
      · have HF := Aside0.mk (HG.out.symm.trans (tg_short (l := l0) (at_ := a1) (k := 4) (m := 1) (n := n) (by omega)))
        have hne : (a1 + 4 == (l0.length : Int)) = true := by simp; omega
        clear hge
        go_wp2
        simp only [Exit.jump]
        go_ret3
        exact ⟨ret3 HF.out.symm, rfl⟩
      · have hbc := HB.out (a1 + 4)
        obtain ⟨ad, rfl, hcell⟩ := Kd.at_int hr0 (a1 + 4) (by omega) hlt
        obtain ⟨c, hcc⟩ : ∃ c, rd l0 (a1 + 4) = c := ⟨_, rfl⟩
        rw [hcc] at hcell hbc
        clear hr0
        have hne : (a1 + 4 == (l0.length : Int)) = false := by simp; omega
        have HO := Aside0.mk (or_step 28 268435456 (by decide) (by omega) n c (by omega) (by omega) hbc.1 hbc.2)
        rcases (show c < 128 ∨ 128 ≤ c by omega) with hc | hc
        · rcases (show c = 0 ∨ 0 < c by omega) with hz | hz
          · have HF := Aside0.mk (HG.out.symm.trans (tg_form (l := l0) (at_ := a1) (k := 4) (m := 1) (n := n) (c := c) (by omega) hcc hz (by omega)))
            clear hcc hc HO
            subst hz
            go_wp2
            simp only [Exit.jump]
            go_ret3
            exact ⟨ret3 HF.out.symm, rfl⟩
          · have hz0 : (c == 0) = false := by simp; omega
            rcases (show 1099511627776 < n + c % 128 * 268435456 ∨ n + c % 128 * 268435456 ≤ 1099511627776 by omega) with hm | hm
            · have HF := Aside0.mk (HG.out.symm.trans (tg_limit (l := l0) (at_ := a1) (k := 4) (m := 1) (n := n) (c := c) (by omega) hcc hc (by omega) (by simpa using hm)))
              have hlim : decide (1099511627776 < bits .or .i64 n (wrap64 (bits .and .i64 c 127 * 268435456))) = true := by rw [HO.out]; simpa using hm
              clear hcc hm
              go_wp2
              simp only [Exit.jump]
              go_ret3
              exact ⟨ret3 HF.out.symm, rfl⟩
            · have HF := Aside0.mk (HG.out.symm.trans (tg_ok (l := l0) (at_ := a1) (k := 4) (m := 1) (n := n) (c := c) (by omega) hcc hc (by omega) (by simpa using hm)))
              have hlim : decide (1099511627776 < bits .or .i64 n (wrap64 (bits .and .i64 c 127 * 268435456))) = false := by rw [HO.out]; simpa using hm
              clear hcc hm
              go_wp2
              simp only [Exit.jump]
              go_ret3
              exact ⟨ret3 (by rw [HF.out, HO.out]; simp; omega), rfl⟩
        · have HF := Aside0.mk (HG.out.symm.trans (tg_more (l := l0) (at_ := a1) (k := 4) (m := 1) (n := n) (c := c) (by omega) hcc hc (by omega)))
          have hlt' : a1 + 4 + 1 ≤ (l0.length : Int) := by omega
          clear hcc
          go_wp2
          go_step3
          have HO2 : Aside0 (bits .or .i64 n (wrap64 (bits .and .i64 c 127 * 268435456)) = n + c % 128 * 268435456) := ⟨by have := HO.out; first | exact this | (rw [Int.mul_one] at this; exact this)⟩
          have HJ := Aside0.mk (show True from trivial)
          exact ⟨rfl, ⟨rfl, 5, _, _, _, _, _, _, _, _, _, _, _, _, _, _, _, _, _, _, _, _, _, _, _, _, _, _, _, _, _, _, _, _, _, _, _, _, _, _, _, _, _, _, _, _, _, _, _, _, _, _, by omega, by omega, by rw [HO2.out]; omega, by rw [HO2.out]; simp; omega, by rw [HF.out, HO2.out]; simp, rfl⟩, by simp⟩
    · have HG := Aside0.mk hG
      clear hG hk
      have hn : n < 34359738368 := by simpa using hn1
      clear hn1
      rcases (show a1 + 5 = (l0.length : Int) ∨ a1 + 5 < (l0.length : Int) by omega) with hge | hlt
      · have HF := Aside0.mk (HG.out.symm.trans (tg_short (l := l0) (at_ := a1) (k := 5) (m := 0) (n := n) (by omega)))
        have hne : (a1 + 5 == (l0.length : Int)) = true := by simp; omega
        clear hge
        go_wp2
        simp only [Exit.jump]
        go_ret3
        exact ⟨ret3 HF.out.symm, rfl⟩
      · have hbc := HB.out (a1 + 5)
        obtain ⟨ad, rfl, hcell⟩ := Kd.at_int hr0 (a1 + 5) (by omega) hlt
        obtain ⟨c, hcc⟩ : ∃ c, rd l0 (a1 + 5) = c := ⟨_, rfl⟩
        rw [hcc] at hcell hbc
        clear hr0
        have hne : (a1 + 5 == (l0.length : Int)) = false := by simp; omega
        have HO := Aside0.mk (or_step 35 34359738368 (by decide) (by omega) n c (by omega) (by omega) hbc.1 hbc.2)
        rcases (show c < 128 ∨ 128 ≤ c by omega) with hc | hc
        · rcases (show c = 0 ∨ 0 < c by omega) with hz | hz
          · have HF := Aside0.mk (HG.out.symm.trans (tg_form (l := l0) (at_ := a1) (k := 5) (m := 0) (n := n) (c := c) (by omega) hcc hz (by omega)))
            clear hcc hc HO
            subst hz
            go_wp2
            simp only [Exit.jump]
            go_ret3
            exact ⟨ret3 HF.out.symm, rfl⟩
          · have hz0 : (c == 0) = false := by simp; omega
            rcases (show 1099511627776 < n + c % 128 * 34359738368 ∨ n + c % 128 * 34359738368 ≤ 1099511627776 by omega) with hm | hm
            · have HF := Aside0.mk (HG.out.symm.trans (tg_limit (l := l0) (at_ := a1) (k := 5) (m := 0) (n := n) (c := c) (by omega) hcc hc (by omega) (by simpa using hm)))
              have hlim : decide (1099511627776 < bits .or .i64 n (wrap64 (bits .and .i64 c 127 * 34359738368))) = true := by rw [HO.out]; simpa using hm
              clear hcc hm
              go_wp2
              simp only [Exit.jump]
              go_ret3
              exact ⟨ret3 HF.out.symm, rfl⟩
            · have HF := Aside0.mk (HG.out.symm.trans (tg_ok (l := l0) (at_ := a1) (k := 5) (m := 0) (n := n) (c := c) (by omega) hcc hc (by omega) (by simpa using hm)))
              have hlim : decide (1099511627776 < bits .or .i64 n (wrap64 (bits .and .i64 c 127 * 34359738368))) = false := by rw [HO.out]; simpa using hm
              clear hcc hm
              go_wp2
              simp only [Exit.jump]
              go_ret3
              exact ⟨ret3 (by rw [HF.out, HO.out]; simp; omega), rfl⟩
        · have HF := Aside0.mk (HG.out.symm.trans (tg_full (l := l0) (at_ := a1) (k := 5) (m := 0) (n := n) (c := c) (by omega) hcc hc (by omega)))
          clear hcc
          go_wp2
          simp only [Exit.jump]
          go_ret3
          exact ⟨ret3 HF.out.symm, rfl⟩
theorem wire_TakeNumber.early (A0 : Option Addr) (c0 : Nat) (l0 : List Int) (a1 : Int) (w : World) (h : a1 < 0 ∨ (l0.length : Int) < a1) :
    Calls Try.prog 100 #[.slice A0 l0.length c0, .int .i64 a1] w fun e w' => e = .returned (.tuple #[.int .i64 0, .int .i64 0, .int .i64 2]) ∧ w = w' := by
  rcases (show a1 < 0 ∨ 0 ≤ a1 ∧ (l0.length : Int) < a1 by omega) with h | h
  · have tok : True := trivial
    go_enter Try.func100, Try.ntmps100
    go_wp2
    refine wp_scope_straight ?_
    go_wp2
    try rw [Exit.noGoto_ret]
    go_ret3
    exact ⟨rfl, rfl⟩
  · obtain ⟨h1, h2⟩ := h
    go_enter Try.func100, Try.ntmps100
    go_wp2
    refine wp_scope_straight ?_
    go_wp2
    try rw [Exit.noGoto_ret]
    go_ret3
    exact ⟨rfl, rfl⟩
theorem wire_TakeNumber.calls (A0 : Option Addr) (c0 : Nat) (l0 : List Int) (a1 : Int) (r1 : Int) (r2 : Int) (r3 : Int) (w : World) (hr0 : Kd.C (Kd.int .u8) w A0 l0.length l0) (hc0 : l0.length ≤ c0) (h : wire_TakeNumber.f l0 a1 = some (r1, r2, r3)) :
    Calls Try.prog 100 #[.slice A0 l0.length c0, .int .i64 a1] w fun e w' => e = .returned (.tuple #[.int .i64 r1, .int .i64 r2, .int .i64 r3]) ∧ Drawn0 w w' := by
  unfold wire_TakeNumber.f at h
  by_cases hc : okBytes l0 = true ∧ l0.length ≤ 200000000000000
  · rw [if_pos hc] at h
    have h := Option.some.inj h
    unfold takeNum at h
    by_cases h1 : a1 < 0
    · rw [if_pos h1] at h
      simp only [Prod.mk.injEq] at h
      obtain ⟨rfl, rfl, rfl⟩ := h
      refine (wire_TakeNumber.early A0 c0 l0 a1 w (.inl h1)).mono ?_
      rintro e w' ⟨rfl, rfl⟩
      exact ⟨rfl, Drawn0.refl w⟩
    · rw [if_neg h1] at h
      by_cases h2 : a1 > l0.length
      · rw [if_pos h2] at h
        simp only [Prod.mk.injEq] at h
        obtain ⟨rfl, rfl, rfl⟩ := h
        refine (wire_TakeNumber.early A0 c0 l0 a1 w (.inr h2)).mono ?_
        rintro e w' ⟨rfl, rfl⟩
        exact ⟨rfl, Drawn0.refl w⟩
      · rw [if_neg h2] at h
        refine (wire_TakeNumber.core A0 c0 l0 a1 r1 r2 r3 w hr0 hc0 (by omega) (by omega) (by omega) (okBytes_rd hc.1) h).mono ?_
        rintro e w' ⟨rfl, rfl⟩
        exact ⟨rfl, Drawn0.refl w⟩
  · rw [if_neg hc] at h
    cases h
end Go.Proofs.Ytmmiipnmimjojaa.PS
end
section
namespace Go.Proofs.Ytmmiipnmimjojaa.PS
open Go.RowKit Go.Proofs.YtmmiipnmimjojaaW.PrintWords Go.Proofs.YtmmiipnmimjojaaW.PrintLast Go.Proofs.YtmmiipnmimjojaaW.PrintMore
set_option linter.unusedVariables false
set_option linter.unusedSimpArgs false

/-- A number's bytes: m + 1 of them at most. -/
def encN : Nat → Int → List Int
  | 0, n => [n]
  | m + 1, n => if n < 128 then [n] else (n % 128 + 128) :: encN m (n / 128)
/-- A number's bytes (of numbers up to 2^70). -/
def enc (n : Int) : List Int := encN 9 n
theorem or128 (x : Int) (h0 : 0 ≤ x) (h1 : x ≤ 9223372036854775807) : (bits .or .i64 (bits .and .i64 x 127) 128) % 256 = x % 128 + 128 := by
  rw [and127 x h0 h1]
  obtain ⟨d, hd⟩ : ∃ d : Nat, x % 128 = d := ⟨(x % 128).toNat, by omega⟩
  rw [hd, show (128 : Int) = ((128 : Nat) : Int) from rfl, i64_or_nat d 128 (by omega) (by omega)]
  have : d ||| 128 = d + 128 := by
    have := Nat.two_pow_add_eq_or_of_lt (i := 7) (b := d) (by omega) 1
    rw [show 2 ^ 7 * 1 = 128 from rfl] at this
    rw [Nat.or_comm]; omega
  rw [this]; omega
theorem encN_more (m : Nat) : ∀ n, 0 ≤ n → n < 128 ^ (m + 1) → encN (m + 1) n = encN m n := by
  induction m with
  | zero => intro n h0 h1; simp only [encN]; rw [if_pos (by omega)]
  | succ m ih =>
    intro n h0 h1
    rw [encN]
    conv => rhs; rw [encN]
    split
    · rfl
    · rw [ih (n / 128) (by omega) (by rw [Int.pow_succ] at h1; omega)]
theorem encN_len (m : Nat) (n : Int) : 1 ≤ (encN m n).length ∧ (encN m n).length ≤ m + 1 := by
  induction m generalizing n with
  | zero => simp [encN]
  | succ m ih =>
    rw [encN]
    split
    · simp
    · have := ih (n / 128); simp only [List.length_cons]; omega
theorem enc_six {n : Int} (h0 : 0 ≤ n) (h1 : n < 4398046511104) : enc n = encN 5 n := by
  unfold enc
  rw [encN_more 8 n h0 (by omega), encN_more 7 n h0 (by omega), encN_more 6 n h0 (by omega), encN_more 5 n h0 (by omega)]
theorem enc_len {n : Int} (h0 : 0 ≤ n) (h1 : n ≤ 1099511627776) : 1 ≤ (enc n).length ∧ (enc n).length ≤ 6 := by
  rw [enc_six h0 (by omega)]; exact encN_len 5 n
theorem encN_bytes (m : Nat) : ∀ n, 0 ≤ n → n < 128 ^ (m + 1) → ∀ x ∈ encN m n, 0 ≤ x ∧ x < 256 := by
  induction m with
  | zero => intro n h0 h1 x hx; simp [encN] at hx; omega
  | succ m ih =>
    intro n h0 h1 x hx
    rw [encN] at hx
    split at hx
    · simp at hx; omega
    · rcases List.mem_cons.1 hx with rfl | hx
      · omega
      · exact ih (n / 128) (by omega) (by rw [Int.pow_succ] at h1; omega) x hx
theorem enc_bytes {n : Int} (h0 : 0 ≤ n) (h1 : n ≤ 1099511627776) : ∀ x ∈ enc n, 0 ≤ x ∧ x < 256 := by
  rw [enc_six h0 (by omega)]; exact encN_bytes 5 n h0 (by omega)
theorem rd_append_right (a b : List Int) (i : Int) (h : (a.length : Int) ≤ i) : rd (a ++ b) i = rd b (i - a.length) := by
  unfold rd
  rw [List.getD_eq_getElem?_getD, List.getD_eq_getElem?_getD, List.getElem?_append_right (by omega)]
  congr 2; omega
theorem rd_cons_zero (x : Int) (l : List Int) : rd (x :: l) 0 = x := by simp [rd]
/-- What is put is taken, from any byte of it on. -/
theorem takeGo_enc (l : List Int) (at_ : Int) : ∀ (m : Nat) (k acc n : Int) (ahead behind : List Int), l = ahead ++ encN m n ++ behind → at_ + k = ahead.length → 0 ≤ k → k + m = 5 → 0 ≤ n → n < 128 ^ (m + 1) → (k = 0 ∨ 0 < n) →
    0 ≤ acc → acc + n * 128 ^ k.toNat ≤ 1099511627776 → takeGo l at_ (m + 1) k acc = (acc + n * 128 ^ k.toNat, at_ + k + (encN m n).length, 0) := by
  intro m
  induction m with
  | zero =>
    intro k acc n ahead behind hl hk h0 hm hn0 hn1 hz ha hM
    have hlen : ¬ at_ + k = l.length := by rw [hl, hk]; simp [encN]; omega
    have hr : rd l (at_ + k) = n := by
      rw [hl, List.append_assoc, hk, rd_append_right _ _ _ (by omega), Int.sub_self, encN]; exact rd_cons_zero _ _
    have e : n % 128 = n := by omega
    rw [tg_ok hlen hr (by omega) (by omega) (by rw [e]; exact hM), e]
    simp [encN]
  | succ m ih =>
    intro k acc n ahead behind hl hk h0 hm hn0 hn1 hz ha hM
    rw [encN] at hl
    by_cases h : n < 128
    · rw [if_pos h] at hl
      have hlen : ¬ at_ + k = l.length := by rw [hl, hk]; simp; omega
      have hr : rd l (at_ + k) = n := by
        rw [hl, List.append_assoc, hk, rd_append_right _ _ _ (by omega), Int.sub_self]; exact rd_cons_zero _ _
      have e : n % 128 = n := by omega
      rw [tg_ok hlen hr (by omega) (by omega) (by rw [e]; exact hM), e, encN, if_pos h]
      simp
    · rw [if_neg h] at hl
      have hlen : ¬ at_ + k = l.length := by rw [hl, hk]; simp; omega
      have hr : rd l (at_ + k) = n % 128 + 128 := by
        rw [hl, List.append_assoc, hk, rd_append_right _ _ _ (by omega), Int.sub_self]; exact rd_cons_zero _ _
      rw [tg_more hlen hr (by omega) (by omega)]
      have e1 : (n % 128 + 128) % 128 = n % 128 := by omega
      have e2 : (k + 1).toNat = k.toNat + 1 := by omega
      have e3 : acc + n % 128 * 128 ^ k.toNat + n / 128 * 128 ^ (k + 1).toNat = acc + n * 128 ^ k.toNat := by
        rw [e2, Int.pow_succ]
        have : n = n % 128 + n / 128 * 128 := by omega
        conv => rhs; rw [this]
        rw [Int.add_mul, Int.mul_assoc, Int.mul_comm (128 ^ k.toNat) 128]
        omega
      have hp : 0 ≤ n % 128 * 128 ^ k.toNat := Int.mul_nonneg (by omega) (Int.pow_nonneg (by omega))
      rw [e1, ih (k + 1) (acc + n % 128 * 128 ^ k.toNat) (n / 128) (ahead ++ [n % 128 + 128]) behind (by rw [hl]; simp) (by simp; omega) (by omega) (by omega) (by omega) (by rw [Int.pow_succ] at hn1; omega) (by omega) (by omega) (by rw [e3]; exact hM), e3]
      rw [encN, if_neg h]
      simp
      omega
theorem takeNum_enc (ahead behind : List Int) (n : Int) (h0 : 0 ≤ n) (h1 : n ≤ 1099511627776) : takeNum (ahead ++ enc n ++ behind) ahead.length = (n, (ahead.length : Int) + (enc n).length, 0) := by
  unfold takeNum
  rw [if_neg (by omega), if_neg (by simp; omega), enc_six h0 (by omega)]
  have := takeGo_enc (ahead ++ encN 5 n ++ behind) ahead.length 5 0 0 n ahead behind rfl (by omega) (by omega) (by omega) h0 (by omega) (by omega) (by omega) (by simpa using h1)
  rw [this]; simp
end Go.Proofs.Ytmmiipnmimjojaa.PS
end
section
namespace Go.Proofs.Ytmmiipnmimjojaa.PS
open Go.RowKit Go.Proofs.YtmmiipnmimjojaaW.PrintWords Go.Proofs.YtmmiipnmimjojaaW.PrintLast Go.Proofs.YtmmiipnmimjojaaW.PrintMore
attribute [local go_sem] max2_int min2_int max_two min_two max_three min_three max_four min_four   -- for this text's walks alone
set_option linter.unusedVariables false
set_option linter.unusedSimpArgs false

def wire_number.l0 : Nat → List Int → Int → Option (List Int)
  | 0, _, _ => none
  | k + 1, x0, x1 => if x1 ≥ 128 then (if x0.length < 140737488355328 then (wire_number.l0 k (x0 ++ [(Go.bits .or .i64 (Go.bits .and .i64 x1 127) 128) % 256]) (x1 / 128)) else (none)) else (if x0.length < 140737488355328 then (some (x0 ++ [(x1) % 256])) else (none))
def wire_number.f (k : Nat) (l0 : List Int) (a1 : Int) : Option (List Int) := wire_number.l0 k l0 a1
theorem wire_number.mono_l : ∀ k, (∀ y0 y1, LeO (wire_number.l0 k y0 y1) (wire_number.l0 (k + 1) y0 y1))
  | 0 => fun _ _ r h => by simp [wire_number.l0] at h
  | k + 1 => by
    have ih0 := wire_number.mono_l k
    · intro y0 y1
      unfold wire_number.l0
      repeat' first
      | (with_reducible exact ih0 _ _)
      | (with_reducible exact LeO.refl _)
      | (with_reducible exact LeO.none _)
      | (with_reducible refine LeO.ite ?_ ?_)
      | (with_reducible refine LeO.bind ?_ (fun _ => ?_))
      | exact ih0 _ _
      | exact LeO.none _
      | refine LeO.ite ?_ ?_
      | refine LeO.bind ?_ (fun _ => ?_)
theorem wire_number.mono : ∀ a0 a1 k, LeO (wire_number.f k a0 a1) (wire_number.f (k + 1) a0 a1) := by
  intro a0 a1 k
  have ih0 := wire_number.mono_l k
  unfold wire_number.f
  repeat' first
      | (with_reducible exact ih0 _ _)
      | (with_reducible exact LeO.refl _)
      | (with_reducible exact LeO.none _)
      | (with_reducible refine LeO.ite ?_ ?_)
      | (with_reducible refine LeO.bind ?_ (fun _ => ?_))
      | exact ih0 _ _
      | exact LeO.none _
      | refine LeO.ite ?_ ?_
      | refine LeO.bind ?_ (fun _ => ?_)
set_option maxHeartbeats 8000000 in
set_option maxRecDepth 100000 in
theorem wire_number.calls (k : Nat) (P0_ : Nat → Prop) (u9000_ : Value) (l0 : List Int) (a1 : Int) (r : List Int) (w0 w : World) (hB : Below w0.heap.size w0 w) (ho0 : Kd.R (Kd.int .u8) 5 w w0.heap.size P0_ u9000_ l0) (h : wire_number.f k l0 a1 = some r) :
    Calls Try.prog 110 #[u9000_, .int .i64 a1] w fun e w' => ∃ v0_ : Value, e = .returned (v0_) ∧ Kd.R (Kd.int .u8) 5 w' w0.heap.size (fun k_ => (P0_ k_ ∨ w.heap.size ≤ k_)) v0_ r ∧ Below w0.heap.size w0 w' ∧ Kept w w' (fun k_ => P0_ k_) := by
  have HO0 := Aside0.mk (show Kd.R (Kd.int .u8) 5 w w0.heap.size (fun k_ => (P0_ k_ ∨ w.heap.size ≤ k_)) u9000_ l0 from Kd.R_mono ho0 (fun k_ hk => (.inl hk)))
  have HK := Aside0.mk (Kept.refl w (fun k_ => P0_ k_))
  have HW0 := Aside0.mk hB.size
  have HB := Aside0.mk hB
  clear hB
  have H : (wire_number.l0 k l0 a1) = some r := h
  clear h
  have H' := Aside0.mk H
  clear H
  go_enter Try.func110, Try.ntmps110
  go_wp2
  go_loopg [0, 1] k (fun kq v0 v1 w' => ∃ (x0_1 : List Int) (x1_1 : Int), v1 = .int .i64 x1_1 ∧ Aside0 (wire_number.l0 kq x0_1 x1_1 = some r) ∧ Aside0 (kq ≤ k) ∧ Aside0 (Kd.R (Kd.int .u8) 5 w' w0.heap.size (fun k_ => (P0_ k_ ∨ w.heap.size ≤ k_)) v0 x0_1) ∧ Aside0 (Kept w w' (fun k_ => P0_ k_)) ∧ Aside0 (Below w0.heap.size w0 w'))
  case atStart => exact ⟨(l0), (a1), (by first | rfl | (simp; done) | (simp [*]; done)), H', ⟨Nat.le_refl _⟩, ⟨by (with_reducible repeat (first | apply Kd.R_alloc | apply Kd.R_drewN | apply Kd.R_drew)); exact HO0.out⟩, ⟨by repeat (first | (with_reducible first | exact HK.out | apply Kept.alloc | apply Kept.drewN | apply Kept.drew) | exact HK.out)⟩, ⟨by repeat (first | (with_reducible first | exact HB.out | apply below_alloc | apply pw_below_drewN | apply below_drew1) | exact HB.out)⟩⟩
  case round =>
    clear H'
    try clear c1
    try clear p2
    obtain ⟨x0_1, x1_1, rfl, HA, HK1, HO_0, HK, HB⟩ := hrel
    cases gk with
    | zero => exact absurd HA.out (by simp [wire_number.l0])
    | succ k1 =>
      have H := HA.out
      clear HA
      simp only [wire_number.l0] at H
      by_cases c3 : x1_1 ≥ 128
      · rw [if_pos c3] at H
        have c3b0 : decide (128 ≤ x1_1) = true := decide_eq_true c3
        clear c3
        by_cases c4 : x0_1.length < 140737488355328
        · rw [if_pos c4] at H
          have LMc4 := Aside0.mk c4
          clear c4
          obtain ⟨y159, hy159⟩ : ∃ y_ : List Int, y_ = (x0_1 ++ [(Go.bits .or .i64 (Go.bits .and .i64 x1_1 127) 128) % 256]) := ⟨_, rfl⟩
          replace H : (wire_number.l0 k1 y159 (x1_1 / 128)) = some r := by first | (rw [hy159]; with_reducible exact H) | (have H2_ := (Option.bind_some _ _).symm.trans H; rw [hy159]; with_reducible exact H2_) | (have H2_ := (Option.bind_some _ _).symm.trans H; with_reducible exact H2_) | with_reducible exact H | (rw [hy159]; exact H) | exact H
          have Ny159 := Aside0.mk hy159
          clear hy159
          have H' := Aside0.mk H
          clear H
          go_wp2_with (first | ((with_reducible refine gate_builtin (b := .append) (xs := #[.tmp 7, .tmp 12]) rfl ?_); at_builtin; refine Kd.R_append (Kd.int .u8) (w0 := w0) w0.heap.size rfl (.tmp 7) (.tmp 12) 22 5 (.int .u8 0) 1 rfl Try.underlying22 info5 rfl (by decide) (by omega) u0 x0_1 ((Go.bits .or .i64 (Go.bits .and .i64 x1_1 127) 128) % 256) [.int .u8 ((Go.bits .or .i64 (Go.bits .and .i64 x1_1 127) 128) % 256)] (fun k_ => (P0_ k_ ∨ w.heap.size ≤ k_)) (fun _ => False) rfl rfl ?aP (fun _ hk => hk.elim) ?aF ?aO ?aB ?aS ?aL ?_; (case aP => exact rfl); (case aB => exact (by repeat (first | (with_reducible first | exact HB.out | apply below_alloc | apply pw_below_drewN | apply below_drew1) | exact HB.out))); (case aF => exact (fun k_ hk => (.inr (Nat.le_trans (by first | exact HK.out.1 | exact (show Kept w _ (fun k_ => P0_ k_) from by repeat (first | (with_reducible first | exact HK.out | apply Kept.alloc | apply Kept.drewN | apply Kept.drew) | exact HK.out)).1) hk)))); (case aO => exact (by (with_reducible repeat (first | apply Kd.R_alloc | apply Kd.R_drewN | apply Kd.R_drew)); exact HO_0.out)); (case aS => exact (below_size (by repeat (first | (with_reducible first | exact HB.out | apply below_alloc | apply pw_below_drewN | apply below_drew1) | exact HB.out)))); (case aL => have := LMc4.out; omega); intro v160 w5 ho hb hg hat; rw [← Ny159.out] at ho; have n0_ := Aside0.mk (hb); have n1_ := Aside0.mk (Kept.of_grown (S := (fun k_ => P0_ k_)) hg (by repeat (first | (with_reducible first | exact HK.out | apply Kept.alloc | apply Kept.drewN | apply Kept.drew) | exact HK.out)) (fun k_ e_ => (HO_0.out.1 k_ e_))); have n2_ := Aside0.mk (ho); clear HB; clear HK; clear HO_0; have HB := n0_; have HK := n1_; have HO161 := n2_; clear n0_ n1_ n2_; clear ho hb hg hat))
          go_roundg k1
          case measure => have := HK1.out; omega
          case rel => exact ⟨(y159), (x1_1 / 128), (by first | rfl | (simp; done) | (simp [*]; done)), H', ⟨by have := HK1.out; omega⟩, ⟨by (with_reducible repeat (first | apply Kd.R_alloc | apply Kd.R_drewN | apply Kd.R_drew)); exact HO161.out⟩, ⟨by repeat (first | (with_reducible first | exact HK.out | apply Kept.alloc | apply Kept.drewN | apply Kept.drew) | exact HK.out)⟩, ⟨by repeat (first | (with_reducible first | exact HB.out | apply below_alloc | apply pw_below_drewN | apply below_drew1) | exact HB.out)⟩⟩
        · rw [if_neg c4] at H
          exact absurd H (by simp)
      · rw [if_neg c3] at H
        have c3b0 : decide (128 ≤ x1_1) = false := decide_eq_false c3
        clear c3
        by_cases c6 : x0_1.length < 140737488355328
        · rw [if_pos c6] at H
          have LMc6 := Aside0.mk c6
          clear c6
          obtain ⟨y162, hy162⟩ : ∃ y_ : List Int, y_ = (x0_1 ++ [(x1_1) % 256]) := ⟨_, rfl⟩
          replace H : (some y162) = some r := by first | (rw [hy162]; with_reducible exact H) | (have H2_ := (Option.bind_some _ _).symm.trans H; rw [hy162]; with_reducible exact H2_) | (have H2_ := (Option.bind_some _ _).symm.trans H; with_reducible exact H2_) | with_reducible exact H | (rw [hy162]; exact H) | exact H
          have Ny162 := Aside0.mk hy162
          clear hy162
          obtain rfl := Option.some.inj H
          go_wp2_with (first | ((with_reducible refine gate_builtin (b := .append) (xs := #[.tmp 16, .tmp 19]) rfl ?_); at_builtin; refine Kd.R_append (Kd.int .u8) (w0 := w0) w0.heap.size rfl (.tmp 16) (.tmp 19) 22 5 (.int .u8 0) 1 rfl Try.underlying22 info5 rfl (by decide) (by omega) u0 x0_1 ((x1_1) % 256) [.int .u8 ((x1_1) % 256)] (fun k_ => (P0_ k_ ∨ w.heap.size ≤ k_)) (fun _ => False) rfl rfl ?aP (fun _ hk => hk.elim) ?aF ?aO ?aB ?aS ?aL ?_; (case aP => exact rfl); (case aB => exact (by repeat (first | (with_reducible first | exact HB.out | apply below_alloc | apply pw_below_drewN | apply below_drew1) | exact HB.out))); (case aF => exact (fun k_ hk => (.inr (Nat.le_trans (by first | exact HK.out.1 | exact (show Kept w _ (fun k_ => P0_ k_) from by repeat (first | (with_reducible first | exact HK.out | apply Kept.alloc | apply Kept.drewN | apply Kept.drew) | exact HK.out)).1) hk)))); (case aO => exact (by (with_reducible repeat (first | apply Kd.R_alloc | apply Kd.R_drewN | apply Kd.R_drew)); exact HO_0.out)); (case aS => exact (below_size (by repeat (first | (with_reducible first | exact HB.out | apply below_alloc | apply pw_below_drewN | apply below_drew1) | exact HB.out)))); (case aL => have := LMc6.out; omega); intro v163 w7 ho hb hg hat; rw [← Ny162.out] at ho; have n0_ := Aside0.mk (hb); have n1_ := Aside0.mk (Kept.of_grown (S := (fun k_ => P0_ k_)) hg (by repeat (first | (with_reducible first | exact HK.out | apply Kept.alloc | apply Kept.drewN | apply Kept.drew) | exact HK.out)) (fun k_ e_ => (HO_0.out.1 k_ e_))); have n2_ := Aside0.mk (ho); clear HB; clear HK; clear HO_0; have HB := n0_; have HK := n1_; have HO164 := n2_; clear n0_ n1_ n2_; clear ho hb hg hat))
          go_ret
          exact ⟨_, by first | rfl | (simp [errW_none, errW_some] <;> rfl) | (simp [*, errW_none, errW_some] <;> rfl), by (with_reducible repeat (first | apply Kd.R_alloc | apply Kd.R_drewN | apply Kd.R_drew)); exact HO164.out, by repeat (first | (with_reducible first | exact HB.out | apply below_alloc | apply pw_below_drewN | apply below_drew1) | exact HB.out), by repeat (first | (with_reducible first | exact HK.out | apply Kept.alloc | apply Kept.drewN | apply Kept.drew) | exact HK.out)⟩
        · rw [if_neg c6] at H
          exact absurd H (by simp)

end Go.Proofs.Ytmmiipnmimjojaa.PS
end
section
namespace Go.Proofs.Ytmmiipnmimjojaa.PS
open Go.RowKit Go.Proofs.YtmmiipnmimjojaaW.PrintWords Go.Proofs.YtmmiipnmimjojaaW.PrintLast Go.Proofs.YtmmiipnmimjojaaW.PrintMore
attribute [local go_sem] max2_int min2_int max_two min_two max_three min_three max_four min_four   -- for this text's walks alone
set_option linter.unusedVariables false
set_option linter.unusedSimpArgs false

def wire_Number.f (k : Nat) (a0 : Int) : Option (List Int × Int) := if a0 < 0 then (some (([] : List Int), 2)) else (if a0 > 1099511627776 then (some (([] : List Int), 2)) else ((wire_number.f k ([] : List Int) a0).bind fun t165 => (some (t165, 0))))
theorem wire_Number.mono : ∀ a0 k, LeO (wire_Number.f k a0) (wire_Number.f (k + 1) a0) := by
  intro a0 k
  unfold wire_Number.f
  repeat' first
      | (with_reducible exact wire_number.mono _ _ _)
      | (with_reducible exact LeO.refl _)
      | (with_reducible exact LeO.none _)
      | (with_reducible refine LeO.ite ?_ ?_)
      | (with_reducible refine LeO.bind ?_ (fun _ => ?_))
      | exact wire_number.mono _ _ _
      | exact LeO.none _
      | refine LeO.ite ?_ ?_
      | refine LeO.bind ?_ (fun _ => ?_)
set_option maxHeartbeats 8000000 in
set_option maxRecDepth 100000 in
theorem wire_Number.calls (k : Nat) (a0 : Int) (r1 : List Int) (r2 : Int) (w : World) (h : wire_Number.f k a0 = some (r1, r2)) :
    Calls Try.prog 134 #[.int .i64 a0] w fun e w' => ∃ v0_ : Value, e = .returned (.tuple #[v0_, .int .i64 r2]) ∧ Kd.R (Kd.int .u8) 5 w' w.heap.size (fun _ => True) v0_ r1 ∧ Below w.heap.size w w' := by
  have HB := Aside0.mk (Below.refl w.heap.size w)
  have H : (if a0 < 0 then (some (([] : List Int), 2)) else (if a0 > 1099511627776 then (some (([] : List Int), 2)) else ((wire_number.f k ([] : List Int) a0).bind fun t165 => (some (t165, 0))))) = some (r1, r2) := h
  clear h
  by_cases c2 : a0 < 0
  · rw [if_pos c2] at H
    have c2b0 : decide (a0 < 0) = true := decide_eq_true c2
    clear c2
    simp only [Option.some.injEq, Prod.mk.injEq] at H
    obtain ⟨rfl, rfl⟩ := H
    go_enter Try.func134, Try.ntmps134
    go_wp2
    go_ret2
    exact ⟨_, by first | rfl | (simp [errW_none, errW_some] <;> rfl) | (simp [*, errW_none, errW_some] <;> rfl), by first | exact Kd.R_nil _ _ _ _ _ | exact Kd.N_nil _ _ _ _ _ | exact Kd.V_nil _ _ _ _ _ | exact Kd.Q_nil _ _ _ _ _ | exact Kd.S_nil _ _ _ _ _, by repeat (first | (with_reducible first | exact HB.out | apply below_alloc | apply pw_below_drewN | apply below_drew1) | exact HB.out)⟩
  · rw [if_neg c2] at H
    have c2b0 : decide (a0 < 0) = false := decide_eq_false c2
    clear c2
    by_cases c3 : a0 > 1099511627776
    · rw [if_pos c3] at H
      have c3b0 : decide (1099511627776 < a0) = true := decide_eq_true c3
      clear c3
      simp only [Option.some.injEq, Prod.mk.injEq] at H
      obtain ⟨rfl, rfl⟩ := H
      go_enter Try.func134, Try.ntmps134
      go_wp2
      go_ret2
      exact ⟨_, by first | rfl | (simp [errW_none, errW_some] <;> rfl) | (simp [*, errW_none, errW_some] <;> rfl), by first | exact Kd.R_nil _ _ _ _ _ | exact Kd.N_nil _ _ _ _ _ | exact Kd.V_nil _ _ _ _ _ | exact Kd.Q_nil _ _ _ _ _ | exact Kd.S_nil _ _ _ _ _, by repeat (first | (with_reducible first | exact HB.out | apply below_alloc | apply pw_below_drewN | apply below_drew1) | exact HB.out)⟩
    · rw [if_neg c3] at H
      have c3b0 : decide (1099511627776 < a0) = false := decide_eq_false c3
      clear c3
      replace H := Option.bind_eq_some_iff.mp H
      obtain ⟨t165, A40, H⟩ := H
      replace H : (some (t165, 0)) = some (r1, r2) := H
      have A4 := Aside0.mk A40
      clear A40
      simp only [Option.some.injEq, Prod.mk.injEq] at H
      obtain ⟨rfl, rfl⟩ := H
      go_enter Try.func134, Try.ntmps134
      go_wp2_with (first | ((with_reducible refine gate_callee (f := 110) rfl ?_); refine goesL_ (some 11) rfl rfl Try.func110 (by kernel_rfl) rfl #[.slice none 0 0, .int .i64 a0] rfl (by (try simp only [List.map_toArray, List.map_cons, List.map_nil]); first | done | rfl | (simp only [List.length_drop, List.length_take]; rfl)) ?_; (refine (wire_number.calls k (fun k_ => some k_ = (.slice none 0 0 : Value).ownBlock) (.slice none 0 0) ([] : List Int) a0 t165 w _ ?side1 ?side2 A4.out).mono ?_); (case side1 => repeat (first | (with_reducible first | exact HB.out | apply below_alloc | apply pw_below_drewN | apply below_drew1) | exact HB.out)); (case side2 => exact Kd.R_nil _ _ _ _ _); rintro e w5 ⟨v166, rfl, ho0, hb, hkp⟩; refine ⟨_, rfl, ?_⟩; have n0_ := Aside0.mk (Kd.R_mono (ok' := fun k_ => True) ho0 (fun k_ hk_ => trivial)); have n1_ := Aside0.mk (hb); clear HB; have HO167 := n0_; have HB := n1_; clear n0_ n1_; (try clear hb); (try clear hkp); (try clear ho0)))
      go_ret2
      exact ⟨_, by first | rfl | (simp [errW_none, errW_some] <;> rfl) | (simp [*, errW_none, errW_some] <;> rfl), by (with_reducible repeat (first | apply Kd.R_alloc | apply Kd.R_drewN | apply Kd.R_drew)); exact HO167.out, by repeat (first | (with_reducible first | exact HB.out | apply below_alloc | apply pw_below_drewN | apply below_drew1) | exact HB.out)⟩

end Go.Proofs.Ytmmiipnmimjojaa.PS
end
section
namespace Go.Proofs.Ytmmiipnmimjojaa.PS
open Go.RowKit Go.Proofs.YtmmiipnmimjojaaW.PrintWords Go.Proofs.YtmmiipnmimjojaaW.PrintLast Go.Proofs.YtmmiipnmimjojaaW.PrintMore
set_option linter.unusedVariables false
set_option linter.unusedSimpArgs false

theorem number_l0 : ∀ (m k : Nat) (b : List Int) (n : Int), 0 ≤ n → n < 128 ^ (m + 1) → n ≤ 9223372036854775807 → m < k → b.length + m < 140737488355328 → wire_number.l0 k b n = some (b ++ encN m n) := by
  intro m
  induction m with
  | zero =>
    intro k b n h0 h1 h2 hk hb
    obtain ⟨k, rfl⟩ : ∃ j, k = j + 1 := ⟨k - 1, by omega⟩
    simp only [wire_number.l0, encN]
    rw [if_neg (by omega), if_pos (by omega), show n % 256 = n by omega]
  | succ m ih =>
    intro k b n h0 h1 h2 hk hb
    obtain ⟨k, rfl⟩ : ∃ j, k = j + 1 := ⟨k - 1, by omega⟩
    simp only [wire_number.l0, encN]
    by_cases h : n < 128
    · rw [if_neg (by omega), if_pos (by omega), if_pos h, show n % 256 = n by omega]
    · rw [if_pos (by omega), if_pos (by omega), if_neg h, or128 n h0 h2, ih k _ (n / 128) (by omega) (by rw [Int.pow_succ] at h1; omega) (by omega) (by omega) (by simp; omega)]
      simp
theorem number_f {k : Nat} {b : List Int} {n : Int} (h0 : 0 ≤ n) (h1 : n ≤ 9223372036854775807) (hk : 9 < k) (hb : b.length + 9 < 140737488355328) : wire_number.f k b n = some (b ++ enc n) :=
  number_l0 9 k b n h0 (by omega) h1 hk hb
theorem Number_f {k : Nat} {n : Int} (hk : 9 < k) : wire_Number.f k n = some (if n < 0 ∨ n > 1099511627776 then ([], 2) else (enc n, 0)) := by
  unfold wire_Number.f
  by_cases h0 : n < 0
  · rw [if_pos h0, if_pos (.inl h0)]
  · rw [if_neg h0]
    by_cases h1 : n > 1099511627776
    · rw [if_pos h1, if_pos (.inr h1)]
    · rw [if_neg h1, if_neg (by omega), number_f (by omega) (by omega) hk (by simp)]
      simp
end Go.Proofs.Ytmmiipnmimjojaa.PS
end
section
namespace Go.Proofs.Ytmmiipnmimjojaa.PS
open Go.RowKit Go.Proofs.YtmmiipnmimjojaaW.PrintWords Go.Proofs.YtmmiipnmimjojaaW.PrintLast Go.Proofs.YtmmiipnmimjojaaW.PrintMore
attribute [local go_sem] max2_int min2_int max_two min_two max_three min_three max_four min_four   -- for this text's walks alone
set_option linter.unusedVariables false
set_option linter.unusedSimpArgs false

def wire_in.f (a0 : Int) (a1 : Int) (a2 : Int) : Option (Bool) := if a0 ≥ a1 then (some (decide (a0 ≤ a2))) else (some false)
set_option maxHeartbeats 8000000 in
set_option maxRecDepth 100000 in
theorem wire_in.calls (a0 : Int) (a1 : Int) (a2 : Int) (r : Bool) (w : World) (h : wire_in.f a0 a1 a2 = some r) :
    Calls Try.prog 109 #[.int .i64 a0, .int .i64 a1, .int .i64 a2] w fun e w' => e = .returned (.bool r) ∧ Drawn0 w w' := by
  have H : (if a0 ≥ a1 then (some (decide (a0 ≤ a2))) else (some false)) = some r := h
  clear h
  by_cases c4 : a0 ≥ a1
  · rw [if_pos c4] at H
    have c4b0 : decide (a1 ≤ a0) = true := decide_eq_true c4
    clear c4
    obtain rfl := Option.some.inj H
    go_enter Try.func109, Try.ntmps109
    go_wp2
    go_ret
    exact ⟨by first | rfl | (simp; done) | (simp [*]; done), by repeat (first | exact Drawn0.refl _ | apply Drawn0.step)⟩
  · rw [if_neg c4] at H
    have c4b0 : decide (a1 ≤ a0) = false := decide_eq_false c4
    clear c4
    obtain rfl := Option.some.inj H
    go_enter Try.func109, Try.ntmps109
    go_wp2
    go_ret
    exact ⟨by first | rfl | (simp; done) | (simp [*]; done), by repeat (first | exact Drawn0.refl _ | apply Drawn0.step)⟩

end Go.Proofs.Ytmmiipnmimjojaa.PS
end
