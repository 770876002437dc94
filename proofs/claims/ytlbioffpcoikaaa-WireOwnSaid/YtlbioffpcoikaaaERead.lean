import Derived.Test.YtlbioffpcoikaaaETake
import Derived.Defers
import Derived.Recover
import Derived.Deep.QuietTactic
import Derived.BigQuiet
import Derived.WalkSpells
import Derived.WalkLawsBesides
namespace Go.Proofs.Ytlbioffpcoikaaa.PW
open Go.RowKit Go.Proofs.YtlbioffpcoikaaaW.PrintWords Go.Proofs.YtlbioffpcoikaaaW.PrintLast Go.Proofs.YtlbioffpcoikaaaW.PrintMore
set_option linter.unusedVariables false
set_option linter.unusedSimpArgs false

/-- The reader's block. -/
def IsRd (w : World) (g : Nat) (A : Option Addr) (n c : Nat) (at_ : Int) : Prop := w.heap[g]? = some (.cells #[.slice A n c, .int .i64 at_] 74 (0, 0)) ∧ 0 ≤ at_ ∧ at_ ≤ n
def fault (x : Int) : List PanicEntry := [{ v := .iface 77 (.int .i64 x), recovered := false }]
/-- What a reader's call came to: a value and the place behind it, or a fault. -/
def RdPost (w0 w : World) (g : Nat) (A : Option Addr) (n c : Nat) (r : Except Int (Value × Int)) (e : Ending) (w' : World) : Prop :=
  Below w0.heap.size w0 w' ∧ KeepBut w w' g none ∧ match r with
    | .ok (v, at_) => e = .returned v ∧ IsRd w' g A n c at_
    | .error x => e = .panicked (fault x)

theorem IsRd.cell0 {w : World} {g : Nat} {A : Option Addr} {n c : Nat} {at_ : Int} (h : IsRd w g A n c at_) : w.cell? ⟨g, 0, none⟩ = some (.slice A n c) := by
  unfold IsRd at h; simp [World.cell?, h.1]
theorem IsRd.cell1 {w : World} {g : Nat} {A : Option Addr} {n c : Nat} {at_ : Int} (h : IsRd w g A n c at_) : w.cell? ⟨g, 1, none⟩ = some (.int .i64 at_) := by
  unfold IsRd at h; simp [World.cell?, h.1]
theorem IsRd.frozen {w : World} {g : Nat} {A : Option Addr} {n c : Nat} {at_ : Int} (h : IsRd w g A n c at_) (j : Nat) : w.frozen? ⟨g, j, none⟩ = false := by
  unfold IsRd at h; simp [World.frozen?, h.1]
theorem IsRd.set_ {w : World} {g : Nat} {A : Option Addr} {n c : Nat} {at_ : Int} (h : IsRd w g A n c at_) (b : Int) (h0 : 0 ≤ b) (h1 : b ≤ n) : IsRd (w.setCell ⟨g, 1, none⟩ (.int .i64 b)) g A n c b := by
  unfold IsRd at h ⊢; refine ⟨?_, h0, h1⟩; simp [World.setCell, Array.getElem?_modify, h.1]
theorem IsRd.drewN {w : World} {g : Nat} {A : Option Addr} {n c : Nat} {at_ : Int} (h : IsRd w g A n c at_) (k : Nat) : IsRd (w.drewN k) g A n c at_ := h

theorem take_same (A0 : Option Addr) (c0 : Nat) (l0 : List Int) (a1 : Int) (r1 : Int) (r2 : Int) (r3 : Int) (w : World) (hr0 : Kd.C (Kd.int .u8) w A0 l0.length l0) (hc0 : l0.length ≤ c0) (h : wire_TakeNumber.f l0 a1 = some (r1, r2, r3)) :
    Calls Try.prog 17 #[.slice A0 l0.length c0, .int .i64 a1] w fun e w' => e = .returned (.tuple #[.int .i64 r1, .int .i64 r2, .int .i64 r3]) ∧ ∃ m, w' = w.drewN m :=
  (wire_TakeNumber.calls A0 c0 l0 a1 r1 r2 r3 w hr0 hc0 h).mono fun _ _ ⟨he, hd⟩ => ⟨he, hd.out⟩

theorem takeGo_ok (l : List Int) (at_ : Int) (h0 : 0 ≤ at_) : ∀ (m : Nat) (k n r1 r2 : Int), 0 ≤ k → 0 ≤ n → (∀ i, 0 ≤ rd l i ∧ rd l i ≤ 255) → at_ + k ≤ l.length → takeGo l at_ m k n = (r1, r2, 0) → at_ + k < r2 ∧ r2 ≤ l.length ∧ 0 ≤ r1 ∧ r1 ≤ 1099511627776 := by
  intro m
  induction m with
  | zero => intro k n r1 r2 _ _ _ _ h; simp [takeGo] at h
  | succ m ih =>
    intro k n r1 r2 hk hn hb hkl h
    have hc := hb (at_ + k)
    have hp : 0 ≤ rd l (at_ + k) % 128 * 128 ^ k.toNat := Int.mul_nonneg (by omega) (Int.pow_nonneg (by omega))
    simp only [takeGo] at h
    split at h
    · simp at h
    · split at h
      · split at h
        · simp at h
        · have := ih _ _ _ _ (by omega) (by omega) hb (by omega) h
          omega
      · split at h
        · simp at h
        · split at h
          · simp at h
          · simp only [Prod.mk.injEq] at h
            omega
theorem takeNum_ok {l : List Int} {at_ r1 r2 : Int} (hb : okBytes l = true) (h : takeNum l at_ = (r1, r2, 0)) : at_ < r2 ∧ 0 ≤ r2 ∧ r2 ≤ l.length ∧ 0 ≤ r1 ∧ r1 ≤ 1099511627776 := by
  unfold takeNum at h
  split at h
  · simp at h
  · split at h
    · simp at h
    · have := takeGo_ok l at_ (by omega) 6 0 0 r1 r2 (by omega) (by omega) (okBytes_rd hb) (by omega) h
      omega
/-- r.number(least) -/
def rdNum (l : List Int) (at_ least : Int) : Except Int (Int × Int) :=
  if (takeNum l at_).2.2 ≠ 0 then .error (takeNum l at_).2.2 else if (takeNum l at_).1 < least then .error 4 else .ok ((takeNum l at_).1, (takeNum l at_).2.1)

set_option maxHeartbeats 1000000 in
set_option maxRecDepth 100000 in
theorem number_core (w0 w : World) (g : Nat) (A : Option Addr) (c : Nat) (l : List Int) (at_ least r1 r2 r3 : Int) (hr : Kd.C (Kd.int .u8) w A l.length l) (hc : l.length ≤ c) (hI : IsRd w g A l.length c at_)
    (hB : Below w0.heap.size w0 w) (hg : w0.heap.size ≤ g) (h : wire_TakeNumber.f l at_ = some (r1, r2, r3))
    (hr2 : r3 = 0 → 0 ≤ r2 ∧ r2 ≤ l.length) (r : Except Int (Value × Int)) (hres : (if r3 ≠ 0 then .error r3 else if r1 < least then .error 4 else .ok (.int .i64 r1, r2)) = r) :
    Calls Try.prog 44 #[.pointer (some ⟨g, 0, none⟩), .int .i64 least] w fun e w' => RdPost w0 w g A l.length c r e w' := by
  have h0 := hI.cell0
  have h1 := hI.cell1
  have hf := hI.frozen
  go_enter Try.func44, Try.ntmps44
  have H0 := Aside0.mk hB
  have HI := Aside0.mk hI
  have HR := Aside0.mk hr
  have HH := Aside0.mk h
  have HS := Aside0.mk hres
  have H2 := Aside0.mk hr2
  clear hB hI hr h hres hr2
  by_cases h3 : r3 = 0
  · have h3b : (r3 != 0) = false := by simp [h3]
    have H3 := Aside0.mk h3
    clear h3
    by_cases hlt : r1 < least
    · have hl : decide (r1 < least) = true := by simpa using hlt
      go_wp2_with fail
      go_quiet ((go_at_call 17; exact Calls.quiet_of (take_same _ _ _ _ _ _ _ _ (Kd.C_below HR.out (pw_below_drewN (Below.refl _ _) _)) hc HH.out)))
      go_wp2
      exact ⟨rfl, by rw [← HS.out, if_neg (by simp [H3.out]), if_pos hlt]; exact ⟨pw_below_drewN H0.out _, keep_drewN (KeepBut.refl _ _ _) _, rfl⟩⟩
    · have hl : decide (r1 < least) = false := by simpa using hlt
      go_wp2_with fail
      go_quiet ((go_at_call 17; exact Calls.quiet_of (take_same _ _ _ _ _ _ _ _ (Kd.C_below HR.out (pw_below_drewN (Below.refl _ _) _)) hc HH.out)))
      go_wp2
      go_ret
      rw [← HS.out, if_neg (by simp [H3.out]), if_neg (by omega)]
      exact ⟨(pw_below_drewN H0.out _).setCell (p := ⟨g, 1, none⟩) hg _, (keep_drewN (KeepBut.refl _ _ _) _).set_ 1 _, rfl, (HI.out.drewN _).set_ _ (H2.out H3.out).1 (H2.out H3.out).2⟩
  · have h3b : (r3 != 0) = true := by simp [h3]
    go_wp2_with fail
    go_quiet ((go_at_call 17; exact Calls.quiet_of (take_same _ _ _ _ _ _ _ _ (Kd.C_below HR.out (pw_below_drewN (Below.refl _ _) _)) hc HH.out)))
    go_wp2
    exact ⟨rfl, by rw [← HS.out, if_pos h3]; exact ⟨pw_below_drewN H0.out _, keep_drewN (KeepBut.refl _ _ _) _, rfl⟩⟩
def exMap (f : Int → Value) : Except Int (Int × Int) → Except Int (Value × Int)
  | .ok (n, at_) => .ok (f n, at_)
  | .error x => .error x
def okLen (l : List Int) : Prop := okBytes l = true ∧ l.length ≤ 200000000000000
theorem number_calls (w0 w : World) (g : Nat) (A : Option Addr) (c : Nat) (l : List Int) (at_ least : Int) (hr : Kd.C (Kd.int .u8) w A l.length l) (hc : l.length ≤ c) (hI : IsRd w g A l.length c at_)
    (hB : Below w0.heap.size w0 w) (hg : w0.heap.size ≤ g) (hok : okLen l) :
    Calls Try.prog 44 #[.pointer (some ⟨g, 0, none⟩), .int .i64 least] w fun e w' => RdPost w0 w g A l.length c (exMap (.int .i64) (rdNum l at_ least)) e w' := by
  have h : wire_TakeNumber.f l at_ = some ((takeNum l at_).1, (takeNum l at_).2.1, (takeNum l at_).2.2) := by unfold wire_TakeNumber.f; exact if_pos hok
  refine number_core w0 w g A c l at_ least _ _ _ hr hc hI hB hg h (fun h3 => ?_) _ ?_
  · have := takeNum_ok (l := l) (at_ := at_) (r1 := (takeNum l at_).1) (r2 := (takeNum l at_).2.1) hok.1 (by rw [← h3])
    omega
  · unfold rdNum
    split
    · rfl
    · split <;> rfl

/-- r.byte(least, most) -/
def rdByte (l : List Int) (at_ least most : Int) : Except Int (Int × Int) :=
  if at_ = l.length then .error 3 else if rd l at_ < least then .error 4 else if most < rd l at_ then .error 4 else .ok (rd l at_, at_ + 1)

set_option maxHeartbeats 1000000 in
set_option maxRecDepth 100000 in
theorem byte_calls (w0 w : World) (g : Nat) (A : Option Addr) (c : Nat) (l : List Int) (at_ least most : Int) (hr : Kd.C (Kd.int .u8) w A l.length l) (hc : l.length ≤ c) (hI : IsRd w g A l.length c at_)
    (hB : Below w0.heap.size w0 w) (hg : w0.heap.size ≤ g) (hok : okLen l) (r : Except Int (Value × Int)) (hres : exMap (.int .i64) (rdByte l at_ least most) = r) :
    Calls Try.prog 45 #[.pointer (some ⟨g, 0, none⟩), .int .i64 least, .int .i64 most] w fun e w' => RdPost w0 w g A l.length c r e w' := by
  have h0 := hI.cell0
  have h1 := hI.cell1
  have hf := hI.frozen
  have b0 := hI.2.1
  have b1 := hI.2.2
  have b2 := hok.2
  have hcb := okBytes_rd hok.1 at_
  have H0 := Aside0.mk hB
  have HI := Aside0.mk hI
  have HS := Aside0.mk hres
  clear hB hI hres hok
  by_cases he : at_ = l.length
  · have hb : (at_ == (l.length : Int)) = true := by simpa using he
    have HE := Aside0.mk he
    clear he
    go_enter Try.func45, Try.ntmps45
    go_wp2_with fail
    go_quiet (fail)
    go_wp2
    exact ⟨rfl, by rw [← HS.out, rdByte, if_pos HE.out]; exact ⟨pw_below_drewN H0.out _, keep_drewN (KeepBut.refl _ _ _) _, rfl⟩⟩
  · have hb : (at_ == (l.length : Int)) = false := by simpa using he
    have hlt : at_ < l.length := by omega
    obtain ⟨ad, rfl, hcell⟩ := Kd.at_int hr at_ b0 hlt
    obtain ⟨x, hx⟩ : ∃ x, rd l at_ = x := ⟨_, rfl⟩
    rw [hx] at hcell hcb
    have HX := Aside0.mk hx
    clear hx hr
    have HE := Aside0.mk he
    clear he
    by_cases hl : x < least
    · have hl1 : decide (x < least) = true := by simpa using hl
      go_enter Try.func45, Try.ntmps45
      go_wp2_with fail
      go_quiet (fail)
      go_wp2_with fail
      go_quiet (fail)
      go_wp2
      exact ⟨rfl, by rw [← HS.out, rdByte, if_neg HE.out, HX.out, if_pos hl]; exact ⟨pw_below_drewN H0.out _, keep_drewN (KeepBut.refl _ _ _) _, rfl⟩⟩
    · have hl1 : decide (x < least) = false := by simpa using hl
      by_cases hm : most < x
      · have hm1 : decide (most < x) = true := by simpa using hm
        go_enter Try.func45, Try.ntmps45
        go_wp2_with fail
        go_quiet (fail)
        go_wp2_with fail
        go_quiet (fail)
        go_wp2
        exact ⟨rfl, by rw [← HS.out, rdByte, if_neg HE.out, HX.out, if_neg (by omega), if_pos hm]; exact ⟨pw_below_drewN H0.out _, keep_drewN (KeepBut.refl _ _ _) _, rfl⟩⟩
      · have hm1 : decide (most < x) = false := by simpa using hm
        go_enter Try.func45, Try.ntmps45
        go_wp2_with fail
        go_quiet (fail)
        go_wp2_with fail
        go_quiet (fail)
        go_wp2
        go_ret
        rw [← HS.out, rdByte, if_neg HE.out, HX.out, if_neg (by omega), if_neg (by omega)]
        exact ⟨(pw_below_drewN H0.out _).setCell (p := ⟨g, 1, none⟩) hg _, (keep_drewN (KeepBut.refl _ _ _) _).set_ 1 _, rfl, (HI.out.drewN _).set_ _ (by omega) (by omega)⟩

set_option maxHeartbeats 1000000 in
set_option maxRecDepth 100000 in
theorem end_calls (w0 w : World) (g : Nat) (A : Option Addr) (n c : Nat) (at_ : Int) (hI : IsRd w g A n c at_)
    (hB : Below w0.heap.size w0 w) (hg : w0.heap.size ≤ g) (r : Except Int (Value × Int)) (hres : (if at_ < n then .error 4 else .ok (.tuple #[], at_)) = r) :
    Calls Try.prog 43 #[.pointer (some ⟨g, 0, none⟩)] w fun e w' => RdPost w0 w g A n c r e w' := by
  have h0 := hI.cell0
  have h1 := hI.cell1
  have b0 := hI.2.1
  have b1 := hI.2.2
  have H0 := Aside0.mk hB
  have HI := Aside0.mk hI
  have HS := Aside0.mk hres
  clear hB hI hres
  by_cases he : at_ < n
  · have hb : decide (at_ < (n : Int)) = true := by simpa using he
    go_enter Try.func43, Try.ntmps43
    go_wp2_with fail
    go_quiet (fail)
    go_wp2
    exact ⟨rfl, by rw [← HS.out, if_pos he]; exact ⟨pw_below_drewN H0.out _, keep_drewN (KeepBut.refl _ _ _) _, rfl⟩⟩
  · have hb : decide (at_ < (n : Int)) = false := by simpa using he
    go_enter Try.func43, Try.ntmps43
    go_wp2_with fail
    go_quiet (fail)
    go_wp2
    go_end0
    rw [← HS.out, if_neg (by omega)]
    exact ⟨pw_below_drewN H0.out _, keep_drewN (KeepBut.refl _ _ _) _, rfl, HI.out.drewN _⟩
end Go.Proofs.Ytlbioffpcoikaaa.PW
