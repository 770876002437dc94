import Derived.Test.YtlbioffpcoikaaaERead
import Derived.Test.YtlbioffpcoikaaaEData
import Derived.Test.YtlbioffpcoikaaaPWx8
import Derived.Test.YtlbioffpcoikaaaWire2
namespace Go.Proofs.Ytlbioffpcoikaaa.PW
open Go.RowKit Go.Proofs.YtlbioffpcoikaaaW.PrintWords Go.Proofs.YtlbioffpcoikaaaW.PrintLast Go.Proofs.YtlbioffpcoikaaaW.PrintMore
set_option linter.unusedVariables false
set_option linter.unusedSimpArgs false

/-- The scan's block. -/
def IsSc (w : World) (g : Nat) (A : Option Addr) (n c : Nat) (at_ e : Int) : Prop := w.heap[g]? = some (.cells #[.slice A n c, .int .i64 at_, .int .i64 e] 84 (0, 0)) ∧ 0 ≤ at_ ∧ at_ ≤ n
/-- What a scan's call came to: a value and the place behind it, or the first fault and the value z. -/
def ScPost (w0 w : World) (g : Nat) (A : Option Addr) (n c : Nat) (z : Value) (r : Except Int (Value × Int)) (e : Ending) (w' : World) : Prop :=
  Below w0.heap.size w0 w' ∧ KeepBut w w' g none ∧ match r with
    | .ok (v, at_) => e = .returned v ∧ IsSc w' g A n c at_ 0
    | .error x => e = .returned z ∧ x ≠ 0 ∧ ∃ at_, IsSc w' g A n c at_ x
namespace IsSc
variable {w : World} {g : Nat} {A : Option Addr} {n c : Nat} {at_ e : Int}
theorem cell0 (h : IsSc w g A n c at_ e) : w.cell? ⟨g, 0, none⟩ = some (.slice A n c) := by
  unfold IsSc at h; simp [World.cell?, h.1]
theorem cell1 (h : IsSc w g A n c at_ e) : w.cell? ⟨g, 1, none⟩ = some (.int .i64 at_) := by
  unfold IsSc at h; simp [World.cell?, h.1]
theorem cell2 (h : IsSc w g A n c at_ e) : w.cell? ⟨g, 2, none⟩ = some (.int .i64 e) := by
  unfold IsSc at h; simp [World.cell?, h.1]
theorem frozen (h : IsSc w g A n c at_ e) (j : Nat) : w.frozen? ⟨g, j, none⟩ = false := by
  unfold IsSc at h; simp [World.frozen?, h.1]
theorem set1 (h : IsSc w g A n c at_ e) (b : Int) (h0 : 0 ≤ b) (h1 : b ≤ n) : IsSc (w.setCell ⟨g, 1, none⟩ (.int .i64 b)) g A n c b e := by
  unfold IsSc at h ⊢; refine ⟨?_, h0, h1⟩; simp [World.setCell, Array.getElem?_modify, h.1]
theorem set2 (h : IsSc w g A n c at_ e) (x : Int) : IsSc (w.setCell ⟨g, 2, none⟩ (.int .i64 x)) g A n c at_ x := by
  unfold IsSc at h ⊢; refine ⟨?_, h.2⟩; simp [World.setCell, Array.getElem?_modify, h.1]
theorem drewN (h : IsSc w g A n c at_ e) (k : Nat) : IsSc (w.drewN k) g A n c at_ e := h
theorem lt (h : IsSc w g A n c at_ e) : g < w.heap.size := blk_lt h.1
end IsSc
set_option maxHeartbeats 1000000 in
set_option maxRecDepth 100000 in
theorem fail_calls (w : World) (g : Nat) (A : Option Addr) (n c : Nat) (at_ x : Int) (hI : IsSc w g A n c at_ 0) :
    Calls Try.prog 49 #[.pointer (some ⟨g, 0, none⟩), .int .i64 x] w fun e w' => e = .returned (.tuple #[]) ∧ w' = w.setCell ⟨g, 2, none⟩ (.int .i64 x) := by
  have h2 := hI.cell2
  have hf := hI.frozen
  go_enter Try.func49, Try.ntmps49
  go_wp2
  go_end0
  exact ⟨rfl, rfl⟩
set_option maxHeartbeats 1000000 in
set_option maxRecDepth 100000 in
theorem one_err (w : World) (g : Nat) (A : Option Addr) (n c : Nat) (at_ e least most : Int) (hI : IsSc w g A n c at_ e) (he : e ≠ 0) :
    Calls Try.prog 47 #[.pointer (some ⟨g, 0, none⟩), .int .i64 least, .int .i64 most] w fun e' w' => e' = .returned (.int .i64 0) ∧ w' = w := by
  have h2 := hI.cell2
  have hb : (e != 0) = true := by simpa using he
  go_enter Try.func47, Try.ntmps47
  go_wp2
  go_ret
  exact ⟨rfl, rfl⟩
set_option maxHeartbeats 1000000 in
set_option maxRecDepth 100000 in
theorem num_err (w : World) (g : Nat) (A : Option Addr) (n c : Nat) (at_ e least : Int) (hI : IsSc w g A n c at_ e) (he : e ≠ 0) :
    Calls Try.prog 48 #[.pointer (some ⟨g, 0, none⟩), .int .i64 least] w fun e' w' => e' = .returned (.int .i64 0) ∧ w' = w := by
  have h2 := hI.cell2
  have hb : (e != 0) = true := by simpa using he
  go_enter Try.func48, Try.ntmps48
  go_wp2
  go_ret
  exact ⟨rfl, rfl⟩
set_option maxHeartbeats 1000000 in
set_option maxRecDepth 100000 in
theorem one_ok (w0 w : World) (g : Nat) (A : Option Addr) (c : Nat) (l : List Int) (at_ least most : Int) (hr : Kd.C (Kd.int .u8) w A l.length l) (hc : l.length ≤ c) (hI : IsSc w g A l.length c at_ 0)
    (hB : Below w0.heap.size w0 w) (hg : w0.heap.size ≤ g) (hok : okLen l) (r : Except Int (Value × Int)) (hres : exMap (.int .i64) (rdByte l at_ least most) = r) :
    Calls Try.prog 47 #[.pointer (some ⟨g, 0, none⟩), .int .i64 least, .int .i64 most] w fun e w' => ScPost w0 w g A l.length c (.int .i64 0) r e w' := by
  have h0 := hI.cell0
  have h1 := hI.cell1
  have h2 := hI.cell2
  have hf := hI.frozen
  have b0 := hI.2.1
  have b1 := hI.2.2
  have b2 := hok.2
  have hcb := okBytes_rd hok.1 at_
  have H0 := Aside0.mk hB
  have HI := Aside0.mk hI
  have HS := Aside0.mk hres
  clear hB hI hres hok
  by_cases he : at_ = l.length
  · have hb : decide ((l.length : Int) ≤ at_) = true := by simp; omega
    have HE := Aside0.mk he
    clear he
    go_enter Try.func47, Try.ntmps47
    go_wp2_with fail
    go_quiet (fail)
    go_wp2_with fail
    refine (fail_calls _ g A l.length c at_ 3 (HI.out.drewN _)).mono ?_
    rintro e w2 ⟨rfl, rfl⟩
    go_wp2
    go_ret
    have hx : r = .error 3 := by rw [← HS.out, rdByte, if_pos HE.out]; rfl
    subst hx
    exact ⟨(pw_below_drewN H0.out _).setCell (p := ⟨g, 2, none⟩) hg _, (keep_drewN (KeepBut.refl _ _ _) _).set_ 2 _, rfl, by decide, _, (HI.out.drewN _).set2 _⟩
  · have hb : decide ((l.length : Int) ≤ at_) = false := by simp; omega
    have hlt : at_ < l.length := by omega
    obtain ⟨ad, rfl, hcell⟩ := Kd.at_int hr at_ b0 hlt
    obtain ⟨x, hx⟩ : ∃ x, rd l at_ = x := ⟨_, rfl⟩
    rw [hx] at hcell hcb
    have HX := Aside0.mk hx
    clear hx hr
    have HE := Aside0.mk he
    clear he
    by_cases hl : x < least
    · have hl1 : decide (x < least) = true := by simpa using hl
      go_enter Try.func47, Try.ntmps47
      go_wp2_with fail
      go_quiet (fail)
      go_wp2_with fail
      go_quiet (fail)
      go_wp2_with fail
      refine (fail_calls _ g _ l.length c at_ 4 (HI.out.drewN _)).mono ?_
      rintro e w2 ⟨rfl, rfl⟩
      go_wp2
      go_ret
      have hx : r = .error 4 := by rw [← HS.out, rdByte, if_neg HE.out, HX.out, if_pos hl]; rfl
      subst hx
      exact ⟨(pw_below_drewN H0.out _).setCell (p := ⟨g, 2, none⟩) hg _, (keep_drewN (KeepBut.refl _ _ _) _).set_ 2 _, rfl, by decide, _, (HI.out.drewN _).set2 _⟩
    · have hl1 : decide (x < least) = false := by simpa using hl
      by_cases hm : most < x
      · have hm1 : decide (most < x) = true := by simpa using hm
        go_enter Try.func47, Try.ntmps47
        go_wp2_with fail
        go_quiet (fail)
        go_wp2_with fail
        go_quiet (fail)
        go_wp2_with fail
        refine (fail_calls _ g _ l.length c at_ 4 (HI.out.drewN _)).mono ?_
        rintro e w2 ⟨rfl, rfl⟩
        go_wp2
        go_ret
        have hx : r = .error 4 := by rw [← HS.out, rdByte, if_neg HE.out, HX.out, if_neg (by omega), if_pos hm]; rfl
        subst hx
        exact ⟨(pw_below_drewN H0.out _).setCell (p := ⟨g, 2, none⟩) hg _, (keep_drewN (KeepBut.refl _ _ _) _).set_ 2 _, rfl, by decide, _, (HI.out.drewN _).set2 _⟩
      · have hm1 : decide (most < x) = false := by simpa using hm
        go_enter Try.func47, Try.ntmps47
        go_wp2_with fail
        go_quiet (fail)
        go_wp2_with fail
        go_quiet (fail)
        go_wp2
        go_ret
        have hx : r = .ok (.int .i64 x, at_ + 1) := by rw [← HS.out, rdByte, if_neg HE.out, HX.out, if_neg (by omega), if_neg (by omega)]; rfl
        subst hx
        exact ⟨(pw_below_drewN H0.out _).setCell (p := ⟨g, 1, none⟩) hg _, (keep_drewN (KeepBut.refl _ _ _) _).set_ 1 _, rfl, (HI.out.drewN _).set1 _ (by omega) (by omega)⟩
theorem reft_same (A0 : Option Addr) (c0 : Nat) (l0 : List Int) (a1 : Int) (w : World) (hr0 : Kd.C (Kd.int .u8) w A0 l0.length l0) (hc0 : l0.length ≤ c0) (hok : okLen l0) (r1 r2 r3 : Int) (h : takeNum l0 a1 = (r1, r2, r3)) :
    Calls Try.prog 18 #[.slice A0 l0.length c0, .int .i64 a1] w fun e w' => e = .returned (.tuple #[.int .i64 r1, .int .i64 r2, .int .i64 r3]) ∧ ∃ m, w' = w.drewN m :=
  (tollgateref02_TakeNumber.calls 21 A0 c0 l0 a1 r1 r2 r3 w hr0 hc0 (by rw [refTake_f hok.1 hok.2 (by omega), h])).mono fun _ _ ⟨he, hd⟩ => ⟨he, hd.out⟩
set_option maxHeartbeats 1000000 in
set_option maxRecDepth 100000 in
theorem num_ok (w0 w : World) (g : Nat) (A : Option Addr) (c : Nat) (l : List Int) (at_ least : Int) (hr : Kd.C (Kd.int .u8) w A l.length l) (hc : l.length ≤ c) (hI : IsSc w g A l.length c at_ 0)
    (hB : Below w0.heap.size w0 w) (hg : w0.heap.size ≤ g) (hok : okLen l) (r : Except Int (Value × Int)) (hres : exMap (.int .i64) (rdNum l at_ least) = r) :
    Calls Try.prog 48 #[.pointer (some ⟨g, 0, none⟩), .int .i64 least] w fun e w' => ScPost w0 w g A l.length c (.int .i64 0) r e w' := by
  have h0 := hI.cell0
  have h1 := hI.cell1
  have h2 := hI.cell2
  have hf := hI.frozen
  obtain ⟨r1, r2, r3, ht⟩ : ∃ r1 r2 r3, takeNum l at_ = (r1, r2, r3) := ⟨_, _, _, rfl⟩
  have H0 := Aside0.mk hB
  have HI := Aside0.mk hI
  have HR := Aside0.mk hr
  have HS := Aside0.mk hres
  have HT := Aside0.mk ht
  have HK := Aside0.mk hok
  clear hB hI hr hres ht hok
  go_enter Try.func48, Try.ntmps48
  by_cases h3 : r3 = 0
  · have h3b : (r3 != 0) = false := by simp [h3]
    have H3 := Aside0.mk h3
    clear h3
    by_cases hlt : r1 < least
    · have hl : decide (r1 < least) = true := by simpa using hlt
      go_wp2_with fail
      go_quiet ((go_at_call 18; exact Calls.quiet_of (reft_same _ _ _ _ _ (Kd.C_below HR.out (pw_below_drewN (Below.refl _ _) _)) hc HK.out _ _ _ HT.out)))
      go_wp2_with fail
      refine (fail_calls _ g _ l.length c at_ 4 (HI.out.drewN _)).mono ?_
      rintro e w2 ⟨rfl, rfl⟩
      go_wp2
      go_ret
      have hx : r = .error 4 := by rw [← HS.out, rdNum, HT.out]; simp only; rw [if_neg (by simp [H3.out]), if_pos hlt]; rfl
      subst hx
      exact ⟨(pw_below_drewN H0.out _).setCell (p := ⟨g, 2, none⟩) hg _, (keep_drewN (KeepBut.refl _ _ _) _).set_ 2 _, rfl, by decide, _, (HI.out.drewN _).set2 _⟩
    · have hl : decide (r1 < least) = false := by simpa using hlt
      go_wp2_with fail
      go_quiet ((go_at_call 18; exact Calls.quiet_of (reft_same _ _ _ _ _ (Kd.C_below HR.out (pw_below_drewN (Below.refl _ _) _)) hc HK.out _ _ _ HT.out)))
      go_wp2
      go_ret
      have hx : r = .ok (.int .i64 r1, r2) := by rw [← HS.out, rdNum, HT.out]; simp only; rw [if_neg (by simp [H3.out]), if_neg (by omega)]; rfl
      subst hx
      have hb := takeNum_ok (r1 := r1) (r2 := r2) HK.out.1 (by rw [HT.out, H3.out])
      exact ⟨(pw_below_drewN H0.out _).setCell (p := ⟨g, 1, none⟩) hg _, (keep_drewN (KeepBut.refl _ _ _) _).set_ 1 _, rfl, (HI.out.drewN _).set1 _ (by omega) (by omega)⟩
  · have h3b : (r3 != 0) = true := by simp [h3]
    go_wp2_with fail
    go_quiet ((go_at_call 18; exact Calls.quiet_of (reft_same _ _ _ _ _ (Kd.C_below HR.out (pw_below_drewN (Below.refl _ _) _)) hc HK.out _ _ _ HT.out)))
    go_wp2_with fail
    refine (fail_calls _ g _ l.length c at_ r3 (HI.out.drewN _)).mono ?_
    rintro e w2 ⟨rfl, rfl⟩
    go_wp2
    go_ret
    have hx : r = .error r3 := by rw [← HS.out, rdNum, HT.out]; simp only; rw [if_pos h3]; rfl
    subst hx
    exact ⟨(pw_below_drewN H0.out _).setCell (p := ⟨g, 2, none⟩) hg _, (keep_drewN (KeepBut.refl _ _ _) _).set_ 2 _, rfl, h3, _, (HI.out.drewN _).set2 _⟩
end Go.Proofs.Ytlbioffpcoikaaa.PW
