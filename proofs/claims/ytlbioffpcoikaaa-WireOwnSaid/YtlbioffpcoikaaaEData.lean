import Derived.Test.YtlbioffpcoikaaaERead
import Derived.StillTailTactics
namespace Go.Proofs.Ytlbioffpcoikaaa.PW
open Go.RowKit Go.Proofs.YtlbioffpcoikaaaW.PrintWords Go.Proofs.YtlbioffpcoikaaaW.PrintLast Go.Proofs.YtlbioffpcoikaaaW.PrintMore
set_option linter.unusedVariables false
set_option linter.unusedSimpArgs false
/-- r.data(most) -/
def rdData (l : List Int) (at_ most : Int) : Except Int (List Int × Int) :=
  match rdNum l at_ 0 with
  | .error x => .error x
  | .ok (n, at1) => if most < n then .error 6 else if (l.length : Int) - at1 < n then .error 3 else .ok ((l.take (at1 + n).toNat).drop at1.toNat, at1 + n)
/-- A call that came to a row of its own. -/
def RowPost (w0 w : World) (g : Nat) (A : Option Addr) (n c : Nat) (r : Except Int (List Int × Int)) (e : Ending) (w' : World) : Prop :=
  Below w0.heap.size w0 w' ∧ KeepBut w w' g none ∧ match r with
    | .ok (xs, at_) => ∃ v, e = .returned v ∧ Kd.R (Kd.int .u8) 5 w' w.heap.size (fun _ => True) v xs ∧ IsRd w' g A n c at_
    | .error x => e = .panicked (fault x)
theorem rdNum_ok {l : List Int} {at_ least n at1 : Int} (hok : okLen l) (h : rdNum l at_ least = .ok (n, at1)) : at_ < at1 ∧ 0 ≤ at1 ∧ at1 ≤ l.length ∧ least ≤ n ∧ 0 ≤ n ∧ n ≤ 1099511627776 := by
  unfold rdNum at h
  split at h
  · cases h
  · rename_i h0
    split at h
    · cases h
    · simp only [Except.ok.injEq, Prod.mk.injEq] at h
      obtain ⟨rfl, rfl⟩ := h
      have := takeNum_ok (l := l) (at_ := at_) (r1 := (takeNum l at_).1) (r2 := (takeNum l at_).2.1) hok.1 (by rw [← Decidable.not_not.1 h0])
      omega

set_option maxHeartbeats 1000000 in
set_option maxRecDepth 100000 in
theorem data_calls (w0 w : World) (g : Nat) (A : Option Addr) (c : Nat) (l : List Int) (at_ most : Int) (hr : Kd.C (Kd.int .u8) w0 A l.length l) (hc : l.length ≤ c) (hI : IsRd w g A l.length c at_)
    (hB : Below w0.heap.size w0 w) (hg : w0.heap.size ≤ g) (hok : okLen l) (hmost : most ≤ 1000000) (r : Except Int (List Int × Int)) (hres : rdData l at_ most = r) :
    Calls Try.prog 46 #[.pointer (some ⟨g, 0, none⟩), .int .i64 most] w fun e w' => RowPost w0 w g A l.length c r e w' := by
  have HS := Aside0.mk hres
  have HI := Aside0.mk hI
  have HB := Aside0.mk hB
  have HR := Aside0.mk hr
  have HK := Aside0.mk hok
  clear hB hI hres hr hok
  go_enter Try.func46, Try.ntmps46
  go_wp2_with fail
  refine (number_calls w0 w g A c l at_ 0 (Kd.C_below HR.out HB.out) hc HI.out HB.out hg HK.out).mono ?_
  rintro e w1 ⟨B1, K1, hm⟩
  cases hn : rdNum l at_ 0 with
  | error x =>
    rw [hn] at hm
    obtain rfl := hm
    have hx : r = .error x := by rw [← HS.out, rdData, hn]
    subst hx
    exact ⟨rfl, B1, K1, rfl⟩
  | ok p =>
    obtain ⟨n, at1⟩ := p
    rw [hn] at hm
    obtain ⟨rfl, I1⟩ := hm
    obtain ⟨q0, q1, q2, q3, q4, q5⟩ := rdNum_ok HK.out hn
    have HN := Aside0.mk hn
    have hlen := HK.out.2
    have c0 := I1.cell0
    have c1 := I1.cell1
    have f1 := I1.frozen
    have HI1 := Aside0.mk I1
    have HB1 := Aside0.mk B1
    have HK1 := Aside0.mk K1
    clear hn I1 B1 K1
    by_cases hm : most < n
    · have hb : decide (most < n) = true := by simpa using hm
      go_wp2
      have hx : r = .error 6 := by rw [← HS.out, rdData, HN.out]; simp only; rw [if_pos (by omega)]
      subst hx
      exact ⟨rfl, HB1.out, HK1.out, rfl⟩
    · have hb : decide (most < n) = false := by simpa using hm
      by_cases hs : (l.length : Int) - at1 < n
      · have hb2 : decide ((l.length : Int) - at1 < n) = true := by simpa using hs
        go_wp2_with fail
        go_quiet (fail)
        go_wp2
        have hx : r = .error 3 := by rw [← HS.out, rdData, HN.out]; simp only; rw [if_neg (by omega), if_pos (by omega)]
        subst hx
        exact ⟨rfl, pw_below_drewN HB1.out _, keep_drewN HK1.out _, rfl⟩
      · have hb2 : decide ((l.length : Int) - at1 < n) = false := by simpa using hs
        obtain ⟨i0, hi0, hz0, hz1, hz2⟩ := info_parts info5
        obtain ⟨A', hsl, hrd, hcap⟩ := print_mid_int (P := Try.prog) (k := .u8) 22 5 Try.underlying22 hi0 hz1 A c l at1 (at1 + n) (by omega) (by omega) (by omega) hc
        have hcap2 : ((l.take (at1 + n).toNat).drop at1.toNat).length ≤ l.length := by rw [List.length_drop, List.length_take]; omega
        have hyl : (((l.take (at1 + n).toNat).drop at1.toNat).length : Int) = n := by rw [List.length_drop, List.length_take]; omega
        obtain ⟨ys, hys⟩ : ∃ ys, (l.take (at1 + n).toNat).drop at1.toNat = ys := ⟨_, rfl⟩
        rw [hys] at hsl hrd hcap hcap2 hyl
        have HY := Aside0.mk hys
        have HYL := Aside0.mk hyl
        have HRD := Aside0.mk hrd
        clear hys hrd hcap hyl
        go_wp2_with fail
        go_quiet (fail)
        go_wp2_with fail
        refine wp_region_still_tail 15 (by kernel_rfl) (by kernel_rfl) ?_
        simp only [List.take_succ_cons, List.take_zero, List.drop_succ_cons, List.drop_zero]
        have hW : ∀ (w : World), ({ heap := w.heap, tape := w.tape, drawn := w.drawn + 1, os := w.os, output := w.output } : World) = w.drew := fun _ => rfl
        simp only [hW]
        have hwr : IntKind.i64.wrap (at1 + n) = at1 + n := IntWalk.i64_in _ (by omega)
        repeat still_step
        refine wpStill_nil ?_
        clear hwr hsl
        have HW2 := Aside0.mk (show Below w0.heap.size w0 (w1.drewN nq).drew from below_drew1 (pw_below_drewN HB1.out _))
        have HK2 := Aside0.mk (show KeepBut w (w1.drewN nq).drew g none from keep_drew (keep_drewN HK1.out _))
        have HI2 := Aside0.mk (show IsRd (w1.drewN nq).drew g A l.length c at1 from HI1.out)
        generalize (w1.drewN nq).drew = w2 at *
        have d0 := HI2.out.cell0
        have d1 := HI2.out.cell1
        have e1 := HI2.out.frozen
        clear c0 c1 f1
        at_builtin
        refine Kd.R_append_row (w0 := w2) (Value.int .u8) (0 : Int) (h1 := fun _ => rfl) w2.heap.size rfl _ _ 22 5 (.int .u8 0) 1 rfl Try.underlying22 info5 rfl (by omega) (.slice none 0 0) [] ys A' ys.length (c - at1.toNat) (fun _ => True) rfl rfl (fun _ _ => trivial) (Kd.R_nil _ _ _ _ _) (Kd.C_of_reads (HRD.out _ (Kd.reads_of_C (Kd.C_below HR.out HW2.out)))) (Below.refl _ _) (Nat.le_refl _) (by have := HYL.out; simp; omega) ?_
        intro v3 w3 R3 B3 G3 at3
        have HR3 := Aside0.mk R3
        have HB3 := Aside0.mk B3
        have hb3 : ∀ j, w3.cell? ⟨g, j, none⟩ = w2.cell? ⟨g, j, none⟩ := fun j => B3.cell (p := ⟨g, j, none⟩) (World.block_lt_of_cell? w2 ⟨g, 0, none⟩ d0)
        have hf3 : ∀ j, w3.frozen? ⟨g, j, none⟩ = false := fun j => (B3.frozen (p := ⟨g, j, none⟩) (World.block_lt_of_cell? w2 ⟨g, 0, none⟩ d0)).trans (e1 j)
        rw [← hb3 0] at d0
        rw [← hb3 1] at d1
        clear R3 B3 G3 at3 hb3 e1
        go_wp2
        go_ret
        have hx : r = .ok (ys, at1 + n) := by rw [← HS.out, rdData, HN.out]; simp only; rw [if_neg (by omega), if_neg (by omega), HY.out]
        subst hx
        have hI3 : IsRd w3 g A l.length c at1 := ⟨(HB3.out.block g (World.block_lt_of_cell? w2 ⟨g, 0, none⟩ (by rw [HI2.out.cell0]))).trans HI2.out.1, HI2.out.2⟩
        have hle : w.heap.size ≤ w2.heap.size := HK2.out.1
        have hlt : g < w.heap.size := World.block_lt_of_cell? w ⟨g, 0, none⟩ (by rw [HI.out.cell0])
        refine ⟨(below_then HW2.out HW2.out.size HB3.out).setCell (p := ⟨g, 1, none⟩) hg _, (HK2.out.trans (KeepBut.of_below HB3.out g none) (.inl rfl)).set_ 1 _, v3, rfl, ?_, hI3.set_ _ (by omega) (by omega)⟩
        have hR : Kd.R (Kd.int .u8) 5 w3 w.heap.size (fun k => w.heap.size ≤ k) v3 ys := Kd.R_mono (Kd.R_bound (Kd.R_lower HR3.out hle)) (fun k hk => hk.2.1)
        exact Kd.R_mono (Kd.R_far (p := ⟨g, 1, none⟩) hR (fun k hk => by show k ≠ g; omega) _) (fun _ _ => trivial)
end Go.Proofs.Ytlbioffpcoikaaa.PW
