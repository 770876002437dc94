import Derived.Test.YtlbioffpcoikaaaEScan
namespace Go.Proofs.Ytlbioffpcoikaaa.PW
open Go.RowKit Go.Proofs.YtlbioffpcoikaaaW.PrintWords Go.Proofs.YtlbioffpcoikaaaW.PrintLast Go.Proofs.YtlbioffpcoikaaaW.PrintMore
set_option linter.unusedVariables false
set_option linter.unusedSimpArgs false
def ScRow (w0 w : World) (g : Nat) (A : Option Addr) (n c : Nat) (r : Except Int (List Int × Int)) (e : Ending) (w' : World) : Prop :=
  Below w0.heap.size w0 w' ∧ KeepBut w w' g none ∧ match r with
    | .ok (xs, at_) => ∃ v, e = .returned v ∧ Kd.R (Kd.int .u8) 5 w' w.heap.size (fun _ => True) v xs ∧ IsSc w' g A n c at_ 0
    | .error x => e = .returned (.slice none 0 0) ∧ x ≠ 0 ∧ ∃ at_, IsSc w' g A n c at_ x
set_option maxHeartbeats 1000000 in
set_option maxRecDepth 100000 in
theorem row_err (w : World) (g : Nat) (A : Option Addr) (n c : Nat) (at_ e most : Int) (hI : IsSc w g A n c at_ e) (he : e ≠ 0) :
    Calls Try.prog 51 #[.pointer (some ⟨g, 0, none⟩), .int .i64 most] w fun e' w' => e' = .returned (.slice none 0 0) ∧ ∃ m, w' = w.drewN m := by
  have h0 := hI.cell0
  have h1 := hI.cell1
  have h2 := hI.cell2
  have hb : (e != 0) = true := by simpa using he
  have hb2 : (e == 0) = false := by simpa using he
  have HI := Aside0.mk hI
  clear hI
  go_enter Try.func51, Try.ntmps51
  go_wp2_with fail
  refine (num_err w g A n c at_ e 0 HI.out he).mono ?_
  rintro e' w2 ⟨rfl, rfl⟩
  go_wp2_with fail
  go_quiet (fail)
  go_wp2
  go_ret
  exact ⟨rfl, _, rfl⟩
set_option maxHeartbeats 1000000 in
set_option maxRecDepth 100000 in
theorem scend_err (w : World) (g : Nat) (A : Option Addr) (n c : Nat) (at_ e : Int) (hI : IsSc w g A n c at_ e) (he : e ≠ 0) :
    Calls Try.prog 52 #[.pointer (some ⟨g, 0, none⟩)] w fun e' w' => e' = .returned (.tuple #[]) ∧ ∃ m, w' = w.drewN m := by
  have h0 := hI.cell0
  have h1 := hI.cell1
  have h2 := hI.cell2
  have hb : (e != 0) = true := by simpa using he
  have hb2 : (e == 0) = false := by simpa using he
  have HI := Aside0.mk hI
  clear hI
  go_enter Try.func52, Try.ntmps52
  go_wp2_with fail
  go_quiet (fail)
  go_wp2
  go_end0
  exact ⟨rfl, _, rfl⟩
set_option maxHeartbeats 1000000 in
set_option maxRecDepth 100000 in
theorem scend_ok (w : World) (g : Nat) (A : Option Addr) (n c : Nat) (at_ : Int) (hI : IsSc w g A n c at_ 0) :
    Calls Try.prog 52 #[.pointer (some ⟨g, 0, none⟩)] w fun e' w' => e' = .returned (.tuple #[]) ∧ ∃ m, (at_ < n ∧ w' = (w.drewN m).setCell ⟨g, 2, none⟩ (.int .i64 4) ∨ ¬ at_ < n ∧ w' = w.drewN m) := by
  have h0 := hI.cell0
  have h1 := hI.cell1
  have h2 := hI.cell2
  have HI := Aside0.mk hI
  clear hI
  by_cases he : at_ < n
  · have hb : decide (at_ < (n : Int)) = true := by simpa using he
    have HE := Aside0.mk he
    clear he
    go_enter Try.func52, Try.ntmps52
    go_wp2_with fail
    go_quiet (fail)
    go_wp2_with fail
    refine (fail_calls _ g _ n c at_ 4 (HI.out.drewN _)).mono ?_
    rintro e w2 ⟨rfl, rfl⟩
    go_wp2
    go_end0
    exact ⟨rfl, _, .inl ⟨HE.out, rfl⟩⟩
  · have hb : decide (at_ < (n : Int)) = false := by simpa using he
    have HE := Aside0.mk he
    clear he
    go_enter Try.func52, Try.ntmps52
    go_wp2_with fail
    go_quiet (fail)
    go_wp2
    go_end0
    exact ⟨rfl, _, .inr ⟨HE.out, rfl⟩⟩
set_option maxHeartbeats 1000000 in
set_option maxRecDepth 100000 in
theorem row_ok (w0 w : World) (g : Nat) (A : Option Addr) (c : Nat) (l : List Int) (at_ most : Int) (hr : Kd.C (Kd.int .u8) w0 A l.length l) (hc : l.length ≤ c) (hI : IsSc w g A l.length c at_ 0)
    (hB : Below w0.heap.size w0 w) (hg : w0.heap.size ≤ g) (hok : okLen l) (hmost : most ≤ 1000000) (r : Except Int (List Int × Int)) (hres : rdData l at_ most = r) :
    Calls Try.prog 51 #[.pointer (some ⟨g, 0, none⟩), .int .i64 most] w fun e w' => ScRow w0 w g A l.length c r e w' := by
  have HS := Aside0.mk hres
  have HI := Aside0.mk hI
  have HB := Aside0.mk hB
  have HR := Aside0.mk hr
  have HK := Aside0.mk hok
  clear hB hI hres hr hok
  go_enter Try.func51, Try.ntmps51
  go_wp2_with fail
  refine (num_ok w0 w g A c l at_ 0 (Kd.C_below HR.out HB.out) hc HI.out HB.out hg HK.out _ rfl).mono ?_
  rintro e w1 ⟨B1, K1, hm⟩
  cases hn : rdNum l at_ 0 with
  | error x =>
    rw [hn] at hm
    obtain ⟨rfl, x0, at1, I1⟩ := hm
    have hx : r = .error x := by rw [← HS.out, rdData, hn]
    have hb : (x != 0) = true := by simpa using x0
    have hb2 : (x == 0) = false := by simpa using x0
    have h0 := I1.cell0
    have h1 := I1.cell1
    have h2 := I1.cell2
    have HX := Aside0.mk (show r = .error x ∧ x ≠ 0 from ⟨hx, x0⟩)
    have HB1 := Aside0.mk B1
    have HK1 := Aside0.mk K1
    have HI1 := Aside0.mk I1
    clear hx x0 B1 K1 I1 hn
    go_wp2_with fail
    go_quiet (fail)
    go_wp2
    go_ret
    obtain ⟨rfl, x0⟩ := HX.out
    exact ⟨pw_below_drewN HB1.out _, keep_drewN HK1.out _, rfl, x0, _, HI1.out.drewN _⟩
  | ok p =>
    obtain ⟨n, at1⟩ := p
    rw [hn] at hm
    obtain ⟨rfl, I1⟩ := hm
    obtain ⟨q0, q1, q2, q3, q4, q5⟩ := rdNum_ok HK.out hn
    have HN := Aside0.mk hn
    have hlen := HK.out.2
    have c0 := I1.cell0
    have c1 := I1.cell1
    have c2 := I1.cell2
    have f1 := I1.frozen
    have HI1 := Aside0.mk I1
    have HB1 := Aside0.mk B1
    have HK1 := Aside0.mk K1
    clear hn I1 B1 K1
    by_cases hm : most < n
    · have hb : decide (most < n) = true := by simpa using hm
      go_wp2_with fail
      refine (fail_calls _ g _ l.length c at1 6 HI1.out).mono ?_
      rintro e w2 ⟨rfl, rfl⟩
      have HI2 := Aside0.mk (HI1.out.set2 6)
      have HB2 := Aside0.mk (HB1.out.setCell (p := ⟨g, 2, none⟩) hg (.int .i64 6))
      have HK2 := Aside0.mk (HK1.out.set_ 2 (.int .i64 6))
      clear c0 c1 c2 f1 HI1 HB1 HK1
      generalize w1.setCell ⟨g, 2, none⟩ (.int .i64 6) = w2 at *
      have c0 := HI2.out.cell0
      have c1 := HI2.out.cell1
      have c2 := HI2.out.cell2
      go_wp2_with fail
      go_quiet (fail)
      go_wp2
      go_ret
      have hx : r = .error 6 := by rw [← HS.out, rdData, HN.out]; simp only; rw [if_pos (by omega)]
      subst hx
      exact ⟨pw_below_drewN HB2.out _, keep_drewN HK2.out _, rfl, by decide, _, HI2.out.drewN _⟩
    · have hb : decide (most < n) = false := by simpa using hm
      by_cases hs : (l.length : Int) - at1 < n
      · have hb2 : decide ((l.length : Int) - at1 < n) = true := by simpa using hs
        go_wp2_with fail
        go_quiet (fail)
        go_wp2_with fail
        refine (fail_calls _ g _ l.length c at1 3 (HI1.out.drewN _)).mono ?_
        rintro e w2 ⟨rfl, rfl⟩
        have HI2 := Aside0.mk ((HI1.out.drewN nq).set2 3)
        have HB2 := Aside0.mk ((pw_below_drewN HB1.out nq).setCell (p := ⟨g, 2, none⟩) hg (.int .i64 3))
        have HK2 := Aside0.mk ((keep_drewN HK1.out nq).set_ 2 (.int .i64 3))
        clear c0 c1 c2 f1 HI1 HB1 HK1
        generalize (w1.drewN nq).setCell ⟨g, 2, none⟩ (.int .i64 3) = w2 at *
        have c0 := HI2.out.cell0
        have c1 := HI2.out.cell1
        have c2 := HI2.out.cell2
        go_wp2
        go_ret
        have hx : r = .error 3 := by rw [← HS.out, rdData, HN.out]; simp only; rw [if_neg (by omega), if_pos (by omega)]
        subst hx
        exact ⟨HB2.out, HK2.out, rfl, by decide, _, HI2.out⟩
      · have hb2 : decide ((l.length : Int) - at1 < n) = false := by simpa using hs
        go_wp2_with fail
        go_quiet (fail)
        go_wp2_with fail
        obtain ⟨i0, hi0, hz0, hz1, hz2⟩ := info_parts info5
        obtain ⟨A', hsl, hrd, hcap⟩ := print_mid_int (P := Try.prog) (k := .u8) 22 5 Try.underlying22 hi0 hz1 A c l at1 (at1 + n) (by omega) (by omega) (by omega) hc
        have hwr : IntKind.i64.wrap (at1 + n) = at1 + n := IntWalk.i64_in _ (by omega)
        have d0 : (w1.drewN nq).cell? ⟨g, 0, none⟩ = some (.slice A l.length c) := c0
        have d1 : (w1.drewN nq).cell? ⟨g, 1, none⟩ = some (.int .i64 at1) := c1
        have f2 : ∀ j, (w1.drewN nq).frozen? ⟨g, j, none⟩ = false := f1
        have HB2 := Aside0.mk (pw_below_drewN HB1.out nq)
        have HK2 := Aside0.mk (keep_drewN HK1.out nq)
        have HI2 := Aside0.mk (HI1.out.drewN nq)
        generalize w1.drewN nq = w2 at *
        have n0 := World.new_ne w2 _ d0
        have n1 := World.new_ne w2 _ d1
        have hcap2 : ((l.take (at1 + n).toNat).drop at1.toNat).length ≤ l.length := by rw [List.length_drop, List.length_take]; omega
        have hyl : (((l.take (at1 + n).toNat).drop at1.toNat).length : Int) = n := by rw [List.length_drop, List.length_take]; omega
        obtain ⟨ys, hys⟩ : ∃ ys, (l.take (at1 + n).toNat).drop at1.toNat = ys := ⟨_, rfl⟩
        rw [hys] at hsl hrd hcap hcap2 hyl
        have HY := Aside0.mk hys
        have HYL := Aside0.mk hyl
        have HCAP := Aside0.mk hcap
        have HB4 := Aside0.mk (below_alloc (below_drew1 HB2.out) (.cells #[] 5 (0, 0)))
        have HRD := Aside0.mk (hrd _ (Kd.reads_of_C (Kd.C_below HR.out HB4.out)))
        clear hys hrd hcap hyl
        have HO0 := Aside0.mk (show Kd.R (Kd.int .u8) 5 (w2.drew.alloc (.cells #[] 5 (0, 0))) w2.heap.size (fun k => w2.heap.size ≤ k) (.slice (some ⟨w2.heap.size, 0, none⟩) 0 0) [] from
          Kd.R_of_own (enc := Value.int .u8) (World.ownsRow_lit (base := w2.heap.size) (e := 5) (size := 1) w2.drew #[] 0 (Nat.le_refl _) (by decide) rfl) (fun k hk => by simp [Value.ownBlock] at hk; omega))
        have hszA : (w2.drew.alloc (.cells #[] 5 (0, 0))).heap.size = w2.heap.size + 1 := World.size_alloc _ _
        have HF := Aside0.mk (show ∀ k, (w2.drew.alloc (.cells #[] 5 (0, 0))).heap.size ≤ k → w2.heap.size ≤ k from fun k hk => by omega)
        have HG := Aside0.mk (show w2.heap.size ≤ (w2.drew.alloc (.cells #[] 5 (0, 0))).heap.size from by omega)
        clear hszA
        have hcap3 : ys.length ≤ 140737488355328 := by have := HYL.out; omega
        go_region_held3 (fun w' => w'.cell? ⟨g, 0, none⟩ = some (.slice A l.length c) ∧ w'.cell? ⟨g, 1, none⟩ = some (.int .i64 at1)) (go_keep) ((refine Kd.R_append_rows_step (Kd.int .u8) (w0 := w2) w2.heap.size (by rfl) (.tmp 47) (.tmp 62) 22 5 (.int .u8 0) 1 (by rfl) Try.underlying22 info5 (by rfl) (by decide) (by decide) (.slice (some ⟨w2.heap.size, 0, none⟩) 0 0) [] ys A' ys.length (c - at1.toNat) (fun k => w2.heap.size ≤ k) (fun _ => False) (by rfl) (by rfl) HO0.out (Kd.C_of_reads HRD.out) (fun _ _ h => h) (fun _ h => h.elim) HF.out (below_alloc (below_drew (Below.refl _ _)) _) HG.out (by rw [List.length_nil, Nat.zero_add, Nat.mul_one]; exact hcap3) ?_; intro v3 w3 R3 B3 G3 at3; have k0 := (B3.cell (p := ⟨g, 0, none⟩) (World.block_lt_of_cell? w2 _ d0)).trans d0; have k1 := (B3.cell (p := ⟨g, 1, none⟩) (World.block_lt_of_cell? w2 _ d1)).trans d1))
        have R3' : Kd.R (Kd.int .u8) 5 w3 w2.heap.size (fun k => w2.heap.size ≤ k) v3 ys := R3
        have HR3 := Aside0.mk R3'
        have HB3 := Aside0.mk B3
        have hf3 : ∀ j, w3.frozen? ⟨g, j, none⟩ = false := fun j => (B3.frozen (p := ⟨g, j, none⟩) (World.block_lt_of_cell? w2 ⟨g, 0, none⟩ d0)).trans (f2 j)
        have hlt2 := World.block_lt_of_cell? w2 ⟨g, 0, none⟩ d0
        clear R3 R3' B3 G3 at3 d0 d1 n0 n1 hsl c0 c1 c2 f1 f2 HRD HO0 HF HG
        go_wp2
        go_ret
        have hx : r = .ok (ys, at1 + n) := by rw [← HS.out, rdData, HN.out]; simp only; rw [if_neg (by omega), if_neg (by omega), HY.out]
        subst hx
        have hI3 : IsSc w3 g A l.length c at1 0 := ⟨(HB3.out.block g hlt2).trans HI2.out.1, HI2.out.2⟩
        have hle : w.heap.size ≤ w2.heap.size := HK2.out.1
        have hlt : g < w.heap.size := HI.out.lt
        refine ⟨(below_then HB2.out HB2.out.size HB3.out).setCell (p := ⟨g, 1, none⟩) hg _, (HK2.out.trans (KeepBut.of_below HB3.out g none) (.inl rfl)).set_ 1 _, v3, rfl, ?_, hI3.set1 _ (by omega) (by omega)⟩
        have hR : Kd.R (Kd.int .u8) 5 w3 w.heap.size (fun k => w.heap.size ≤ k) v3 ys := Kd.R_mono (Kd.R_bound (Kd.R_lower HR3.out hle)) (fun k hk => hk.2.1)
        exact Kd.R_mono (Kd.R_far (p := ⟨g, 1, none⟩) hR (fun k hk => by show k ≠ g; omega) _) (fun _ _ => trivial)
end Go.Proofs.Ytlbioffpcoikaaa.PW
