/- law 05's live. -/
import Derived.Test.YtmmiipnmimjojaaD14
namespace Go.Proofs.Ytmmiipnmimjojaa.PS
open Go.RowKit Go.Proofs.YtmmiipnmimjojaaW.PrintWords Go.Proofs.YtmmiipnmimjojaaW.PrintLast Go.Proofs.YtmmiipnmimjojaaW.PrintMore
open Go.Maps Go.Proofs.Ytmmiipnmimjojaa.PD
set_option linter.unusedVariables false
set_option linter.unusedSimpArgs false
def lA : ByteArray := { data := #[97] }
def lB : ByteArray := { data := #[98] }
def lD0 : Dsk := ⟨max 0 100, []⟩
def lD1 : Dsk := ⟨100, [([97], ⟨[120, 121, 122], [], false, [⟨false, 0, 0, [120, 121, 122]⟩]⟩)]⟩
def lD2 : Dsk := ⟨100, [([97], ⟨[120, 121, 122], [120, 121, 122], true, []⟩)]⟩
def lD3 : Dsk := ⟨100, [([97], ⟨[120, 112, 113], [120, 121, 122], true, [⟨false, 0, 1, [112, 113]⟩]⟩)]⟩
def lD4 : Dsk := ⟨100, [([97], ⟨[120, 112, 113], [120, 121, 122], true, [⟨false, 0, 1, [112, 113]⟩]⟩), ([98], ⟨[120], [], false, [⟨false, 0, 0, [120]⟩]⟩)]⟩
def lD5 : Dsk := ⟨100, [([97], ⟨[120, 112, 122], [120, 112, 122], true, []⟩)]⟩
theorem live1 : dWrite lD0 lA 0 [120, 121, 122] = (0, lD1) := by rfl
theorem live2 : dSync lD1 lA = (0, lD2) := by rfl
theorem live3 : dWrite lD2 lA 1 [112, 113] = (0, lD3) := by rfl
theorem live4 : dWrite lD3 lB 0 [120] = (0, lD4) := by rfl
theorem live5 : dCrash lD4 [1] = lD5 := by rfl
theorem live6 : dRead lD5 lA = ([120, 112, 122], 0) := by rfl
theorem live7 : dRead lD5 lB = ([], 8) := by rfl
set_option maxHeartbeats 1000000 in
set_option maxRecDepth 100000 in
theorem live_calls (W : World) : Calls Try.prog 18 #[] W fun e w' => e = .returned (.bool true) ∧ Below W.heap.size W w' := by
  have hconv := conv_lit
  have hcs : ∀ (A : Option Addr) (c : Nat) (l : List Int) (w : World), k8.C w A l.length l → (convert 22 9 (.slice A l.length c)).run Try.prog w = .ok (.string (strOfNums l)) w := fun A c l w h => Kd.C_string Try.underlying22 Try.underlying5 Try.underlying9 h
  go_enter Try.func18, Try.ntmps18
  go_wp2_with fail
  refine (dk_new 100 (by decide) W).mono ?_
  rintro e w1 ⟨g, S1, rfl, h1⟩
  replace h1 : Dk W w1 S1 g 0 lD0 := h1
  go_wp2_with fail
  refine (dk_write (at_ := 0) (s := lA) (l := [120, 121, 122]) (c := 3) (h1.step (below_alloc (Below.refl _ _) _)) (by decide) (by decide) (C_lit .u8 w1 [120, 121, 122] 5 (by decide) (3, 4) rfl) (by decide) (by decide) (fun ad e _ hS => by cases e; have := h1.2.1 _ hS; dsimp only at this; omega)).mono ?_
  rintro e w2 ⟨rfl, S2, h2, _, _⟩
  rw [live1] at h2 ⊢
  dsimp only at h2
  go_wp2_with fail
  refine (dk_sync (s := lA) h2 (by decide) (by decide)).mono ?_
  rintro e w3 ⟨rfl, S3, h3, _, _⟩
  rw [live2] at h3 ⊢
  dsimp only at h3
  go_wp2_with fail
  refine (dk_write (at_ := 1) (s := lA) (l := [112, 113]) (c := 2) (h3.step (below_alloc (Below.refl _ _) _)) (by decide) (by decide) (C_lit .u8 w3 [112, 113] 5 (by decide) (2, 3) rfl) (by decide) (by decide) (fun ad e _ hS => by cases e; have := h3.2.1 _ hS; dsimp only at this; omega)).mono ?_
  rintro e w4 ⟨rfl, S4, h4, _, _⟩
  rw [live3] at h4 ⊢
  dsimp only at h4
  go_wp2_with fail
  refine (dk_write (at_ := 0) (s := lB) (l := [120]) (c := 1) (h4.step (below_alloc (Below.refl _ _) _)) (by decide) (by decide) (C_lit .u8 w4 [120] 5 (by decide) (1, 2) rfl) (by decide) (by decide) (fun ad e _ hS => by cases e; have := h4.2.1 _ hS; dsimp only at this; omega)).mono ?_
  rintro e w5 ⟨rfl, S5, h5, _, _⟩
  rw [live4] at h5 ⊢
  dsimp only at h5
  go_wp2_with fail
  refine (dk_crash (keep := [1]) (c := 1) (h5.step (below_alloc (Below.refl _ _) _)) (by decide) (C_lit .i64 w5 [1] 3 (by decide) (0, 0) rfl) (fun ad e _ hS => by cases e; have := h5.2.1 _ hS; dsimp only at this; omega) (by decide)).mono ?_
  rintro e w6 ⟨rfl, S6, h6, _, _⟩
  rw [live5] at h6
  go_wp2_with fail
  refine (dk_read (s := lA) h6 (by decide) (by decide)).mono ?_
  rintro e w7 ⟨A7, c7, rfl, hr7, hb7⟩
  rw [live6] at hr7 ⊢
  dsimp only at hr7
  go_wp2_with fail
  refine (dk_read (s := lB) (h6.step hb7) (by decide) (by decide)).mono ?_
  rintro e w8 ⟨A8, c8, rfl, hr8, hb8⟩
  rw [live7] at hr8 ⊢
  have hst : (convert 22 9 (.slice A7 3 c7)).run Try.prog w8 = .ok (.string { data := #[120, 112, 122] }) w8 := hcs A7 c7 [120, 112, 122] w8 (Kd.C_below (Kd.R_reads' hr7).2.2 hb8)
  go_wp2
  go_ret
  exact ⟨rfl, (h6.step hb7).1.trans (hb8.mono (by have := (h6.step hb7).1.size; omega))⟩
end Go.Proofs.Ytmmiipnmimjojaa.PS
