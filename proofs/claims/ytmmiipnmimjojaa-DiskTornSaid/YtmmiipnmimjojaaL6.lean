/- DiskSwaps. -/
import Derived.Test.YtmmiipnmimjojaaL1
namespace Go.Proofs.Ytmmiipnmimjojaa.PS
open Go.RowKit Go.Proofs.YtmmiipnmimjojaaW.PrintWords Go.Proofs.YtmmiipnmimjojaaW.PrintLast Go.Proofs.YtmmiipnmimjojaaW.PrintMore
open Go.Maps Go.Proofs.Ytmmiipnmimjojaa.PD
set_option linter.unusedVariables false
set_option linter.unusedSimpArgs false
theorem Dk.arg {W W0 W1 : World} {S : Nat → Prop} {g N : Nat} {D : Dsk} (h : Dk W0 W1 S g N D) {K : IntKind} {A : Option Addr} {l : List Int} (hr : (Kd.int K).C W A l.length l) (hW : W.heap.size ≤ W0.heap.size) : ∀ ad, A = some ad → 0 < l.length → ¬ S ad.block := fun ad e hn hS => by
  subst e
  have h1 := Kd.C_lt hr hn (by show 0 < 1; decide)
  have h2 := (h.2.1 _ hS).1
  omega
def sF : ByteArray := { data := #[102] }
def sT : ByteArray := { data := #[116, 109, 112] }
def sw0 : Dsk := ⟨max 0 65536, []⟩
def sw1 (a : List Int) : Dsk := ⟨65536, [([102], ⟨a, [], false, [⟨false, 0, 0, a⟩]⟩)]⟩
def sw2 (a : List Int) : Dsk := ⟨65536, [([102], ⟨a, a, true, []⟩)]⟩
def sw3 (a b : List Int) : Dsk := ⟨65536, [([102], ⟨a, a, true, []⟩), ([116, 109, 112], ⟨b, [], false, [⟨false, 0, 0, b⟩]⟩)]⟩
def sw4 (a b : List Int) : Dsk := ⟨65536, [([102], ⟨a, a, true, []⟩), ([116, 109, 112], ⟨b, b, true, []⟩)]⟩
theorem layL_none (a : List Int) : layL [] 0 a = a := by unfold layL; simp
theorem swap1 (a : List Int) (h : a.length ≤ 4000) : dWrite sw0 sF 0 a = (0, sw1 a) := by
  unfold dWrite
  rw [if_neg (by decide)]
  show dW2 sw0 sF false z110 0 a = _
  unfold dW2
  rw [if_neg (by decide)]
  have hm : moreB z110 0 a = a.length := by unfold moreB; show max 0 ((0 : Int) + a.length - 0) = _; omega
  rw [hm, if_neg (by
    rintro (⟨_, h'⟩ | h')
    · exact absurd h' (by decide)
    · have : (262144 : Int) < 0 + a.length := h'
      omega), if_neg (by show ¬ ((65536 : Int) < 0 + a.length); omega)]
  unfold wFil
  show ((0 : Int), (⟨65536, [([102], ⟨layL [] 0 a, [], false, [] ++ [⟨false, 0, 0, a⟩]⟩)]⟩ : Dsk)) = _
  rw [layL_none]
  rfl
theorem swap2 (a : List Int) : dSync (sw1 a) sF = (0, sw2 a) := rfl
theorem swap3 (a b : List Int) (h : a.length ≤ 4000) (h' : b.length ≤ 4000) : dWrite (sw2 a) sT 0 b = (0, sw3 a b) := by
  unfold dWrite
  rw [if_neg (by decide)]
  show dW2 (sw2 a) sT false z110 0 b = _
  unfold dW2
  rw [if_neg (by decide)]
  have hm : moreB z110 0 b = b.length := by unfold moreB; show max 0 ((0 : Int) + b.length - 0) = _; omega
  rw [hm, if_neg (by
    rintro (⟨_, h'⟩ | h')
    · exact absurd h' (by show ¬ (16 ≤ 1); decide)
    · have : (262144 : Int) < 0 + b.length := h'
      omega), if_neg (by show ¬ ((65536 : Int) < ((a.length + 0 : Nat) : Int) + b.length); omega)]
  unfold wFil
  show ((0 : Int), (⟨65536, [([102], ⟨a, a, true, []⟩), ([116, 109, 112], ⟨layL [] 0 b, [], false, [] ++ [⟨false, 0, 0, b⟩]⟩)]⟩ : Dsk)) = _
  rw [layL_none]
  rfl
theorem swap4 (a b : List Int) : dSync (sw3 a b) sT = (0, sw4 a b) := rfl
theorem swap5 (a b : List Int) : dRename (sw4 a b) sT sF = (0, sw2 b) := rfl
theorem swapR (a : List Int) (r : List (Nm × Fil)) (keep : List Int) : dRead (dCrash ⟨65536, ([102], ⟨a, a, true, []⟩) :: r⟩ keep) sF = (a, 0) := rfl
theorem sw_sz : sF.size ≤ maxLen ∧ sT.size ≤ maxLen := by decide
set_option maxHeartbeats 2000000 in
set_option maxRecDepth 100000 in
theorem swaps_calls {W : World} {A B K : Option Addr} {ca cb ck : Nat} {a b keep : List Int} (hA : k8.C W A a.length a) (ha : a.length ≤ ca) (hB : k8.C W B b.length b) (hb : b.length ≤ cb) (hK : (Kd.int .i64).C W K keep.length keep) (hk : ∀ z ∈ keep, z ≤ 9223372036854775807) :
    Calls Try.prog 6 #[.slice A a.length ca, .slice B b.length cb, .slice K keep.length ck] W fun e w' => e = .returned (.bool true) ∧ Below W.heap.size W w' := by
  have HA := Aside0.mk hA
  have HB := Aside0.mk hB
  have HK := Aside0.mk hK
  have HKK := Aside0.mk hk
  clear hA hB hK hk
  by_cases h1 : (4000 : Int) < (a.length : Int)
  · go_enter Try.func6, Try.ntmps6
    go_wp2_with fail
    refine (live_calls _).mono ?_
    rintro e w' ⟨rfl, hbb⟩
    go_wp2
    go_ret
    exact ⟨rfl, hbb⟩
  by_cases h2 : (4000 : Int) < (b.length : Int)
  · go_enter Try.func6, Try.ntmps6
    go_wp2_with fail
    refine (live_calls _).mono ?_
    rintro e w' ⟨rfl, hbb⟩
    go_wp2
    go_ret
    exact ⟨rfl, hbb⟩
  by_cases h3 : (100 : Int) < (keep.length : Int)
  · go_enter Try.func6, Try.ntmps6
    go_wp2_with fail
    refine (live_calls _).mono ?_
    rintro e w' ⟨rfl, hbb⟩
    go_wp2
    go_ret
    exact ⟨rfl, hbb⟩
  have hal : a.length ≤ 4000 := by omega
  have hbl : b.length ≤ 4000 := by omega
  go_enter Try.func6, Try.ntmps6
  go_wp2_with fail
  go_loopg [7] 4 (fun kq v7 w' => ∃ i : Int, v7 = .int .i64 i ∧ 0 ≤ i ∧ i + kq = 4 ∧ Aside0 (Below W.heap.size W w'))
  case atStart => exact ⟨0, rfl, by omega, by omega, ⟨Below.refl _ _⟩⟩
  case round =>
    obtain ⟨i, rfl, i0, i1, HBB⟩ := hrel
    rcases (show i = 4 ∨ i = 0 ∨ i = 1 ∨ i = 2 ∨ i = 3 by omega) with rfl | rfl | rfl | rfl | rfl
    · go_wp2_with fail
      refine (live_calls _).mono ?_
      rintro e w' ⟨rfl, hbb⟩
      go_wp2
      go_ret
      exact ⟨rfl, below_step HBB.out hbb⟩
    · go_wp2_with fail
      refine (dk_new 65536 (by decide) wr).mono ?_
      rintro e w1 ⟨g, S1, rfl, d1⟩
      replace d1 : Dk wr w1 S1 g 0 sw0 := d1
      go_wp2_with fail
      refine (dk_write (s := sF) (l := a) d1 (by decide) sw_sz.1 (Kd.C_below HA.out (below_step HBB.out d1.1)) ha (by omega) (d1.arg (W := W) HA.out HBB.out.size)).mono ?_
      rintro e w2 ⟨rfl, S2, d2, _, _⟩
      rw [swap1 a hal] at d2 ⊢
      dsimp only at d2
      go_wp2_with fail
      refine (dk_sync (s := sF) d2 (by decide) sw_sz.1).mono ?_
      rintro e w3 ⟨rfl, S3, d3, _, _⟩
      rw [swap2 a] at d3 ⊢
      dsimp only at d3
      go_wp2_with fail
      refine (dk_crash (keep := keep) d3 (by decide) (Kd.C_below HK.out (below_step HBB.out d3.1)) (d3.arg (W := W) HK.out HBB.out.size) HKK.out).mono ?_
      rintro e w7 ⟨rfl, S7, d7, _, _⟩
      have hcs : ∀ (A : Option Addr) (c : Nat) (l : List Int) (w : World), k8.C w A l.length l → (convert 22 9 (.slice A l.length c)).run Try.prog w = .ok (.string (strOfNums l)) w := fun A c l w h => Kd.C_string Try.underlying22 Try.underlying5 Try.underlying9 h
      have hca := hcs A ca a w7 (Kd.C_below HA.out (below_step HBB.out d7.1))
      have hcb := hcs B cb b w7 (Kd.C_below HB.out (below_step HBB.out d7.1))
      go_wp2_with fail
      refine (dk_read (s := sF) d7 (by decide) sw_sz.1).mono ?_
      rintro e w8 ⟨A8, c8, rfl, hr8, hb8⟩
      have hrd : dRead (dCrash (sw2 a) keep) sF = (a, 0) := rfl
      rw [hrd] at hr8 ⊢
      dsimp only at hr8
      have hc8 := hcs A8 c8 a w8 (Kd.R_reads' hr8).2.2
      have d8 := d7.step hb8
      clear hr8
      go_wp2_with fail
      go_roundg (gk - 1)
      case measure => omega
      case rel => exact ⟨1, rfl, by omega, by omega, ⟨below_step HBB.out d8.1⟩⟩
    · go_wp2_with fail
      refine (dk_new 65536 (by decide) wr).mono ?_
      rintro e w1 ⟨g, S1, rfl, d1⟩
      replace d1 : Dk wr w1 S1 g 0 sw0 := d1
      go_wp2_with fail
      refine (dk_write (s := sF) (l := a) d1 (by decide) sw_sz.1 (Kd.C_below HA.out (below_step HBB.out d1.1)) ha (by omega) (d1.arg (W := W) HA.out HBB.out.size)).mono ?_
      rintro e w2 ⟨rfl, S2, d2, _, _⟩
      rw [swap1 a hal] at d2 ⊢
      dsimp only at d2
      go_wp2_with fail
      refine (dk_sync (s := sF) d2 (by decide) sw_sz.1).mono ?_
      rintro e w3 ⟨rfl, S3, d3, _, _⟩
      rw [swap2 a] at d3 ⊢
      dsimp only at d3
      go_wp2_with fail
      refine (dk_write (s := sT) (l := b) d3 (by decide) sw_sz.2 (Kd.C_below HB.out (below_step HBB.out d3.1)) hb (by omega) (d3.arg (W := W) HB.out HBB.out.size)).mono ?_
      rintro e w4 ⟨rfl, S4, d4, _, _⟩
      rw [swap3 a b hal hbl] at d4 ⊢
      dsimp only at d4
      go_wp2_with fail
      refine (dk_crash (keep := keep) d4 (by decide) (Kd.C_below HK.out (below_step HBB.out d4.1)) (d4.arg (W := W) HK.out HBB.out.size) HKK.out).mono ?_
      rintro e w7 ⟨rfl, S7, d7, _, _⟩
      have hcs : ∀ (A : Option Addr) (c : Nat) (l : List Int) (w : World), k8.C w A l.length l → (convert 22 9 (.slice A l.length c)).run Try.prog w = .ok (.string (strOfNums l)) w := fun A c l w h => Kd.C_string Try.underlying22 Try.underlying5 Try.underlying9 h
      have hca := hcs A ca a w7 (Kd.C_below HA.out (below_step HBB.out d7.1))
      have hcb := hcs B cb b w7 (Kd.C_below HB.out (below_step HBB.out d7.1))
      go_wp2_with fail
      refine (dk_read (s := sF) d7 (by decide) sw_sz.1).mono ?_
      rintro e w8 ⟨A8, c8, rfl, hr8, hb8⟩
      have hrd : dRead (dCrash (sw3 a b) keep) sF = (a, 0) := rfl
      rw [hrd] at hr8 ⊢
      dsimp only at hr8
      have hc8 := hcs A8 c8 a w8 (Kd.R_reads' hr8).2.2
      have d8 := d7.step hb8
      clear hr8
      go_wp2_with fail
      go_roundg (gk - 1)
      case measure => omega
      case rel => exact ⟨2, rfl, by omega, by omega, ⟨below_step HBB.out d8.1⟩⟩
    · go_wp2_with fail
      refine (dk_new 65536 (by decide) wr).mono ?_
      rintro e w1 ⟨g, S1, rfl, d1⟩
      replace d1 : Dk wr w1 S1 g 0 sw0 := d1
      go_wp2_with fail
      refine (dk_write (s := sF) (l := a) d1 (by decide) sw_sz.1 (Kd.C_below HA.out (below_step HBB.out d1.1)) ha (by omega) (d1.arg (W := W) HA.out HBB.out.size)).mono ?_
      rintro e w2 ⟨rfl, S2, d2, _, _⟩
      rw [swap1 a hal] at d2 ⊢
      dsimp only at d2
      go_wp2_with fail
      refine (dk_sync (s := sF) d2 (by decide) sw_sz.1).mono ?_
      rintro e w3 ⟨rfl, S3, d3, _, _⟩
      rw [swap2 a] at d3 ⊢
      dsimp only at d3
      go_wp2_with fail
      refine (dk_write (s := sT) (l := b) d3 (by decide) sw_sz.2 (Kd.C_below HB.out (below_step HBB.out d3.1)) hb (by omega) (d3.arg (W := W) HB.out HBB.out.size)).mono ?_
      rintro e w4 ⟨rfl, S4, d4, _, _⟩
      rw [swap3 a b hal hbl] at d4 ⊢
      dsimp only at d4
      go_wp2_with fail
      refine (dk_sync (s := sT) d4 (by decide) sw_sz.2).mono ?_
      rintro e w5 ⟨rfl, S5, d5, _, _⟩
      rw [swap4 a b] at d5 ⊢
      dsimp only at d5
      go_wp2_with fail
      refine (dk_crash (keep := keep) d5 (by decide) (Kd.C_below HK.out (below_step HBB.out d5.1)) (d5.arg (W := W) HK.out HBB.out.size) HKK.out).mono ?_
      rintro e w7 ⟨rfl, S7, d7, _, _⟩
      have hcs : ∀ (A : Option Addr) (c : Nat) (l : List Int) (w : World), k8.C w A l.length l → (convert 22 9 (.slice A l.length c)).run Try.prog w = .ok (.string (strOfNums l)) w := fun A c l w h => Kd.C_string Try.underlying22 Try.underlying5 Try.underlying9 h
      have hca := hcs A ca a w7 (Kd.C_below HA.out (below_step HBB.out d7.1))
      have hcb := hcs B cb b w7 (Kd.C_below HB.out (below_step HBB.out d7.1))
      go_wp2_with fail
      refine (dk_read (s := sF) d7 (by decide) sw_sz.1).mono ?_
      rintro e w8 ⟨A8, c8, rfl, hr8, hb8⟩
      have hrd : dRead (dCrash (sw4 a b) keep) sF = (a, 0) := rfl
      rw [hrd] at hr8 ⊢
      dsimp only at hr8
      have hc8 := hcs A8 c8 a w8 (Kd.R_reads' hr8).2.2
      have d8 := d7.step hb8
      clear hr8
      go_wp2_with fail
      go_roundg (gk - 1)
      case measure => omega
      case rel => exact ⟨3, rfl, by omega, by omega, ⟨below_step HBB.out d8.1⟩⟩
    · go_wp2_with fail
      refine (dk_new 65536 (by decide) wr).mono ?_
      rintro e w1 ⟨g, S1, rfl, d1⟩
      replace d1 : Dk wr w1 S1 g 0 sw0 := d1
      go_wp2_with fail
      refine (dk_write (s := sF) (l := a) d1 (by decide) sw_sz.1 (Kd.C_below HA.out (below_step HBB.out d1.1)) ha (by omega) (d1.arg (W := W) HA.out HBB.out.size)).mono ?_
      rintro e w2 ⟨rfl, S2, d2, _, _⟩
      rw [swap1 a hal] at d2 ⊢
      dsimp only at d2
      go_wp2_with fail
      refine (dk_sync (s := sF) d2 (by decide) sw_sz.1).mono ?_
      rintro e w3 ⟨rfl, S3, d3, _, _⟩
      rw [swap2 a] at d3 ⊢
      dsimp only at d3
      go_wp2_with fail
      refine (dk_write (s := sT) (l := b) d3 (by decide) sw_sz.2 (Kd.C_below HB.out (below_step HBB.out d3.1)) hb (by omega) (d3.arg (W := W) HB.out HBB.out.size)).mono ?_
      rintro e w4 ⟨rfl, S4, d4, _, _⟩
      rw [swap3 a b hal hbl] at d4 ⊢
      dsimp only at d4
      go_wp2_with fail
      refine (dk_sync (s := sT) d4 (by decide) sw_sz.2).mono ?_
      rintro e w5 ⟨rfl, S5, d5, _, _⟩
      rw [swap4 a b] at d5 ⊢
      dsimp only at d5
      go_wp2_with fail
      refine (dk_rename (s := sT) (t := sF) d5 sw_sz.2 sw_sz.1).mono ?_
      rintro e w6 ⟨rfl, S6, d6, _, _⟩
      rw [swap5 a b] at d6 ⊢
      dsimp only at d6
      go_wp2_with fail
      refine (dk_crash (keep := keep) d6 (by decide) (Kd.C_below HK.out (below_step HBB.out d6.1)) (d6.arg (W := W) HK.out HBB.out.size) HKK.out).mono ?_
      rintro e w7 ⟨rfl, S7, d7, _, _⟩
      have hcs : ∀ (A : Option Addr) (c : Nat) (l : List Int) (w : World), k8.C w A l.length l → (convert 22 9 (.slice A l.length c)).run Try.prog w = .ok (.string (strOfNums l)) w := fun A c l w h => Kd.C_string Try.underlying22 Try.underlying5 Try.underlying9 h
      have hca := hcs A ca a w7 (Kd.C_below HA.out (below_step HBB.out d7.1))
      have hcb := hcs B cb b w7 (Kd.C_below HB.out (below_step HBB.out d7.1))
      go_wp2_with fail
      refine (dk_read (s := sF) d7 (by decide) sw_sz.1).mono ?_
      rintro e w8 ⟨A8, c8, rfl, hr8, hb8⟩
      have hrd : dRead (dCrash (sw2 b) keep) sF = (b, 0) := rfl
      rw [hrd] at hr8 ⊢
      dsimp only at hr8
      have hc8 := hcs A8 c8 b w8 (Kd.R_reads' hr8).2.2
      have d8 := d7.step hb8
      clear hr8
      go_wp2_with fail
      go_roundg (gk - 1)
      case measure => omega
      case rel => exact ⟨4, rfl, by omega, by omega, ⟨below_step HBB.out d8.1⟩⟩
end Go.Proofs.Ytmmiipnmimjojaa.PS
