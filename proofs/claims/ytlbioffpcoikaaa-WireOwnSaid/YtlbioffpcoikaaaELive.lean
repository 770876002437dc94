import Derived.Test.YtlbioffpcoikaaaEGetHard
import Derived.Test.YtlbioffpcoikaaaPWx3
import Derived.Test.YtlbioffpcoikaaaPWx29
import Derived.Test.YtlbioffpcoikaaaPWx14
namespace Go.Proofs.Ytlbioffpcoikaaa.PW
open Go.RowKit Go.Proofs.YtlbioffpcoikaaaW.PrintWords Go.Proofs.YtlbioffpcoikaaaW.PrintLast Go.Proofs.YtlbioffpcoikaaaW.PrintMore
set_option linter.unusedVariables false
set_option linter.unusedSimpArgs false
theorem live_number : wire_Number.f 9 300 = some ([172, 2], 0) := by kernel_rfl
theorem live_hard : wire_PutHard.f 9 5 2 = some ([5, 2], 0) := by kernel_rfl
theorem live_entry : wire_PutEntry.f 9 1 1 1 [] = some ([1, 1, 1, 0], 0) := by kernel_rfl
theorem live_get : wire_GetHard.f [5, 2] = some (5, 2, 0) := by kernel_rfl
theorem live_s1 : ((strOfNums [172, 2]).toList == ([172, 2] : List UInt8)) = true := by kernel_rfl
theorem live_s2 : ((strOfNums [5, 2]).toList == ([5, 2] : List UInt8)) = true := by kernel_rfl
theorem live_s3 : ((strOfNums [1, 1, 1, 0]).toList == ([1, 1, 1, 0] : List UInt8)) = true := by kernel_rfl
theorem C_of_block {W : World} {g : Nat} {k : IntKind} {t : TypeId} (xs : List Int) (h : Bk W g (nums k xs).toArray t) (hl : xs.length ≤ 9223372036854775807) : Kd.C (Kd.int k) W (some ⟨g, 0, none⟩) xs.length xs := by
  refine Kd.C_of_reads (d := (0 : Int)) (h1 := fun _ => rfl) ⟨rfl, hl, fun _ => ⟨_, rfl, fun j hj => ?_⟩⟩
  have e : (⟨g, 0, none⟩ : Addr).add j = ⟨g, j, none⟩ := add_plain g j
  rw [e]
  refine h.cell j _ ?_
  rw [List.getElem?_toArray, nums, List.getElem?_map, List.getElem?_eq_getElem hj]
  simp [List.getD_eq_getElem?_getD, List.getElem?_eq_getElem hj]
def tollgatelaw02_live.f : Option (Bool) := some true
set_option maxHeartbeats 2000000 in
set_option maxRecDepth 100000 in
theorem live_core (w : World) : Calls Try.prog 16 #[] w fun e w' => e = .returned (.bool true) ∧ Below w.heap.size w w' := by
  go_enter Try.func16, Try.ntmps16
  go_wp2_with fail
  refine (wire_Number.calls 9 300 _ _ w live_number).mono ?_
  rintro e w1 ⟨v1, rfl, R1, B1⟩
  have HR1 := Aside0.mk R1
  have HB1 := Aside0.mk B1
  clear R1 B1
  go_wp2_with fail
  refine (wire_PutHard.calls 9 5 2 _ _ w1 live_hard).mono ?_
  rintro e w2 ⟨v2, rfl, R2, B2⟩
  have HR2 := Aside0.mk R2
  have HR1' := Aside0.mk (Kd.R_below HR1.out B2)
  have HB2 := Aside0.mk (below_then HB1.out HB1.out.size B2)
  clear R2 B2 HR1 HB1
  go_wp2_with fail
  refine (wire_PutEntry.calls 9 1 1 1 none 0 [] _ _ w2 (Kd.C_nil _ _) (Nat.le_refl _) live_entry).mono ?_
  rintro e w3 ⟨v3, rfl, R3, B3⟩
  have HR3 := Aside0.mk R3
  have HR1 := Aside0.mk (Kd.R_below HR1'.out B3)
  have HR2' := Aside0.mk (Kd.R_below HR2.out B3)
  have HB3 := Aside0.mk (below_then HB2.out HB2.out.size B3)
  clear R3 B3 HR1' HR2 HB2
  go_wp2_with fail
  have hC := C_of_block (W := w3.alloc (.cells #[.int .u8 5, .int .u8 2] 5 (0, 0))) (g := w3.heap.size) (k := .u8) (t := 5) [5, 2] (blk_new w3 _) (by simp)
  refine (wire_GetHard.calls (some ⟨w3.heap.size, 0, none⟩) 2 [5, 2] _ _ _ _ hC (Nat.le_refl _) live_get).mono ?_
  rintro e w4 ⟨rfl, B4⟩
  have B34 : Below w3.heap.size w3 w4 := below_then (below_alloc (Below.refl _ _) _) (by simp) B4
  have BF := below_alloc B34 (.cells #[.int .i64 5, .int .i64 2] 46 (0, 0))
  have hcv1 := own_string (P := Try.prog) Try.underlying22 Try.underlying5 Try.underlying9 (Kd.own_of_R (Kd.R_below HR1.out BF))
  have hcv2 := own_string (P := Try.prog) Try.underlying22 Try.underlying5 Try.underlying9 (Kd.own_of_R (Kd.R_below HR2'.out BF))
  have hcv3 := own_string (P := Try.prog) Try.underlying22 Try.underlying5 Try.underlying9 (Kd.own_of_R (Kd.R_below HR3.out BF))
  have s1 := live_s1
  have s2 := live_s2
  have s3 := live_s3
  have HBF := Aside0.mk (below_then HB3.out HB3.out.size BF)
  clear hC B4 B34 BF
  go_wp2
  go_ret
  exact ⟨rfl, HBF.out⟩
theorem tollgatelaw02_live.calls  (r : Bool) (w : World) (h : tollgatelaw02_live.f  = some r) :
    Calls Try.prog 16 #[] w fun e w' => e = .returned (.bool r) ∧ Below w.heap.size w w' := by
  obtain rfl : true = r := Option.some.inj h
  exact live_core w
end Go.Proofs.Ytlbioffpcoikaaa.PW
