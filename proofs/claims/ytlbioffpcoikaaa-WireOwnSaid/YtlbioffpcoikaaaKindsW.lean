/- What the laws' arguments hold, type by type. -/
import Derived.Test.YtlbioffpcoikaaaPWx0
import Derived.Test.YtlbioffpcoikaaaOpen
import Derived.KernelRfl
namespace Go.Proofs.Ytlbioffpcoikaaa.PW
open Go.RowKit Go.Proofs.YtlbioffpcoikaaaW.PrintWords Go.Proofs.Ytlbioffpcoikaaa.OpenK
set_option linter.unusedVariables false

def Good34 (x : S34) : Prop := (Lit.int .i64 x.f0).wf = true ∧ (Lit.int .i64 x.f1).wf = true ∧ (Lit.int .i64 x.f2).wf = true ∧ (x.f3.length * 1 ≤ reachBytes ∧ x.f3.length ≤ maxLen ∧ ∀ y ∈ x.f3, (Lit.int .u8 y).wf = true)
def Small34 (B : Nat) (x : S34) : Prop := True ∧ True ∧ True ∧ (x.f3.length ≤ B ∧ ∀ y ∈ x.f3, True)
theorem opens34 : Opens Try.prog 34 k34 Good34 Small34 :=
  opens_struct (fun x : S34 => (x.f0, x.f1, x.f2, x.f3)) (fun y => ⟨y.1, y.2.1, y.2.2.1, y.2.2.2⟩) (fun _ => rfl) Try.underlying34 (by kernel_rfl) (.cons rfl (by kernel_rfl) (opens_int Try.underlying32) (.cons rfl (by kernel_rfl) (opens_int Try.underlying3) (.cons rfl (by kernel_rfl) (opens_int Try.underlying3) (.one rfl (by kernel_rfl) (opens_slice (B := 1) Try.underlying22 (opens_int Try.underlying5) (by kernel_rfl) (by kernel_rfl))))))
def Good40 (x : S40) : Prop := (Lit.int .i64 x.f0).wf = true ∧ (Lit.int .i64 x.f1).wf = true ∧ (Lit.int .i64 x.f2).wf = true ∧ (Lit.int .i64 x.f3).wf = true ∧ (Lit.int .i64 x.f4).wf = true ∧ (Lit.int .i64 x.f5).wf = true ∧ (Lit.int .i64 x.f6).wf = true ∧ (Lit.int .i64 x.f7).wf = true ∧ (Lit.int .i64 x.f8).wf = true ∧ True ∧ (x.f10.length * 48 ≤ reachBytes ∧ x.f10.length ≤ maxLen ∧ ∀ y ∈ x.f10, Good34 y) ∧ (x.f11.length * 1 ≤ reachBytes ∧ x.f11.length ≤ maxLen ∧ ∀ y ∈ x.f11, (Lit.int .u8 y).wf = true)
def Small40 (B : Nat) (x : S40) : Prop := True ∧ True ∧ True ∧ True ∧ True ∧ True ∧ True ∧ True ∧ True ∧ True ∧ (x.f10.length ≤ B ∧ ∀ y ∈ x.f10, Small34 B y) ∧ (x.f11.length ≤ B ∧ ∀ y ∈ x.f11, True)
theorem opens40 : Opens Try.prog 40 k40 Good40 Small40 :=
  opens_struct (fun x : S40 => (x.f0, x.f1, x.f2, x.f3, x.f4, x.f5, x.f6, x.f7, x.f8, x.f9, x.f10, x.f11)) (fun y => ⟨y.1, y.2.1, y.2.2.1, y.2.2.2.1, y.2.2.2.2.1, y.2.2.2.2.2.1, y.2.2.2.2.2.2.1, y.2.2.2.2.2.2.2.1, y.2.2.2.2.2.2.2.2.1, y.2.2.2.2.2.2.2.2.2.1, y.2.2.2.2.2.2.2.2.2.2.1, y.2.2.2.2.2.2.2.2.2.2.2⟩) (fun _ => rfl) Try.underlying40 (by kernel_rfl) (.cons rfl (by kernel_rfl) (opens_int Try.underlying37) (.cons rfl (by kernel_rfl) (opens_int Try.underlying3) (.cons rfl (by kernel_rfl) (opens_int Try.underlying3) (.cons rfl (by kernel_rfl) (opens_int Try.underlying3) (.cons rfl (by kernel_rfl) (opens_int Try.underlying3) (.cons rfl (by kernel_rfl) (opens_int Try.underlying3) (.cons rfl (by kernel_rfl) (opens_int Try.underlying3) (.cons rfl (by kernel_rfl) (opens_int Try.underlying3) (.cons rfl (by kernel_rfl) (opens_int Try.underlying3) (.cons rfl (by kernel_rfl) (opens_bool Try.underlying4) (.cons rfl (by kernel_rfl) (opens_slice (B := 48) Try.underlying38 opens34 (by kernel_rfl) (by kernel_rfl)) (.one rfl (by kernel_rfl) (opens_slice (B := 1) Try.underlying22 (opens_int Try.underlying5) (by kernel_rfl) (by kernel_rfl))))))))))))))
def Good46 (x : S46) : Prop := (Lit.int .i64 x.f0).wf = true ∧ (Lit.int .i64 x.f1).wf = true
def Small46 (B : Nat) (x : S46) : Prop := True ∧ True
theorem opens46 : Opens Try.prog 46 k46 Good46 Small46 :=
  opens_struct (fun x : S46 => (x.f0, x.f1)) (fun y => ⟨y.1, y.2⟩) (fun _ => rfl) Try.underlying46 (by kernel_rfl) (.cons rfl (by kernel_rfl) (opens_int Try.underlying3) (.one rfl (by kernel_rfl) (opens_int Try.underlying3)))
end Go.Proofs.Ytlbioffpcoikaaa.PW
