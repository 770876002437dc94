/- What the laws' arguments hold, type by type. -/
import Derived.Test.YtmmiipnmimjojaaPSx0
import Derived.Test.YtmmiipnmimjojaaOpen
import Derived.KernelRfl
namespace Go.Proofs.Ytmmiipnmimjojaa.PS
open Go.RowKit Go.Proofs.YtmmiipnmimjojaaW.PrintWords Go.Proofs.Ytmmiipnmimjojaa.OpenK
set_option linter.unusedVariables false

def Good58 (x : S58) : Prop := (Lit.int .i64 x.f0).wf = true ∧ (x.f1.size ≤ reachBytes ∧ x.f1.size ≤ maxLen) ∧ (x.f2.size ≤ reachBytes ∧ x.f2.size ≤ maxLen) ∧ (Lit.int .i64 x.f3).wf = true ∧ (x.f4.length * 1 ≤ reachBytes ∧ x.f4.length ≤ maxLen ∧ ∀ y ∈ x.f4, (Lit.int .u8 y).wf = true) ∧ (x.f5.length * 8 ≤ reachBytes ∧ x.f5.length ≤ maxLen ∧ ∀ y ∈ x.f5, (Lit.int .i64 y).wf = true)
def Small58 (B : Nat) (x : S58) : Prop := True ∧ x.f1.size ≤ B ∧ x.f2.size ≤ B ∧ True ∧ (x.f4.length ≤ B ∧ ∀ y ∈ x.f4, True) ∧ (x.f5.length ≤ B ∧ ∀ y ∈ x.f5, True)
theorem opens58 : Opens Try.prog 58 k58 Good58 Small58 :=
  opens_struct (fun x : S58 => (x.f0, x.f1, x.f2, x.f3, x.f4, x.f5)) (fun y => ⟨y.1, y.2.1, y.2.2.1, y.2.2.2.1, y.2.2.2.2.1, y.2.2.2.2.2⟩) (fun _ => rfl) Try.underlying58 (by kernel_rfl) (.cons rfl (by kernel_rfl) (opens_int Try.underlying3) (.cons rfl (by kernel_rfl) (opens_string Try.underlying9) (.cons rfl (by kernel_rfl) (opens_string Try.underlying9) (.cons rfl (by kernel_rfl) (opens_int Try.underlying3) (.cons rfl (by kernel_rfl) (opens_slice (B := 1) Try.underlying22 (opens_int Try.underlying5) (by kernel_rfl) (by kernel_rfl)) (.one rfl (by kernel_rfl) (opens_slice (B := 8) Try.underlying32 (opens_int Try.underlying3) (by kernel_rfl) (by kernel_rfl))))))))
end Go.Proofs.Ytmmiipnmimjojaa.PS
