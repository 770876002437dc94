/- What the laws' arguments hold, type by type. -/
import Derived.Test.YthmamgnobcnhgaaPMx0
import Derived.Test.YthmamgnobcnhgaaOpen
import Derived.KernelRfl
namespace Go.Proofs.Ythmamgnobcnhgaa.PM
open Go.RowKit Go.Proofs.YthmamgnobcnhgaaW.PrintWords Go.Proofs.Ythmamgnobcnhgaa.OpenK
set_option linter.unusedVariables false

def Good24 (x : S24) : Prop := (x.f0.length * 8 ≤ reachBytes ∧ x.f0.length ≤ maxLen ∧ ∀ y ∈ x.f0, (Lit.int .i64 y).wf = true) ∧ (x.f1.length * 8 ≤ reachBytes ∧ x.f1.length ≤ maxLen ∧ ∀ y ∈ x.f1, (Lit.int .i64 y).wf = true)
def Small24 (B : Nat) (x : S24) : Prop := (x.f0.length ≤ B ∧ ∀ y ∈ x.f0, True) ∧ (x.f1.length ≤ B ∧ ∀ y ∈ x.f1, True)
theorem opens24 : Opens Try.prog 24 k24 Good24 Small24 :=
  opens_struct (fun x : S24 => (x.f0, x.f1)) (fun y => ⟨y.1, y.2⟩) (fun _ => rfl) Try.underlying24 (by kernel_rfl) (.cons rfl (by kernel_rfl) (opens_slice (B := 8) Try.underlying22 (opens_int Try.underlying3) (by kernel_rfl) (by kernel_rfl)) (.one rfl (by kernel_rfl) (opens_slice (B := 8) Try.underlying22 (opens_int Try.underlying3) (by kernel_rfl) (by kernel_rfl))))
def Good33 (x : S33) : Prop := (Lit.int .i64 x.f0).wf = true ∧ (Lit.int .i64 x.f1).wf = true
def Small33 (B : Nat) (x : S33) : Prop := True ∧ True
theorem opens33 : Opens Try.prog 33 k33 Good33 Small33 :=
  opens_struct (fun x : S33 => (x.f0, x.f1)) (fun y => ⟨y.1, y.2⟩) (fun _ => rfl) Try.underlying33 (by kernel_rfl) (.cons rfl (by kernel_rfl) (opens_int Try.underlying3) (.one rfl (by kernel_rfl) (opens_int Try.underlying3)))
def Good55 (x : S55) : Prop := (Lit.int .i64 x.f0).wf = true ∧ (Lit.int .i64 x.f1).wf = true
def Small55 (B : Nat) (x : S55) : Prop := True ∧ True
theorem opens55 : Opens Try.prog 55 k55 Good55 Small55 :=
  opens_struct (fun x : S55 => (x.f0, x.f1)) (fun y => ⟨y.1, y.2⟩) (fun _ => rfl) Try.underlying55 (by kernel_rfl) (.cons rfl (by kernel_rfl) (opens_int Try.underlying53) (.one rfl (by kernel_rfl) (opens_int Try.underlying3)))
def Good66 (x : S66) : Prop := (x.f0.length * 8 ≤ reachBytes ∧ x.f0.length ≤ maxLen ∧ ∀ y ∈ x.f0, (Lit.int .i64 y).wf = true) ∧ (x.f1.length * 8 ≤ reachBytes ∧ x.f1.length ≤ maxLen ∧ ∀ y ∈ x.f1, (Lit.int .i64 y).wf = true)
def Small66 (B : Nat) (x : S66) : Prop := (x.f0.length ≤ B ∧ ∀ y ∈ x.f0, True) ∧ (x.f1.length ≤ B ∧ ∀ y ∈ x.f1, True)
theorem opens66 : Opens Try.prog 66 k66 Good66 Small66 :=
  opens_struct (fun x : S66 => (x.f0, x.f1)) (fun y => ⟨y.1, y.2⟩) (fun _ => rfl) Try.underlying66 (by kernel_rfl) (.cons rfl (by kernel_rfl) (opens_slice (B := 8) Try.underlying22 (opens_int Try.underlying3) (by kernel_rfl) (by kernel_rfl)) (.one rfl (by kernel_rfl) (opens_slice (B := 8) Try.underlying22 (opens_int Try.underlying3) (by kernel_rfl) (by kernel_rfl))))
end Go.Proofs.Ythmamgnobcnhgaa.PM
