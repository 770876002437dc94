/- The texts of this claim's seat, joined: part 24. -/
import Derived.Test.YtmmiipnmimjojaaJ23
import Derived.KernelRfl
section
namespace Go.Proofs.Ytmmiipnmimjojaa.PS
open Go.RowKit Go.Proofs.YtmmiipnmimjojaaW.PrintWords Go.Proofs.Ytmmiipnmimjojaa.OpenK
set_option linter.unusedVariables false

def Good48 (x : S48) : Prop := (Lit.int .i64 x.f0).wf = true ∧ (Lit.int .i64 x.f1).wf = true ∧ (Lit.int .i64 x.f2).wf = true ∧ (x.f3.length * 1 ≤ reachBytes ∧ x.f3.length ≤ maxLen ∧ ∀ y ∈ x.f3, (Lit.int .u8 y).wf = true)
def Small48 (B : Nat) (x : S48) : Prop := True ∧ True ∧ True ∧ (x.f3.length ≤ B ∧ ∀ y ∈ x.f3, True)
theorem opens48 : Opens Try.prog 48 k48 Good48 Small48 :=
  opens_struct (fun x : S48 => (x.f0, x.f1, x.f2, x.f3)) (fun y => ⟨y.1, y.2.1, y.2.2.1, y.2.2.2⟩) (fun _ => rfl) Try.underlying48 (by kernel_rfl) (.cons rfl (by kernel_rfl) (opens_int Try.underlying46) (.cons rfl (by kernel_rfl) (opens_int Try.underlying3) (.cons rfl (by kernel_rfl) (opens_int Try.underlying3) (.one rfl (by kernel_rfl) (opens_slice (B := 1) Try.underlying22 (opens_int Try.underlying5) (by kernel_rfl) (by kernel_rfl))))))
end Go.Proofs.Ytmmiipnmimjojaa.PS
end
section
namespace Go.Proofs.Ytmmiipnmimjojaa.PS
open Go.RowKit Go.Proofs.YtmmiipnmimjojaaW.PrintWords Go.Proofs.Ytmmiipnmimjojaa.OpenK
set_option linter.unusedVariables false

end Go.Proofs.Ytmmiipnmimjojaa.PS
end
section
namespace Go.Proofs.Ytmmiipnmimjojaa.PS
open Go.RowKit Go.Proofs.YtmmiipnmimjojaaW.PrintWords Go.Proofs.Ytmmiipnmimjojaa.OpenK
set_option linter.unusedVariables false
theorem i64_of {y : Int} (h : (Lit.int .i64 y).wf = true) : -9223372036854775808 ≤ y ∧ y ≤ 9223372036854775807 := by
  simp [Lit.wf, IntKind.min, IntKind.max, IntKind.signed, IntKind.bits] at h
  omega
theorem u8_of {y : Int} (h : (Lit.int .u8 y).wf = true) : 0 ≤ y ∧ y ≤ 255 := by
  simp [Lit.wf, IntKind.min, IntKind.max, IntKind.signed, IntKind.bits] at h
  omega
/-- A row of numbers. -/
def Nums (l : List Int) : Prop := l.length * 8 ≤ 140737488351232 ∧ ∀ y ∈ l, -9223372036854775808 ≤ y ∧ y ≤ 9223372036854775807
/-- A row of bytes. -/
def Byts (l : List Int) : Prop := l.length ≤ 140737488351232 ∧ ∀ y ∈ l, 0 ≤ y ∧ y ≤ 255
/-- A deed of a script. -/
structure Deed5 (x : S58) : Prop where
  kind : -9223372036854775808 ≤ x.f0 ∧ x.f0 ≤ 9223372036854775807
  name : x.f1.size ≤ maxLen
  to_ : x.f2.size ≤ maxLen
  at_ : -9223372036854775808 ≤ x.f3 ∧ x.f3 ≤ 9223372036854775807
  bytes : Byts x.f4
  keep : Nums x.f5
end Go.Proofs.Ytmmiipnmimjojaa.PS
end
