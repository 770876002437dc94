/- What a law's numbers are, as a row hands them. -/
import Derived.Test.YtmmiipnmimjojaaKindsS
namespace Go.Proofs.Ytmmiipnmimjojaa.PS
open Go.RowKit Go.Proofs.YtmmiipnmimjojaaW.PrintWords Go.Proofs.Ytmmiipnmimjojaa.OpenK
set_option linter.unusedVariables false
theorem i64_of {y : Int} (h : (Lit.int .i64 y).wf = true) : -9223372036854775808 ≤ y ∧ y ≤ 9223372036854775807 := by
  simp [Lit.wf, IntKind.min, IntKind.max, IntKind.signed, IntKind.bits] at h
  omega
theorem u8_of {y : Int} (h : (Lit.int .u8 y).wf = true) : 0 ≤ y ∧ y ≤ 255 := by
  simp [Lit.wf, IntKind.min, IntKind.max, IntKind.signed, IntKind.bits] at h
  omega
/-- A row of numbers. -/
def Nums (l : List Int) : Prop := l.length * 8 ≤ 140737488351232 ∧ ∀ y ∈ l, -9223372036854775808 ≤ y ∧ y ≤ 9223372036854775807
/-- A row of bytes. -/
def Byts (l : List Int) : Prop := l.length ≤ 140737488351232 ∧ ∀ y ∈ l, 0 ≤ y ∧ y ≤ 255
/-- A deed of a script. -/
structure Deed5 (x : S58) : Prop where
  kind : -9223372036854775808 ≤ x.f0 ∧ x.f0 ≤ 9223372036854775807
  name : x.f1.size ≤ maxLen
  to_ : x.f2.size ≤ maxLen
  at_ : -9223372036854775808 ≤ x.f3 ∧ x.f3 ≤ 9223372036854775807
  bytes : Byts x.f4
  keep : Nums x.f5
def Script (l : List S58) : Prop := l.length * 96 ≤ 140737488351232 ∧ ∀ x ∈ l, Deed5 x
theorem nums_of {l : List Int} (h : l.length * 8 ≤ reachBytes ∧ l.length ≤ maxLen ∧ ∀ y ∈ l, (Lit.int .i64 y).wf = true) : Nums l := ⟨h.1, fun y hy => i64_of (h.2.2 y hy)⟩
theorem byts_of {l : List Int} (h : l.length * 1 ≤ reachBytes ∧ l.length ≤ maxLen ∧ ∀ y ∈ l, (Lit.int .u8 y).wf = true) : Byts l := ⟨by have h1 : l.length * 1 ≤ 140737488351232 := h.1; omega, fun y hy => u8_of (h.2.2 y hy)⟩
theorem deed_of {x : S58} (h : Good58 x) : Deed5 x := ⟨i64_of h.1, h.2.1.2, h.2.2.1.2, i64_of h.2.2.2.1, byts_of h.2.2.2.2.1, nums_of h.2.2.2.2.2⟩
theorem script_of {l : List S58} (h : l.length * 96 ≤ reachBytes ∧ l.length ≤ maxLen ∧ ∀ y ∈ l, Good58 y) : Script l := ⟨h.1, fun x hx => deed_of (h.2.2 x hx)⟩
end Go.Proofs.Ytmmiipnmimjojaa.PS
