/- DiskFiles, as its row takes it. -/
import Derived.Test.YtmmiipnmimjojaaL4
import Derived.Test.YtmmiipnmimjojaaG1
namespace Go.Proofs.Ytmmiipnmimjojaa.PS
open Go.RowKit Go.Proofs.YtmmiipnmimjojaaW.PrintWords
set_option linter.unusedVariables false
theorem Pure.DiskFiles_pure (l : List ByteArray) (g : l.length * 16 ≤ reachBytes ∧ l.length ≤ maxLen ∧ ∀ y ∈ l, (y.size ≤ reachBytes ∧ y.size ≤ maxLen)) : ∀ y ∈ l, y.size ≤ maxLen := fun y hy => (g.2.2 y hy).2
theorem tollgatelaw05_DiskFiles.calls (A0 : Option Addr) (c0 : Nat) (l : List ByteArray) (_b : Bool) (W : World) (h0 : Kd.string.C W A0 l.length l) (l0 : l.length ≤ c0) (hp : ∀ y ∈ l, y.size ≤ maxLen) :
    Calls Try.prog 4 #[.slice A0 l.length c0] W fun e w' => e = .returned (.bool true) ∧ Below W.heap.size W w' := files_calls h0 l0 hp
end Go.Proofs.Ytmmiipnmimjojaa.PS
