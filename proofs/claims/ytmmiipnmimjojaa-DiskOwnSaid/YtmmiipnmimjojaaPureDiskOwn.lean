/- DiskOwn, as its row takes it. -/
import Derived.Test.YtmmiipnmimjojaaL10
import Derived.Test.YtmmiipnmimjojaaG1
namespace Go.Proofs.Ytmmiipnmimjojaa.PS
open Go.RowKit Go.Proofs.YtmmiipnmimjojaaW.PrintWords
set_option linter.unusedVariables false
theorem Pure.DiskOwn_pure (l : List S58) (g0 : l.length * 96 ≤ reachBytes ∧ l.length ≤ maxLen ∧ ∀ y ∈ l, Good58 y) : Script l := script_of g0
theorem tollgatelaw05_DiskOwn.calls (A : Option Addr) (c : Nat) (l : List S58) (_b : Bool) (W : World) (h0 : Kd.C k58 W A l.length l) (l0 : l.length ≤ c) (hp : Script l) :
    Calls Try.prog 10 #[.slice A l.length c] W fun e w' => e = .returned (.bool true) ∧ Below W.heap.size W w' := own_calls h0 l0 hp
end Go.Proofs.Ytmmiipnmimjojaa.PS
