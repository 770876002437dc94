/- DiskPlays, as its row takes it. -/
import Derived.Test.YtmmiipnmimjojaaL8
import Derived.Test.YtmmiipnmimjojaaG1
namespace Go.Proofs.Ytmmiipnmimjojaa.PS
open Go.RowKit Go.Proofs.YtmmiipnmimjojaaW.PrintWords
set_option linter.unusedVariables false
theorem Pure.DiskPlays_pure (z : Int) (l : List S58) (g0 : (Lit.int .i64 z).wf = true) (g1 : l.length * 96 ≤ reachBytes ∧ l.length ≤ maxLen ∧ ∀ y ∈ l, Good58 y) : z ≤ 9223372036854775807 ∧ Script l := ⟨(i64_of g0).2, script_of g1⟩
theorem tollgatelaw05_DiskPlays.calls (z : Int) (A : Option Addr) (c : Nat) (l : List S58) (_b : Bool) (W : World) (h0 : Kd.C k58 W A l.length l) (l0 : l.length ≤ c) (hp : z ≤ 9223372036854775807 ∧ Script l) :
    Calls Try.prog 8 #[.int .i64 z, .slice A l.length c] W fun e w' => e = .returned (.bool true) ∧ Below W.heap.size W w' := plays_calls h0 l0 hp.2 hp.1
end Go.Proofs.Ytmmiipnmimjojaa.PS
