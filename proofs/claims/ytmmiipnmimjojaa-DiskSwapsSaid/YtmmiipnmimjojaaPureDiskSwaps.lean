/- DiskSwaps, as its row takes it. -/
import Derived.Test.YtmmiipnmimjojaaL6
import Derived.Test.YtmmiipnmimjojaaG1
namespace Go.Proofs.Ytmmiipnmimjojaa.PS
open Go.RowKit Go.Proofs.YtmmiipnmimjojaaW.PrintWords
set_option linter.unusedVariables false
theorem Pure.DiskSwaps_pure {P Q : Prop} (a b l : List Int) (g0 : P) (g1 : Q) (g2 : l.length * 8 ≤ reachBytes ∧ l.length ≤ maxLen ∧ ∀ y ∈ l, (Lit.int .i64 y).wf = true) : Nums l := nums_of g2
theorem tollgatelaw05_DiskSwaps.calls (A0 : Option Addr) (c0 : Nat) (a : List Int) (A1 : Option Addr) (c1 : Nat) (b : List Int) (A2 : Option Addr) (c2 : Nat) (l : List Int) (_b : Bool) (W : World)
    (h0 : k8.C W A0 a.length a) (l0 : a.length ≤ c0) (h1 : k8.C W A1 b.length b) (l1 : b.length ≤ c1) (h2 : (Kd.int .i64).C W A2 l.length l) (l2 : l.length ≤ c2) (hp : Nums l) :
    Calls Try.prog 6 #[.slice A0 a.length c0, .slice A1 b.length c1, .slice A2 l.length c2] W fun e w' => e = .returned (.bool true) ∧ Below W.heap.size W w' :=
  swaps_calls h0 l0 h1 l1 h2 fun z hz => (hp.2 z hz).2
end Go.Proofs.Ytmmiipnmimjojaa.PS
