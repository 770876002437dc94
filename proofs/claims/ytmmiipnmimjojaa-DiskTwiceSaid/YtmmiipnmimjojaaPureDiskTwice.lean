/- DiskTwice, as its row takes it. -/
import Derived.Test.YtmmiipnmimjojaaL9
import Derived.Test.YtmmiipnmimjojaaG1
namespace Go.Proofs.Ytmmiipnmimjojaa.PS
open Go.RowKit Go.Proofs.YtmmiipnmimjojaaW.PrintWords
set_option linter.unusedVariables false
theorem Pure.DiskTwice_pure (l : List S58) (a b : List Int) (g0 : l.length * 96 ≤ reachBytes ∧ l.length ≤ maxLen ∧ ∀ y ∈ l, Good58 y) (g1 : a.length * 8 ≤ reachBytes ∧ a.length ≤ maxLen ∧ ∀ y ∈ a, (Lit.int .i64 y).wf = true)
    (g2 : b.length * 8 ≤ reachBytes ∧ b.length ≤ maxLen ∧ ∀ y ∈ b, (Lit.int .i64 y).wf = true) : Script l ∧ Nums a ∧ Nums b := ⟨script_of g0, nums_of g1, nums_of g2⟩
theorem tollgatelaw05_DiskTwice.calls (A : Option Addr) (c : Nat) (l : List S58) (A1 : Option Addr) (c1 : Nat) (a : List Int) (A2 : Option Addr) (c2 : Nat) (b : List Int) (_b : Bool) (W : World) (h0 : Kd.C k58 W A l.length l) (l0 : l.length ≤ c)
    (h1 : (Kd.int .i64).C W A1 a.length a) (l1 : a.length ≤ c1) (h2 : (Kd.int .i64).C W A2 b.length b) (l2 : b.length ≤ c2) (hp : Script l ∧ Nums a ∧ Nums b) :
    Calls Try.prog 9 #[.slice A l.length c, .slice A1 a.length c1, .slice A2 b.length c2] W fun e w' => e = .returned (.bool true) ∧ Below W.heap.size W w' :=
  twice_calls h0 l0 hp.1 h1 h2 (fun z hz => (hp.2.1.2 z hz).2) (fun z hz => (hp.2.2.2 z hz).2)
end Go.Proofs.Ytmmiipnmimjojaa.PS
