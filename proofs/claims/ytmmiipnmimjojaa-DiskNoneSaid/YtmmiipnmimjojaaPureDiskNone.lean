/- DiskNone, as its row takes it. -/
import Derived.Test.YtmmiipnmimjojaaL2
namespace Go.Proofs.Ytmmiipnmimjojaa.PS
open Go.RowKit Go.Proofs.YtmmiipnmimjojaaW.PrintWords
set_option linter.unusedVariables false
theorem Pure.DiskNone_pure {P Q R : Prop} (s : ByteArray) (n : Int) (l : List Int) (g0 : P) (g1 : Q) (g2 : R) : True := trivial
theorem tollgatelaw05_DiskNone.calls (s : ByteArray) (n : Int) (A : Option Addr) (c : Nat) (l : List Int) (b : Bool) (W : World) (hC : k8.C W A l.length l) (hl : l.length ≤ c) (_hp : True) :
    Calls Try.prog 12 #[.string s, .int .i64 n, .slice A l.length c] W fun e w' => e = .returned (.bool true) ∧ Below W.heap.size W w' := diskNone_calls
end Go.Proofs.Ytmmiipnmimjojaa.PS
