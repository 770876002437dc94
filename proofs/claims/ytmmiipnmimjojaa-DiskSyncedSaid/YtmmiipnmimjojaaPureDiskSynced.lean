/- DiskSynced, as its row takes it. -/
import Derived.Test.YtmmiipnmimjojaaL7
import Derived.Test.YtmmiipnmimjojaaG1
namespace Go.Proofs.Ytmmiipnmimjojaa.PS
open Go.RowKit Go.Proofs.YtmmiipnmimjojaaW.PrintWords
set_option linter.unusedVariables false
theorem Pure.DiskSynced_pure (l m : List S58) (x : S58) (g0 : l.length * 96 ≤ reachBytes ∧ l.length ≤ maxLen ∧ ∀ y ∈ l, Good58 y) (g1 : m.length * 96 ≤ reachBytes ∧ m.length ≤ maxLen ∧ ∀ y ∈ m, Good58 y) (g2 : Good58 x) : Script l ∧ Script m ∧ Deed5 x :=
  ⟨script_of g0, script_of g1, deed_of g2⟩
theorem tollgatelaw05_DiskSynced.calls (A : Option Addr) (c : Nat) (l : List S58) (A1 : Option Addr) (c1 : Nat) (m : List S58) (f0 : Int) (f1 f2 : ByteArray) (f3 : Int) (A4 : Option Addr) (c4 : Nat) (f4 : List Int) (A5 : Option Addr) (c5 : Nat) (f5 : List Int) (_b : Bool) (W : World)
    (h0 : Kd.C k58 W A l.length l) (l0 : l.length ≤ c) (h1 : Kd.C k58 W A1 m.length m) (l1 : m.length ≤ c1) (h4 : k8.C W A4 f4.length f4) (l4 : f4.length ≤ c4) (h5 : (Kd.int .i64).C W A5 f5.length f5) (l5 : f5.length ≤ c5) (hp : Script l ∧ Script m ∧ Deed5 ⟨f0, f1, f2, f3, f4, f5⟩) :
    Calls Try.prog 7 #[.slice A l.length c, .slice A1 m.length c1, .agg #[.int .i64 f0, .string f1, .string f2, .int .i64 f3, .slice A4 f4.length c4, .slice A5 f5.length c5]] W fun e w' => e = .returned (.bool true) ∧ Below W.heap.size W w' :=
  synced_calls (x := ⟨f0, f1, f2, f3, f4, f5⟩) h0 l0 hp.1 h1 hp.2.1 hp.2.2 h4 l4 h5 l5
end Go.Proofs.Ytmmiipnmimjojaa.PS
