/-
  No cell of these rows narrows 'for every input' (looked for: loops, veiled, ifaces, maps, wideKeys, modest, calm, conditions, laid).
  DERIVED. THE GIVEN ROWS OF THIS SEAT. 11 by the template 'for every input the law returns true; each argument reads behind the call as it read before'; 0 by the template 'total and deterministic' (their statements: YtlbioffpcoikaaaTotals.lean).
  GIVEN WITH THE SEED: the statements are not yours to turn. If you find one false, say at which input.
  Laid BY PROGRAM, IN A SANDBOX (cutbox-rows.mjs): the forced cells as the released guide's own fill.sh prints them over the translation e8dd7317e3a0534f… (all of the seat's roots in one cut). By AI agents, Wed Nov 11 2026. No macro, syntax, notation, axiom, sorry.
-/
import Derived.Test.YtlbioffpcoikaaaChecked
import GoSem.Claim
import GoSem.ClaimJoined
import GoSem.ClaimMapViews
import Derived.JoinedTies
import Derived.KernelRfl
namespace Go.Proofs.Ytlbioffpcoikaaa
/- THE CELL 'sum', in the pinned program and in every row, IS THE sha256 OF THE DUMP (.gsa) THAT YtlbioffpcoikaaaProg.lean LOADS. Nothing in Lean hashes anything: it is a label: what it is worth is what the hold of that sum in a sandbox is worth. -/
noncomputable def Try.pinned : Pinned := { name := "ytlbioffpcoikaaa", sum := "e8dd7317e3a0534fc95e1ef90e85304c0db24c68dccb9796621339f0298ef3f0", checked := Try.checked }
namespace Rows
def none {H : Type} : Left H := { results := [], args := [] }

/-- 'tollgatelaw02.WireNumbers': WHATEVER THE INPUT: true; the input reads as it did. -/
def wireNumbersSpec : ChangeSpec := { name := "wireNumbers", fn := fun _ => fun
  | [d] => { results := [.lit (.bool true)], args := [d] }
  | _ => none }
def wireNumbersRow : OpenClaim := { program := "ytlbioffpcoikaaa", sum := "e8dd7317e3a0534fc95e1ef90e85304c0db24c68dccb9796621339f0298ef3f0", func := "tollgate/tollgatelaw02.WireNumbers", spec := "wireNumbers", apart := false }
def WireNumbersSaid : Prop := wireNumbersRow.holds Try.pinned (OpenSpec.ofChange wireNumbersSpec)

/-- ITS FALSE NEIGHBOUR: 'it returns false'. Refute it at one input. -/
def wireNumbersWrong : ChangeSpec := { name := "wireNumbers", fn := fun _ => fun
  | [d] => { results := [.lit (.bool false)], args := [d] }
  | _ => none }
def WireNumbersWrongFalsely : Prop := wireNumbersRow.holds Try.pinned (OpenSpec.ofChange wireNumbersWrong)

/-- 'tollgatelaw02.WireTakes': WHATEVER THE INPUT: true; the input reads as it did. -/
def wireTakesSpec : ChangeSpec := { name := "wireTakes", fn := fun _ => fun
  | [d1, d2] => { results := [.lit (.bool true)], args := [d1, d2] }
  | _ => none }
def wireTakesRow : OpenClaim := { program := "ytlbioffpcoikaaa", sum := "e8dd7317e3a0534fc95e1ef90e85304c0db24c68dccb9796621339f0298ef3f0", func := "tollgate/tollgatelaw02.WireTakes", spec := "wireTakes", apart := false }
def WireTakesSaid : Prop := wireTakesRow.holds Try.pinned (OpenSpec.ofChange wireTakesSpec)

/-- ITS FALSE NEIGHBOUR: 'it returns false'. Refute it at one input. -/
def wireTakesWrong : ChangeSpec := { name := "wireTakes", fn := fun _ => fun
  | [d1, d2] => { results := [.lit (.bool false)], args := [d1, d2] }
  | _ => none }
def WireTakesWrongFalsely : Prop := wireTakesRow.holds Try.pinned (OpenSpec.ofChange wireTakesWrong)

/-- 'tollgatelaw02.WireNumberBack': WHATEVER THE INPUT: true; the input reads as it did. -/
def wireNumberBackSpec : ChangeSpec := { name := "wireNumberBack", fn := fun _ => fun
  | [d1, d2, d3] => { results := [.lit (.bool true)], args := [d1, d2, d3] }
  | _ => none }
def wireNumberBackRow : OpenClaim := { program := "ytlbioffpcoikaaa", sum := "e8dd7317e3a0534fc95e1ef90e85304c0db24c68dccb9796621339f0298ef3f0", func := "tollgate/tollgatelaw02.WireNumberBack", spec := "wireNumberBack", apart := false }
def WireNumberBackSaid : Prop := wireNumberBackRow.holds Try.pinned (OpenSpec.ofChange wireNumberBackSpec)

/-- ITS FALSE NEIGHBOUR: 'it returns false'. Refute it at one input. -/
def wireNumberBackWrong : ChangeSpec := { name := "wireNumberBack", fn := fun _ => fun
  | [d1, d2, d3] => { results := [.lit (.bool false)], args := [d1, d2, d3] }
  | _ => none }
def WireNumberBackWrongFalsely : Prop := wireNumberBackRow.holds Try.pinned (OpenSpec.ofChange wireNumberBackWrong)

/-- 'tollgatelaw02.WireEntries': WHATEVER THE INPUT: true; the input reads as it did. -/
def wireEntriesSpec : ChangeSpec := { name := "wireEntries", fn := fun _ => fun
  | [d] => { results := [.lit (.bool true)], args := [d] }
  | _ => none }
def wireEntriesRow : OpenClaim := { program := "ytlbioffpcoikaaa", sum := "e8dd7317e3a0534fc95e1ef90e85304c0db24c68dccb9796621339f0298ef3f0", func := "tollgate/tollgatelaw02.WireEntries", spec := "wireEntries", apart := false }
def WireEntriesSaid : Prop := wireEntriesRow.holds Try.pinned (OpenSpec.ofChange wireEntriesSpec)

/-- ITS FALSE NEIGHBOUR: 'it returns false'. Refute it at one input. -/
def wireEntriesWrong : ChangeSpec := { name := "wireEntries", fn := fun _ => fun
  | [d] => { results := [.lit (.bool false)], args := [d] }
  | _ => none }
def WireEntriesWrongFalsely : Prop := wireEntriesRow.holds Try.pinned (OpenSpec.ofChange wireEntriesWrong)

/-- 'tollgatelaw02.WireMsgs': WHATEVER THE INPUT: true; the input reads as it did. -/
def wireMsgsSpec : ChangeSpec := { name := "wireMsgs", fn := fun _ => fun
  | [d] => { results := [.lit (.bool true)], args := [d] }
  | _ => none }
def wireMsgsRow : OpenClaim := { program := "ytlbioffpcoikaaa", sum := "e8dd7317e3a0534fc95e1ef90e85304c0db24c68dccb9796621339f0298ef3f0", func := "tollgate/tollgatelaw02.WireMsgs", spec := "wireMsgs", apart := false }
def WireMsgsSaid : Prop := wireMsgsRow.holds Try.pinned (OpenSpec.ofChange wireMsgsSpec)

/-- ITS FALSE NEIGHBOUR: 'it returns false'. Refute it at one input. -/
def wireMsgsWrong : ChangeSpec := { name := "wireMsgs", fn := fun _ => fun
  | [d] => { results := [.lit (.bool false)], args := [d] }
  | _ => none }
def WireMsgsWrongFalsely : Prop := wireMsgsRow.holds Try.pinned (OpenSpec.ofChange wireMsgsWrong)

/-- 'tollgatelaw02.WireEntryBack': WHATEVER THE INPUT: true; the input reads as it did. -/
def wireEntryBackSpec : ChangeSpec := { name := "wireEntryBack", fn := fun _ => fun
  | [d1, d2, d3] => { results := [.lit (.bool true)], args := [d1, d2, d3] }
  | _ => none }
def wireEntryBackRow : OpenClaim := { program := "ytlbioffpcoikaaa", sum := "e8dd7317e3a0534fc95e1ef90e85304c0db24c68dccb9796621339f0298ef3f0", func := "tollgate/tollgatelaw02.WireEntryBack", spec := "wireEntryBack", apart := false }
def WireEntryBackSaid : Prop := wireEntryBackRow.holds Try.pinned (OpenSpec.ofChange wireEntryBackSpec)

/-- ITS FALSE NEIGHBOUR: 'it returns false'. Refute it at one input. -/
def wireEntryBackWrong : ChangeSpec := { name := "wireEntryBack", fn := fun _ => fun
  | [d1, d2, d3] => { results := [.lit (.bool false)], args := [d1, d2, d3] }
  | _ => none }
def WireEntryBackWrongFalsely : Prop := wireEntryBackRow.holds Try.pinned (OpenSpec.ofChange wireEntryBackWrong)

/-- 'tollgatelaw02.WireReadsMsg': WHATEVER THE INPUT: true; the input reads as it did. -/
def wireReadsMsgSpec : ChangeSpec := { name := "wireReadsMsg", fn := fun _ => fun
  | [d] => { results := [.lit (.bool true)], args := [d] }
  | _ => none }
def wireReadsMsgRow : OpenClaim := { program := "ytlbioffpcoikaaa", sum := "e8dd7317e3a0534fc95e1ef90e85304c0db24c68dccb9796621339f0298ef3f0", func := "tollgate/tollgatelaw02.WireReadsMsg", spec := "wireReadsMsg", apart := false }
def WireReadsMsgSaid : Prop := wireReadsMsgRow.holds Try.pinned (OpenSpec.ofChange wireReadsMsgSpec)

/-- ITS FALSE NEIGHBOUR: 'it returns false'. Refute it at one input. -/
def wireReadsMsgWrong : ChangeSpec := { name := "wireReadsMsg", fn := fun _ => fun
  | [d] => { results := [.lit (.bool false)], args := [d] }
  | _ => none }
def WireReadsMsgWrongFalsely : Prop := wireReadsMsgRow.holds Try.pinned (OpenSpec.ofChange wireReadsMsgWrong)

/-- 'tollgatelaw02.WireBack': WHATEVER THE INPUT: true; the input reads as it did. -/
def wireBackSpec : ChangeSpec := { name := "wireBack", fn := fun _ => fun
  | [d] => { results := [.lit (.bool true)], args := [d] }
  | _ => none }
def wireBackRow : OpenClaim := { program := "ytlbioffpcoikaaa", sum := "e8dd7317e3a0534fc95e1ef90e85304c0db24c68dccb9796621339f0298ef3f0", func := "tollgate/tollgatelaw02.WireBack", spec := "wireBack", apart := false }
def WireBackSaid : Prop := wireBackRow.holds Try.pinned (OpenSpec.ofChange wireBackSpec)

/-- ITS FALSE NEIGHBOUR: 'it returns false'. Refute it at one input. -/
def wireBackWrong : ChangeSpec := { name := "wireBack", fn := fun _ => fun
  | [d] => { results := [.lit (.bool false)], args := [d] }
  | _ => none }
def WireBackWrongFalsely : Prop := wireBackRow.holds Try.pinned (OpenSpec.ofChange wireBackWrong)

/-- 'tollgatelaw02.WireAgain': WHATEVER THE INPUT: true; the input reads as it did. -/
def wireAgainSpec : ChangeSpec := { name := "wireAgain", fn := fun _ => fun
  | [d] => { results := [.lit (.bool true)], args := [d] }
  | _ => none }
def wireAgainRow : OpenClaim := { program := "ytlbioffpcoikaaa", sum := "e8dd7317e3a0534fc95e1ef90e85304c0db24c68dccb9796621339f0298ef3f0", func := "tollgate/tollgatelaw02.WireAgain", spec := "wireAgain", apart := false }
def WireAgainSaid : Prop := wireAgainRow.holds Try.pinned (OpenSpec.ofChange wireAgainSpec)

/-- ITS FALSE NEIGHBOUR: 'it returns false'. Refute it at one input. -/
def wireAgainWrong : ChangeSpec := { name := "wireAgain", fn := fun _ => fun
  | [d] => { results := [.lit (.bool false)], args := [d] }
  | _ => none }
def WireAgainWrongFalsely : Prop := wireAgainRow.holds Try.pinned (OpenSpec.ofChange wireAgainWrong)

/-- 'tollgatelaw02.WireCuts': WHATEVER THE INPUT: true; the input reads as it did. -/
def wireCutsSpec : ChangeSpec := { name := "wireCuts", fn := fun _ => fun
  | [d1, d2, d3] => { results := [.lit (.bool true)], args := [d1, d2, d3] }
  | _ => none }
def wireCutsRow : OpenClaim := { program := "ytlbioffpcoikaaa", sum := "e8dd7317e3a0534fc95e1ef90e85304c0db24c68dccb9796621339f0298ef3f0", func := "tollgate/tollgatelaw02.WireCuts", spec := "wireCuts", apart := false }
def WireCutsSaid : Prop := wireCutsRow.holds Try.pinned (OpenSpec.ofChange wireCutsSpec)

/-- ITS FALSE NEIGHBOUR: 'it returns false'. Refute it at one input. -/
def wireCutsWrong : ChangeSpec := { name := "wireCuts", fn := fun _ => fun
  | [d1, d2, d3] => { results := [.lit (.bool false)], args := [d1, d2, d3] }
  | _ => none }
def WireCutsWrongFalsely : Prop := wireCutsRow.holds Try.pinned (OpenSpec.ofChange wireCutsWrong)

/-- 'tollgatelaw02.WireOwn': WHATEVER THE INPUT: true; the input reads as it did. -/
def wireOwnSpec : ChangeSpec := { name := "wireOwn", fn := fun _ => fun
  | [d] => { results := [.lit (.bool true)], args := [d] }
  | _ => none }
def wireOwnRow : OpenClaim := { program := "ytlbioffpcoikaaa", sum := "e8dd7317e3a0534fc95e1ef90e85304c0db24c68dccb9796621339f0298ef3f0", func := "tollgate/tollgatelaw02.WireOwn", spec := "wireOwn", apart := false }
def WireOwnSaid : Prop := wireOwnRow.holds Try.pinned (OpenSpec.ofChange wireOwnSpec)

/-- ITS FALSE NEIGHBOUR: 'it returns false'. Refute it at one input. -/
def wireOwnWrong : ChangeSpec := { name := "wireOwn", fn := fun _ => fun
  | [d] => { results := [.lit (.bool false)], args := [d] }
  | _ => none }
def WireOwnWrongFalsely : Prop := wireOwnRow.holds Try.pinned (OpenSpec.ofChange wireOwnWrong)

/- THE SECOND FORM. 'bulk': how many values and letters a reading holds, each counted each time it is reached (what is shared counts as often as it is met; a slice's spare places count too). A statement '..UptoSaid' is the law's where the arguments, and the package variables that the reading takes, are together of bulk at most 1048576: NARROWER than '..Said'. Prove '..Said' where nothing that the law and all that it calls make is longer than what came in: it says more and counts as full. Else prove '..UptoSaid'. A law counts once. -/
mutual
def uptoBulk {H : Type} : DataW H → Nat
  | .lit (.string bytes) => bytes.length + 1
  | .lit _ => 1
  | .nil => 1
  | .ptr d => uptoBulk d + 1
  | .slice elems spare => uptoBulkAll elems + uptoBulkAll spare + 1
  | .agg parts => uptoBulkAll parts + 1
  | .iface _ d => uptoBulk d + 1
  | .map entries => uptoBulkEntries entries + 1
  | .held _ => 1
def uptoBulkAll {H : Type} : List (DataW H) → Nat
  | [] => 0
  | d :: r => uptoBulk d + uptoBulkAll r
def uptoBulkEntries {H : Type} : List (Lit × DataW H) → Nat
  | [] => 0
  | x :: r => uptoBulkEntry x + uptoBulkEntries r
def uptoBulkEntry {H : Type} : Lit × DataW H → Nat
  | (.string bytes, d) => bytes.length + uptoBulk d + 1
  | (_, d) => uptoBulk d + 1
 end
def uptoSmall : (H : Type) → List (DataW H) → Bool := fun _ ds => decide (uptoBulkAll ds ≤ 1048576)
def OpenSpec.upto (s : _root_.Go.ChangeSpec) : _root_.Go.OpenSpec := { _root_.Go.OpenSpec.ofChange s with cond := some uptoSmall }

/-- 'tollgatelaw02.WireNumbers', WHERE WHAT IT READS IS OF BULK AT MOST 1048576: true; the input reads as it did. -/
def wireNumbersUptoRow : OpenClaim := { program := "ytlbioffpcoikaaa", sum := "e8dd7317e3a0534fc95e1ef90e85304c0db24c68dccb9796621339f0298ef3f0", func := "tollgate/tollgatelaw02.WireNumbers", spec := "wireNumbers", apart := false, narrowed := true }
def WireNumbersUptoSaid : Prop := wireNumbersUptoRow.holds Try.pinned (OpenSpec.upto wireNumbersSpec)

/-- 'tollgatelaw02.WireTakes', WHERE WHAT IT READS IS OF BULK AT MOST 1048576: true; the input reads as it did. -/
def wireTakesUptoRow : OpenClaim := { program := "ytlbioffpcoikaaa", sum := "e8dd7317e3a0534fc95e1ef90e85304c0db24c68dccb9796621339f0298ef3f0", func := "tollgate/tollgatelaw02.WireTakes", spec := "wireTakes", apart := false, narrowed := true }
def WireTakesUptoSaid : Prop := wireTakesUptoRow.holds Try.pinned (OpenSpec.upto wireTakesSpec)

/-- 'tollgatelaw02.WireNumberBack', WHERE WHAT IT READS IS OF BULK AT MOST 1048576: true; the input reads as it did. -/
def wireNumberBackUptoRow : OpenClaim := { program := "ytlbioffpcoikaaa", sum := "e8dd7317e3a0534fc95e1ef90e85304c0db24c68dccb9796621339f0298ef3f0", func := "tollgate/tollgatelaw02.WireNumberBack", spec := "wireNumberBack", apart := false, narrowed := true }
def WireNumberBackUptoSaid : Prop := wireNumberBackUptoRow.holds Try.pinned (OpenSpec.upto wireNumberBackSpec)

/-- 'tollgatelaw02.WireEntries', WHERE WHAT IT READS IS OF BULK AT MOST 1048576: true; the input reads as it did. -/
def wireEntriesUptoRow : OpenClaim := { program := "ytlbioffpcoikaaa", sum := "e8dd7317e3a0534fc95e1ef90e85304c0db24c68dccb9796621339f0298ef3f0", func := "tollgate/tollgatelaw02.WireEntries", spec := "wireEntries", apart := false, narrowed := true }
def WireEntriesUptoSaid : Prop := wireEntriesUptoRow.holds Try.pinned (OpenSpec.upto wireEntriesSpec)

/-- 'tollgatelaw02.WireMsgs', WHERE WHAT IT READS IS OF BULK AT MOST 1048576: true; the input reads as it did. -/
def wireMsgsUptoRow : OpenClaim := { program := "ytlbioffpcoikaaa", sum := "e8dd7317e3a0534fc95e1ef90e85304c0db24c68dccb9796621339f0298ef3f0", func := "tollgate/tollgatelaw02.WireMsgs", spec := "wireMsgs", apart := false, narrowed := true }
def WireMsgsUptoSaid : Prop := wireMsgsUptoRow.holds Try.pinned (OpenSpec.upto wireMsgsSpec)

/-- 'tollgatelaw02.WireEntryBack', WHERE WHAT IT READS IS OF BULK AT MOST 1048576: true; the input reads as it did. -/
def wireEntryBackUptoRow : OpenClaim := { program := "ytlbioffpcoikaaa", sum := "e8dd7317e3a0534fc95e1ef90e85304c0db24c68dccb9796621339f0298ef3f0", func := "tollgate/tollgatelaw02.WireEntryBack", spec := "wireEntryBack", apart := false, narrowed := true }
def WireEntryBackUptoSaid : Prop := wireEntryBackUptoRow.holds Try.pinned (OpenSpec.upto wireEntryBackSpec)

/-- 'tollgatelaw02.WireReadsMsg', WHERE WHAT IT READS IS OF BULK AT MOST 1048576: true; the input reads as it did. -/
def wireReadsMsgUptoRow : OpenClaim := { program := "ytlbioffpcoikaaa", sum := "e8dd7317e3a0534fc95e1ef90e85304c0db24c68dccb9796621339f0298ef3f0", func := "tollgate/tollgatelaw02.WireReadsMsg", spec := "wireReadsMsg", apart := false, narrowed := true }
def WireReadsMsgUptoSaid : Prop := wireReadsMsgUptoRow.holds Try.pinned (OpenSpec.upto wireReadsMsgSpec)

/-- 'tollgatelaw02.WireBack', WHERE WHAT IT READS IS OF BULK AT MOST 1048576: true; the input reads as it did. -/
def wireBackUptoRow : OpenClaim := { program := "ytlbioffpcoikaaa", sum := "e8dd7317e3a0534fc95e1ef90e85304c0db24c68dccb9796621339f0298ef3f0", func := "tollgate/tollgatelaw02.WireBack", spec := "wireBack", apart := false, narrowed := true }
def WireBackUptoSaid : Prop := wireBackUptoRow.holds Try.pinned (OpenSpec.upto wireBackSpec)

/-- 'tollgatelaw02.WireAgain', WHERE WHAT IT READS IS OF BULK AT MOST 1048576: true; the input reads as it did. -/
def wireAgainUptoRow : OpenClaim := { program := "ytlbioffpcoikaaa", sum := "e8dd7317e3a0534fc95e1ef90e85304c0db24c68dccb9796621339f0298ef3f0", func := "tollgate/tollgatelaw02.WireAgain", spec := "wireAgain", apart := false, narrowed := true }
def WireAgainUptoSaid : Prop := wireAgainUptoRow.holds Try.pinned (OpenSpec.upto wireAgainSpec)

/-- 'tollgatelaw02.WireCuts', WHERE WHAT IT READS IS OF BULK AT MOST 1048576: true; the input reads as it did. -/
def wireCutsUptoRow : OpenClaim := { program := "ytlbioffpcoikaaa", sum := "e8dd7317e3a0534fc95e1ef90e85304c0db24c68dccb9796621339f0298ef3f0", func := "tollgate/tollgatelaw02.WireCuts", spec := "wireCuts", apart := false, narrowed := true }
def WireCutsUptoSaid : Prop := wireCutsUptoRow.holds Try.pinned (OpenSpec.upto wireCutsSpec)

/-- 'tollgatelaw02.WireOwn', WHERE WHAT IT READS IS OF BULK AT MOST 1048576: true; the input reads as it did. -/
def wireOwnUptoRow : OpenClaim := { program := "ytlbioffpcoikaaa", sum := "e8dd7317e3a0534fc95e1ef90e85304c0db24c68dccb9796621339f0298ef3f0", func := "tollgate/tollgatelaw02.WireOwn", spec := "wireOwn", apart := false, narrowed := true }
def WireOwnUptoSaid : Prop := wireOwnUptoRow.holds Try.pinned (OpenSpec.upto wireOwnSpec)

end Rows
end Go.Proofs.Ytlbioffpcoikaaa
