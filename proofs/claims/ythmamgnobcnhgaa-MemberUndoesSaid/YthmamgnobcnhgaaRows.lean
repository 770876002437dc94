/-
  No cell of these rows narrows 'for every input' (looked for: loops, veiled, ifaces, maps, wideKeys, modest, calm, conditions, laid).
  DERIVED. THE GIVEN ROWS OF THIS SEAT. 14 by the template 'for every input the law returns true; each argument reads behind the call as it read before'; 0 by the template 'total and deterministic' (their statements: YthmamgnobcnhgaaTotals.lean).
  GIVEN WITH THE SEED: the statements are not yours to turn. If you find one false, say at which input.
  Laid BY PROGRAM, IN A SANDBOX (cutbox-rows.mjs): the forced cells as the released guide's own fill.sh prints them over the translation b8b42cd1db5d1512… (all of the seat's roots in one cut). By AI agents, Wed Nov 11 2026. No macro, syntax, notation, axiom, sorry.
-/
import Derived.Test.YthmamgnobcnhgaaChecked
import GoSem.Claim
import GoSem.ClaimJoined
import GoSem.ClaimMapViews
import Derived.JoinedTies
import Derived.KernelRfl
namespace Go.Proofs.Ythmamgnobcnhgaa
/- THE CELL 'sum', in the pinned program and in every row, IS THE sha256 OF THE DUMP (.gsa) THAT YthmamgnobcnhgaaProg.lean LOADS. Nothing in Lean hashes anything: it is a label: what it is worth is what the hold of that sum in a sandbox is worth. -/
noncomputable def Try.pinned : Pinned := { name := "ythmamgnobcnhgaa", sum := "b8b42cd1db5d15127e013fb66e233d29cb72bc8770b45218af1567b961392573", checked := Try.checked }
namespace Rows
def none {H : Type} : Left H := { results := [], args := [] }

/-- 'tollgatelaw03.MemberQuorums': WHATEVER THE INPUT: true; the input reads as it did. -/
def memberQuorumsSpec : ChangeSpec := { name := "memberQuorums", fn := fun _ => fun
  | [d1, d2] => { results := [.lit (.bool true)], args := [d1, d2] }
  | _ => none }
def memberQuorumsRow : OpenClaim := { program := "ythmamgnobcnhgaa", sum := "b8b42cd1db5d15127e013fb66e233d29cb72bc8770b45218af1567b961392573", func := "tollgate/tollgatelaw03.MemberQuorums", spec := "memberQuorums", unfollowed := true, recurses := true, plainKeys := false, apart := false }
def MemberQuorumsSaid : Prop := memberQuorumsRow.holds Try.pinned (OpenSpec.ofChange memberQuorumsSpec)

/-- ITS FALSE NEIGHBOUR: 'it returns false'. Refute it at one input. -/
def memberQuorumsWrong : ChangeSpec := { name := "memberQuorums", fn := fun _ => fun
  | [d1, d2] => { results := [.lit (.bool false)], args := [d1, d2] }
  | _ => none }
def MemberQuorumsWrongFalsely : Prop := memberQuorumsRow.holds Try.pinned (OpenSpec.ofChange memberQuorumsWrong)

/-- 'tollgatelaw03.MemberAgrees': WHATEVER THE INPUT: true; the input reads as it did. -/
def memberAgreesSpec : ChangeSpec := { name := "memberAgrees", fn := fun _ => fun
  | [d1, d2] => { results := [.lit (.bool true)], args := [d1, d2] }
  | _ => none }
def memberAgreesRow : OpenClaim := { program := "ythmamgnobcnhgaa", sum := "b8b42cd1db5d15127e013fb66e233d29cb72bc8770b45218af1567b961392573", func := "tollgate/tollgatelaw03.MemberAgrees", spec := "memberAgrees", unfollowed := true, recurses := true, plainKeys := false, apart := false }
def MemberAgreesSaid : Prop := memberAgreesRow.holds Try.pinned (OpenSpec.ofChange memberAgreesSpec)

/-- ITS FALSE NEIGHBOUR: 'it returns false'. Refute it at one input. -/
def memberAgreesWrong : ChangeSpec := { name := "memberAgrees", fn := fun _ => fun
  | [d1, d2] => { results := [.lit (.bool false)], args := [d1, d2] }
  | _ => none }
def MemberAgreesWrongFalsely : Prop := memberAgreesRow.holds Try.pinned (OpenSpec.ofChange memberAgreesWrong)

/-- 'tollgatelaw03.MemberHalves': WHATEVER THE INPUT: true; the input reads as it did. -/
def memberHalvesSpec : ChangeSpec := { name := "memberHalves", fn := fun _ => fun
  | [d1, d2] => { results := [.lit (.bool true)], args := [d1, d2] }
  | _ => none }
def memberHalvesRow : OpenClaim := { program := "ythmamgnobcnhgaa", sum := "b8b42cd1db5d15127e013fb66e233d29cb72bc8770b45218af1567b961392573", func := "tollgate/tollgatelaw03.MemberHalves", spec := "memberHalves", unfollowed := true, recurses := true, plainKeys := false, apart := false }
def MemberHalvesSaid : Prop := memberHalvesRow.holds Try.pinned (OpenSpec.ofChange memberHalvesSpec)

/-- ITS FALSE NEIGHBOUR: 'it returns false'. Refute it at one input. -/
def memberHalvesWrong : ChangeSpec := { name := "memberHalves", fn := fun _ => fun
  | [d1, d2] => { results := [.lit (.bool false)], args := [d1, d2] }
  | _ => none }
def MemberHalvesWrongFalsely : Prop := memberHalvesRow.holds Try.pinned (OpenSpec.ofChange memberHalvesWrong)

/-- 'tollgatetop.TopVoices': WHATEVER THE INPUT: true; the input reads as it did. -/
def topVoicesSpec : ChangeSpec := { name := "topVoices", fn := fun _ => fun
  | [d1, d2, d3] => { results := [.lit (.bool true)], args := [d1, d2, d3] }
  | _ => none }
def topVoicesRow : OpenClaim := { program := "ythmamgnobcnhgaa", sum := "b8b42cd1db5d15127e013fb66e233d29cb72bc8770b45218af1567b961392573", func := "tollgate/tollgatetop.TopVoices", spec := "topVoices", unfollowed := true, recurses := true, plainKeys := false, apart := false }
def TopVoicesSaid : Prop := topVoicesRow.holds Try.pinned (OpenSpec.ofChange topVoicesSpec)

/-- ITS FALSE NEIGHBOUR: 'it returns false'. Refute it at one input. -/
def topVoicesWrong : ChangeSpec := { name := "topVoices", fn := fun _ => fun
  | [d1, d2, d3] => { results := [.lit (.bool false)], args := [d1, d2, d3] }
  | _ => none }
def TopVoicesWrongFalsely : Prop := topVoicesRow.holds Try.pinned (OpenSpec.ofChange topVoicesWrong)

/-- 'tollgatelaw03.MemberMore': WHATEVER THE INPUT: true; the input reads as it did. -/
def memberMoreSpec : ChangeSpec := { name := "memberMore", fn := fun _ => fun
  | [d1, d2, d3] => { results := [.lit (.bool true)], args := [d1, d2, d3] }
  | _ => none }
def memberMoreRow : OpenClaim := { program := "ythmamgnobcnhgaa", sum := "b8b42cd1db5d15127e013fb66e233d29cb72bc8770b45218af1567b961392573", func := "tollgate/tollgatelaw03.MemberMore", spec := "memberMore", unfollowed := true, recurses := true, plainKeys := false, apart := false }
def MemberMoreSaid : Prop := memberMoreRow.holds Try.pinned (OpenSpec.ofChange memberMoreSpec)

/-- ITS FALSE NEIGHBOUR: 'it returns false'. Refute it at one input. -/
def memberMoreWrong : ChangeSpec := { name := "memberMore", fn := fun _ => fun
  | [d1, d2, d3] => { results := [.lit (.bool false)], args := [d1, d2, d3] }
  | _ => none }
def MemberMoreWrongFalsely : Prop := memberMoreRow.holds Try.pinned (OpenSpec.ofChange memberMoreWrong)

/-- 'tollgatelaw03.MemberReached': WHATEVER THE INPUT: true; the input reads as it did. -/
def memberReachedSpec : ChangeSpec := { name := "memberReached", fn := fun _ => fun
  | [d1, d2] => { results := [.lit (.bool true)], args := [d1, d2] }
  | _ => none }
def memberReachedRow : OpenClaim := { program := "ythmamgnobcnhgaa", sum := "b8b42cd1db5d15127e013fb66e233d29cb72bc8770b45218af1567b961392573", func := "tollgate/tollgatelaw03.MemberReached", spec := "memberReached", unfollowed := true, recurses := true, plainKeys := false, apart := false }
def MemberReachedSaid : Prop := memberReachedRow.holds Try.pinned (OpenSpec.ofChange memberReachedSpec)

/-- ITS FALSE NEIGHBOUR: 'it returns false'. Refute it at one input. -/
def memberReachedWrong : ChangeSpec := { name := "memberReached", fn := fun _ => fun
  | [d1, d2] => { results := [.lit (.bool false)], args := [d1, d2] }
  | _ => none }
def MemberReachedWrongFalsely : Prop := memberReachedRow.holds Try.pinned (OpenSpec.ofChange memberReachedWrong)

/-- 'tollgatelaw03.MemberPuts': WHATEVER THE INPUT: true; the input reads as it did. -/
def memberPutsSpec : ChangeSpec := { name := "memberPuts", fn := fun _ => fun
  | [d1, d2] => { results := [.lit (.bool true)], args := [d1, d2] }
  | _ => none }
def memberPutsRow : OpenClaim := { program := "ythmamgnobcnhgaa", sum := "b8b42cd1db5d15127e013fb66e233d29cb72bc8770b45218af1567b961392573", func := "tollgate/tollgatelaw03.MemberPuts", spec := "memberPuts", unfollowed := true, recurses := true, plainKeys := false, apart := false }
def MemberPutsSaid : Prop := memberPutsRow.holds Try.pinned (OpenSpec.ofChange memberPutsSpec)

/-- ITS FALSE NEIGHBOUR: 'it returns false'. Refute it at one input. -/
def memberPutsWrong : ChangeSpec := { name := "memberPuts", fn := fun _ => fun
  | [d1, d2] => { results := [.lit (.bool false)], args := [d1, d2] }
  | _ => none }
def MemberPutsWrongFalsely : Prop := memberPutsRow.holds Try.pinned (OpenSpec.ofChange memberPutsWrong)

/-- 'tollgatelaw03.MemberRight': WHATEVER THE INPUT: true; the input reads as it did. -/
def memberRightSpec : ChangeSpec := { name := "memberRight", fn := fun _ => fun
  | [d1, d2] => { results := [.lit (.bool true)], args := [d1, d2] }
  | _ => none }
def memberRightRow : OpenClaim := { program := "ythmamgnobcnhgaa", sum := "b8b42cd1db5d15127e013fb66e233d29cb72bc8770b45218af1567b961392573", func := "tollgate/tollgatelaw03.MemberRight", spec := "memberRight", unfollowed := true, recurses := true, plainKeys := false, apart := false }
def MemberRightSaid : Prop := memberRightRow.holds Try.pinned (OpenSpec.ofChange memberRightSpec)

/-- ITS FALSE NEIGHBOUR: 'it returns false'. Refute it at one input. -/
def memberRightWrong : ChangeSpec := { name := "memberRight", fn := fun _ => fun
  | [d1, d2] => { results := [.lit (.bool false)], args := [d1, d2] }
  | _ => none }
def MemberRightWrongFalsely : Prop := memberRightRow.holds Try.pinned (OpenSpec.ofChange memberRightWrong)

/-- 'tollgatelaw03.MemberApplies': WHATEVER THE INPUT: true; the input reads as it did. -/
def memberAppliesSpec : ChangeSpec := { name := "memberApplies", fn := fun _ => fun
  | [d1, d2] => { results := [.lit (.bool true)], args := [d1, d2] }
  | _ => none }
def memberAppliesRow : OpenClaim := { program := "ythmamgnobcnhgaa", sum := "b8b42cd1db5d15127e013fb66e233d29cb72bc8770b45218af1567b961392573", func := "tollgate/tollgatelaw03.MemberApplies", spec := "memberApplies", unfollowed := true, recurses := true, plainKeys := false, apart := false }
def MemberAppliesSaid : Prop := memberAppliesRow.holds Try.pinned (OpenSpec.ofChange memberAppliesSpec)

/-- ITS FALSE NEIGHBOUR: 'it returns false'. Refute it at one input. -/
def memberAppliesWrong : ChangeSpec := { name := "memberApplies", fn := fun _ => fun
  | [d1, d2] => { results := [.lit (.bool false)], args := [d1, d2] }
  | _ => none }
def MemberAppliesWrongFalsely : Prop := memberAppliesRow.holds Try.pinned (OpenSpec.ofChange memberAppliesWrong)

/-- 'tollgatelaw03.MemberUndoes': WHATEVER THE INPUT: true; the input reads as it did. -/
def memberUndoesSpec : ChangeSpec := { name := "memberUndoes", fn := fun _ => fun
  | [d1, d2] => { results := [.lit (.bool true)], args := [d1, d2] }
  | _ => none }
def memberUndoesRow : OpenClaim := { program := "ythmamgnobcnhgaa", sum := "b8b42cd1db5d15127e013fb66e233d29cb72bc8770b45218af1567b961392573", func := "tollgate/tollgatelaw03.MemberUndoes", spec := "memberUndoes", unfollowed := true, recurses := true, plainKeys := false, apart := false }
def MemberUndoesSaid : Prop := memberUndoesRow.holds Try.pinned (OpenSpec.ofChange memberUndoesSpec)

/-- ITS FALSE NEIGHBOUR: 'it returns false'. Refute it at one input. -/
def memberUndoesWrong : ChangeSpec := { name := "memberUndoes", fn := fun _ => fun
  | [d1, d2] => { results := [.lit (.bool false)], args := [d1, d2] }
  | _ => none }
def MemberUndoesWrongFalsely : Prop := memberUndoesRow.holds Try.pinned (OpenSpec.ofChange memberUndoesWrong)

/-- 'tollgatelaw03.MemberMeets': WHATEVER THE INPUT: true; the input reads as it did. -/
def memberMeetsSpec : ChangeSpec := { name := "memberMeets", fn := fun _ => fun
  | [d1, d2, d3] => { results := [.lit (.bool true)], args := [d1, d2, d3] }
  | _ => none }
def memberMeetsRow : OpenClaim := { program := "ythmamgnobcnhgaa", sum := "b8b42cd1db5d15127e013fb66e233d29cb72bc8770b45218af1567b961392573", func := "tollgate/tollgatelaw03.MemberMeets", spec := "memberMeets", unfollowed := true, recurses := true, plainKeys := false, apart := false }
def MemberMeetsSaid : Prop := memberMeetsRow.holds Try.pinned (OpenSpec.ofChange memberMeetsSpec)

/-- ITS FALSE NEIGHBOUR: 'it returns false'. Refute it at one input. -/
def memberMeetsWrong : ChangeSpec := { name := "memberMeets", fn := fun _ => fun
  | [d1, d2, d3] => { results := [.lit (.bool false)], args := [d1, d2, d3] }
  | _ => none }
def MemberMeetsWrongFalsely : Prop := memberMeetsRow.holds Try.pinned (OpenSpec.ofChange memberMeetsWrong)

/-- 'tollgatelaw03.MemberGets': WHATEVER THE INPUT: true; the input reads as it did. -/
def memberGetsSpec : ChangeSpec := { name := "memberGets", fn := fun _ => fun
  | [d] => { results := [.lit (.bool true)], args := [d] }
  | _ => none }
def memberGetsRow : OpenClaim := { program := "ythmamgnobcnhgaa", sum := "b8b42cd1db5d15127e013fb66e233d29cb72bc8770b45218af1567b961392573", func := "tollgate/tollgatelaw03.MemberGets", spec := "memberGets", unfollowed := true, recurses := true, plainKeys := false, apart := false }
def MemberGetsSaid : Prop := memberGetsRow.holds Try.pinned (OpenSpec.ofChange memberGetsSpec)

/-- ITS FALSE NEIGHBOUR: 'it returns false'. Refute it at one input. -/
def memberGetsWrong : ChangeSpec := { name := "memberGets", fn := fun _ => fun
  | [d] => { results := [.lit (.bool false)], args := [d] }
  | _ => none }
def MemberGetsWrongFalsely : Prop := memberGetsRow.holds Try.pinned (OpenSpec.ofChange memberGetsWrong)

/-- 'tollgatelaw03.MemberBack': WHATEVER THE INPUT: true; the input reads as it did. -/
def memberBackSpec : ChangeSpec := { name := "memberBack", fn := fun _ => fun
  | [d1, d2, d3] => { results := [.lit (.bool true)], args := [d1, d2, d3] }
  | _ => none }
def memberBackRow : OpenClaim := { program := "ythmamgnobcnhgaa", sum := "b8b42cd1db5d15127e013fb66e233d29cb72bc8770b45218af1567b961392573", func := "tollgate/tollgatelaw03.MemberBack", spec := "memberBack", unfollowed := true, recurses := true, plainKeys := false, apart := false }
def MemberBackSaid : Prop := memberBackRow.holds Try.pinned (OpenSpec.ofChange memberBackSpec)

/-- ITS FALSE NEIGHBOUR: 'it returns false'. Refute it at one input. -/
def memberBackWrong : ChangeSpec := { name := "memberBack", fn := fun _ => fun
  | [d1, d2, d3] => { results := [.lit (.bool false)], args := [d1, d2, d3] }
  | _ => none }
def MemberBackWrongFalsely : Prop := memberBackRow.holds Try.pinned (OpenSpec.ofChange memberBackWrong)

/-- 'tollgatelaw03.MemberOwn': WHATEVER THE INPUT: true; the input reads as it did. -/
def memberOwnSpec : ChangeSpec := { name := "memberOwn", fn := fun _ => fun
  | [d1, d2] => { results := [.lit (.bool true)], args := [d1, d2] }
  | _ => none }
def memberOwnRow : OpenClaim := { program := "ythmamgnobcnhgaa", sum := "b8b42cd1db5d15127e013fb66e233d29cb72bc8770b45218af1567b961392573", func := "tollgate/tollgatelaw03.MemberOwn", spec := "memberOwn", unfollowed := true, recurses := true, plainKeys := false, apart := false }
def MemberOwnSaid : Prop := memberOwnRow.holds Try.pinned (OpenSpec.ofChange memberOwnSpec)

/-- ITS FALSE NEIGHBOUR: 'it returns false'. Refute it at one input. -/
def memberOwnWrong : ChangeSpec := { name := "memberOwn", fn := fun _ => fun
  | [d1, d2] => { results := [.lit (.bool false)], args := [d1, d2] }
  | _ => none }
def MemberOwnWrongFalsely : Prop := memberOwnRow.holds Try.pinned (OpenSpec.ofChange memberOwnWrong)

/- THE SECOND FORM. 'bulk': how many values and letters a reading holds, each counted each time it is reached (what is shared counts as often as it is met; a slice's spare places count too). A statement '..UptoSaid' is the law's where the arguments, and the package variables that the reading takes, are together of bulk at most 1048576: NARROWER than '..Said'. Prove '..Said' where nothing that the law and all that it calls make is longer than what came in: it says more and counts as full. Else prove '..UptoSaid'. A law counts once. -/
mutual
def uptoBulk {H : Type} : DataW H → Nat
  | .lit (.string bytes) => bytes.length + 1
  | .lit _ => 1
  | .nil => 1
  | .ptr d => uptoBulk d + 1
  | .slice elems spare => uptoBulkAll elems + uptoBulkAll spare + 1
  | .agg parts => uptoBulkAll parts + 1
  | .iface _ d => uptoBulk d + 1
  | .map entries => uptoBulkEntries entries + 1
  | .held _ => 1
def uptoBulkAll {H : Type} : List (DataW H) → Nat
  | [] => 0
  | d :: r => uptoBulk d + uptoBulkAll r
def uptoBulkEntries {H : Type} : List (Lit × DataW H) → Nat
  | [] => 0
  | x :: r => uptoBulkEntry x + uptoBulkEntries r
def uptoBulkEntry {H : Type} : Lit × DataW H → Nat
  | (.string bytes, d) => bytes.length + uptoBulk d + 1
  | (_, d) => uptoBulk d + 1
 end
def uptoSmall : (H : Type) → List (DataW H) → Bool := fun _ ds => decide (uptoBulkAll ds ≤ 1048576)
def OpenSpec.upto (s : _root_.Go.ChangeSpec) : _root_.Go.OpenSpec := { _root_.Go.OpenSpec.ofChange s with cond := some uptoSmall }

/-- 'tollgatelaw03.MemberQuorums', WHERE WHAT IT READS IS OF BULK AT MOST 1048576: true; the input reads as it did. -/
def memberQuorumsUptoRow : OpenClaim := { program := "ythmamgnobcnhgaa", sum := "b8b42cd1db5d15127e013fb66e233d29cb72bc8770b45218af1567b961392573", func := "tollgate/tollgatelaw03.MemberQuorums", spec := "memberQuorums", unfollowed := true, recurses := true, plainKeys := false, apart := false, narrowed := true }
def MemberQuorumsUptoSaid : Prop := memberQuorumsUptoRow.holds Try.pinned (OpenSpec.upto memberQuorumsSpec)

/-- 'tollgatelaw03.MemberAgrees', WHERE WHAT IT READS IS OF BULK AT MOST 1048576: true; the input reads as it did. -/
def memberAgreesUptoRow : OpenClaim := { program := "ythmamgnobcnhgaa", sum := "b8b42cd1db5d15127e013fb66e233d29cb72bc8770b45218af1567b961392573", func := "tollgate/tollgatelaw03.MemberAgrees", spec := "memberAgrees", unfollowed := true, recurses := true, plainKeys := false, apart := false, narrowed := true }
def MemberAgreesUptoSaid : Prop := memberAgreesUptoRow.holds Try.pinned (OpenSpec.upto memberAgreesSpec)

/-- 'tollgatelaw03.MemberHalves', WHERE WHAT IT READS IS OF BULK AT MOST 1048576: true; the input reads as it did. -/
def memberHalvesUptoRow : OpenClaim := { program := "ythmamgnobcnhgaa", sum := "b8b42cd1db5d15127e013fb66e233d29cb72bc8770b45218af1567b961392573", func := "tollgate/tollgatelaw03.MemberHalves", spec := "memberHalves", unfollowed := true, recurses := true, plainKeys := false, apart := false, narrowed := true }
def MemberHalvesUptoSaid : Prop := memberHalvesUptoRow.holds Try.pinned (OpenSpec.upto memberHalvesSpec)

/-- 'tollgatetop.TopVoices', WHERE WHAT IT READS IS OF BULK AT MOST 1048576: true; the input reads as it did. -/
def topVoicesUptoRow : OpenClaim := { program := "ythmamgnobcnhgaa", sum := "b8b42cd1db5d15127e013fb66e233d29cb72bc8770b45218af1567b961392573", func := "tollgate/tollgatetop.TopVoices", spec := "topVoices", unfollowed := true, recurses := true, plainKeys := false, apart := false, narrowed := true }
def TopVoicesUptoSaid : Prop := topVoicesUptoRow.holds Try.pinned (OpenSpec.upto topVoicesSpec)

/-- 'tollgatelaw03.MemberMore', WHERE WHAT IT READS IS OF BULK AT MOST 1048576: true; the input reads as it did. -/
def memberMoreUptoRow : OpenClaim := { program := "ythmamgnobcnhgaa", sum := "b8b42cd1db5d15127e013fb66e233d29cb72bc8770b45218af1567b961392573", func := "tollgate/tollgatelaw03.MemberMore", spec := "memberMore", unfollowed := true, recurses := true, plainKeys := false, apart := false, narrowed := true }
def MemberMoreUptoSaid : Prop := memberMoreUptoRow.holds Try.pinned (OpenSpec.upto memberMoreSpec)

/-- 'tollgatelaw03.MemberReached', WHERE WHAT IT READS IS OF BULK AT MOST 1048576: true; the input reads as it did. -/
def memberReachedUptoRow : OpenClaim := { program := "ythmamgnobcnhgaa", sum := "b8b42cd1db5d15127e013fb66e233d29cb72bc8770b45218af1567b961392573", func := "tollgate/tollgatelaw03.MemberReached", spec := "memberReached", unfollowed := true, recurses := true, plainKeys := false, apart := false, narrowed := true }
def MemberReachedUptoSaid : Prop := memberReachedUptoRow.holds Try.pinned (OpenSpec.upto memberReachedSpec)

/-- 'tollgatelaw03.MemberPuts', WHERE WHAT IT READS IS OF BULK AT MOST 1048576: true; the input reads as it did. -/
def memberPutsUptoRow : OpenClaim := { program := "ythmamgnobcnhgaa", sum := "b8b42cd1db5d15127e013fb66e233d29cb72bc8770b45218af1567b961392573", func := "tollgate/tollgatelaw03.MemberPuts", spec := "memberPuts", unfollowed := true, recurses := true, plainKeys := false, apart := false, narrowed := true }
def MemberPutsUptoSaid : Prop := memberPutsUptoRow.holds Try.pinned (OpenSpec.upto memberPutsSpec)

/-- 'tollgatelaw03.MemberRight', WHERE WHAT IT READS IS OF BULK AT MOST 1048576: true; the input reads as it did. -/
def memberRightUptoRow : OpenClaim := { program := "ythmamgnobcnhgaa", sum := "b8b42cd1db5d15127e013fb66e233d29cb72bc8770b45218af1567b961392573", func := "tollgate/tollgatelaw03.MemberRight", spec := "memberRight", unfollowed := true, recurses := true, plainKeys := false, apart := false, narrowed := true }
def MemberRightUptoSaid : Prop := memberRightUptoRow.holds Try.pinned (OpenSpec.upto memberRightSpec)

/-- 'tollgatelaw03.MemberApplies', WHERE WHAT IT READS IS OF BULK AT MOST 1048576: true; the input reads as it did. -/
def memberAppliesUptoRow : OpenClaim := { program := "ythmamgnobcnhgaa", sum := "b8b42cd1db5d15127e013fb66e233d29cb72bc8770b45218af1567b961392573", func := "tollgate/tollgatelaw03.MemberApplies", spec := "memberApplies", unfollowed := true, recurses := true, plainKeys := false, apart := false, narrowed := true }
def MemberAppliesUptoSaid : Prop := memberAppliesUptoRow.holds Try.pinned (OpenSpec.upto memberAppliesSpec)

/-- 'tollgatelaw03.MemberUndoes', WHERE WHAT IT READS IS OF BULK AT MOST 1048576: true; the input reads as it did. -/
def memberUndoesUptoRow : OpenClaim := { program := "ythmamgnobcnhgaa", sum := "b8b42cd1db5d15127e013fb66e233d29cb72bc8770b45218af1567b961392573", func := "tollgate/tollgatelaw03.MemberUndoes", spec := "memberUndoes", unfollowed := true, recurses := true, plainKeys := false, apart := false, narrowed := true }
def MemberUndoesUptoSaid : Prop := memberUndoesUptoRow.holds Try.pinned (OpenSpec.upto memberUndoesSpec)

/-- 'tollgatelaw03.MemberMeets', WHERE WHAT IT READS IS OF BULK AT MOST 1048576: true; the input reads as it did. -/
def memberMeetsUptoRow : OpenClaim := { program := "ythmamgnobcnhgaa", sum := "b8b42cd1db5d15127e013fb66e233d29cb72bc8770b45218af1567b961392573", func := "tollgate/tollgatelaw03.MemberMeets", spec := "memberMeets", unfollowed := true, recurses := true, plainKeys := false, apart := false, narrowed := true }
def MemberMeetsUptoSaid : Prop := memberMeetsUptoRow.holds Try.pinned (OpenSpec.upto memberMeetsSpec)

/-- 'tollgatelaw03.MemberGets', WHERE WHAT IT READS IS OF BULK AT MOST 1048576: true; the input reads as it did. -/
def memberGetsUptoRow : OpenClaim := { program := "ythmamgnobcnhgaa", sum := "b8b42cd1db5d15127e013fb66e233d29cb72bc8770b45218af1567b961392573", func := "tollgate/tollgatelaw03.MemberGets", spec := "memberGets", unfollowed := true, recurses := true, plainKeys := false, apart := false, narrowed := true }
def MemberGetsUptoSaid : Prop := memberGetsUptoRow.holds Try.pinned (OpenSpec.upto memberGetsSpec)

/-- 'tollgatelaw03.MemberBack', WHERE WHAT IT READS IS OF BULK AT MOST 1048576: true; the input reads as it did. -/
def memberBackUptoRow : OpenClaim := { program := "ythmamgnobcnhgaa", sum := "b8b42cd1db5d15127e013fb66e233d29cb72bc8770b45218af1567b961392573", func := "tollgate/tollgatelaw03.MemberBack", spec := "memberBack", unfollowed := true, recurses := true, plainKeys := false, apart := false, narrowed := true }
def MemberBackUptoSaid : Prop := memberBackUptoRow.holds Try.pinned (OpenSpec.upto memberBackSpec)

/-- 'tollgatelaw03.MemberOwn', WHERE WHAT IT READS IS OF BULK AT MOST 1048576: true; the input reads as it did. -/
def memberOwnUptoRow : OpenClaim := { program := "ythmamgnobcnhgaa", sum := "b8b42cd1db5d15127e013fb66e233d29cb72bc8770b45218af1567b961392573", func := "tollgate/tollgatelaw03.MemberOwn", spec := "memberOwn", unfollowed := true, recurses := true, plainKeys := false, apart := false, narrowed := true }
def MemberOwnUptoSaid : Prop := memberOwnUptoRow.holds Try.pinned (OpenSpec.upto memberOwnSpec)

end Rows
end Go.Proofs.Ythmamgnobcnhgaa
