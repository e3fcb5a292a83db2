/-
  No cell of these rows narrows 'for every input' (looked for: loops, veiled, ifaces, maps, wideKeys, modest, calm, conditions, laid).
  DERIVED. THE GIVEN ROWS OF THIS SEAT. 12 by the template 'for every input the law returns true; each argument reads behind the call as it read before'; 0 by the template 'total and deterministic' (their statements: YtjjidjcflimhgaaTotals.lean).
  GIVEN WITH THE SEED: the statements are not yours to turn. If you find one false, say at which input.
  Laid BY PROGRAM, IN A SANDBOX (cutbox-rows.mjs): the forced cells as the released guide's own fill.sh prints them over the translation 05054d9a3050f930… (all of the seat's roots in one cut). By AI agents, Wed Nov 11 2026. No macro, syntax, notation, axiom, sorry.
-/
import Derived.Test.YtjjidjcflimhgaaChecked
import GoSem.Claim
import GoSem.ClaimJoined
import GoSem.ClaimMapViews
import Derived.JoinedTies
import Derived.KernelRfl
namespace Go.Proofs.Ytjjidjcflimhgaa
/- THE CELL 'sum', in the pinned program and in every row, IS THE sha256 OF THE DUMP (.gsa) THAT YtjjidjcflimhgaaProg.lean LOADS. Nothing in Lean hashes anything: it is a label: what it is worth is what the hold of that sum in a sandbox is worth. -/
noncomputable def Try.pinned : Pinned := { name := "ytjjidjcflimhgaa", sum := "05054d9a3050f93005f31d3933c3bbd744bf80466f13bd4cc31c63661db9bb30", checked := Try.checked }
namespace Rows
def none {H : Type} : Left H := { results := [], args := [] }

/-- 'laws.FnExactMeetOf': WHATEVER THE INPUT: true; the input reads as it did. -/
def fnExactMeetOfSpec : ChangeSpec := { name := "fnExactMeetOf", fn := fun _ => fun
  | [d1, d2, d3] => { results := [.lit (.bool true)], args := [d1, d2, d3] }
  | _ => none }
def fnExactMeetOfRow : OpenClaim := { program := "ytjjidjcflimhgaa", sum := "05054d9a3050f93005f31d3933c3bbd744bf80466f13bd4cc31c63661db9bb30", func := "loop.example/g01370/laws.FnExactMeetOf", spec := "fnExactMeetOf", unfollowed := true, recurses := true, apart := false }
def FnExactMeetOfSaid : Prop := fnExactMeetOfRow.holds Try.pinned (OpenSpec.ofChange fnExactMeetOfSpec)

/-- ITS FALSE NEIGHBOUR: 'it returns false'. Refute it at one input. -/
def fnExactMeetOfWrong : ChangeSpec := { name := "fnExactMeetOf", fn := fun _ => fun
  | [d1, d2, d3] => { results := [.lit (.bool false)], args := [d1, d2, d3] }
  | _ => none }
def FnExactMeetOfWrongFalsely : Prop := fnExactMeetOfRow.holds Try.pinned (OpenSpec.ofChange fnExactMeetOfWrong)

/-- 'laws.FnExactLineThrough': WHATEVER THE INPUT: true; the input reads as it did. -/
def fnExactLineThroughSpec : ChangeSpec := { name := "fnExactLineThrough", fn := fun _ => fun
  | [d1, d2, d3] => { results := [.lit (.bool true)], args := [d1, d2, d3] }
  | _ => none }
def fnExactLineThroughRow : OpenClaim := { program := "ytjjidjcflimhgaa", sum := "05054d9a3050f93005f31d3933c3bbd744bf80466f13bd4cc31c63661db9bb30", func := "loop.example/g01370/laws.FnExactLineThrough", spec := "fnExactLineThrough", unfollowed := true, recurses := true, apart := false }
def FnExactLineThroughSaid : Prop := fnExactLineThroughRow.holds Try.pinned (OpenSpec.ofChange fnExactLineThroughSpec)

/-- ITS FALSE NEIGHBOUR: 'it returns false'. Refute it at one input. -/
def fnExactLineThroughWrong : ChangeSpec := { name := "fnExactLineThrough", fn := fun _ => fun
  | [d1, d2, d3] => { results := [.lit (.bool false)], args := [d1, d2, d3] }
  | _ => none }
def FnExactLineThroughWrongFalsely : Prop := fnExactLineThroughRow.holds Try.pinned (OpenSpec.ofChange fnExactLineThroughWrong)

/-- 'laws.FnExactPointsOn': WHATEVER THE INPUT: true; the input reads as it did. -/
def fnExactPointsOnSpec : ChangeSpec := { name := "fnExactPointsOn", fn := fun _ => fun
  | [d1, d2] => { results := [.lit (.bool true)], args := [d1, d2] }
  | _ => none }
def fnExactPointsOnRow : OpenClaim := { program := "ytjjidjcflimhgaa", sum := "05054d9a3050f93005f31d3933c3bbd744bf80466f13bd4cc31c63661db9bb30", func := "loop.example/g01370/laws.FnExactPointsOn", spec := "fnExactPointsOn", unfollowed := true, recurses := true, apart := false }
def FnExactPointsOnSaid : Prop := fnExactPointsOnRow.holds Try.pinned (OpenSpec.ofChange fnExactPointsOnSpec)

/-- ITS FALSE NEIGHBOUR: 'it returns false'. Refute it at one input. -/
def fnExactPointsOnWrong : ChangeSpec := { name := "fnExactPointsOn", fn := fun _ => fun
  | [d1, d2] => { results := [.lit (.bool false)], args := [d1, d2] }
  | _ => none }
def FnExactPointsOnWrongFalsely : Prop := fnExactPointsOnRow.holds Try.pinned (OpenSpec.ofChange fnExactPointsOnWrong)

/-- 'laws.FnExactCrossOf': WHATEVER THE INPUT: true; the input reads as it did. -/
def fnExactCrossOfSpec : ChangeSpec := { name := "fnExactCrossOf", fn := fun _ => fun
  | [d1, d2, d3, d4] => { results := [.lit (.bool true)], args := [d1, d2, d3, d4] }
  | _ => none }
def fnExactCrossOfRow : OpenClaim := { program := "ytjjidjcflimhgaa", sum := "05054d9a3050f93005f31d3933c3bbd744bf80466f13bd4cc31c63661db9bb30", func := "loop.example/g01370/laws.FnExactCrossOf", spec := "fnExactCrossOf", unfollowed := true, recurses := true, apart := false }
def FnExactCrossOfSaid : Prop := fnExactCrossOfRow.holds Try.pinned (OpenSpec.ofChange fnExactCrossOfSpec)

/-- ITS FALSE NEIGHBOUR: 'it returns false'. Refute it at one input. -/
def fnExactCrossOfWrong : ChangeSpec := { name := "fnExactCrossOf", fn := fun _ => fun
  | [d1, d2, d3, d4] => { results := [.lit (.bool false)], args := [d1, d2, d3, d4] }
  | _ => none }
def FnExactCrossOfWrongFalsely : Prop := fnExactCrossOfRow.holds Try.pinned (OpenSpec.ofChange fnExactCrossOfWrong)

/-- 'laws.FnExactSpreadOf': WHATEVER THE INPUT: true; the input reads as it did. -/
def fnExactSpreadOfSpec : ChangeSpec := { name := "fnExactSpreadOf", fn := fun _ => fun
  | [d1, d2, d3, d4] => { results := [.lit (.bool true)], args := [d1, d2, d3, d4] }
  | _ => none }
def fnExactSpreadOfRow : OpenClaim := { program := "ytjjidjcflimhgaa", sum := "05054d9a3050f93005f31d3933c3bbd744bf80466f13bd4cc31c63661db9bb30", func := "loop.example/g01370/laws.FnExactSpreadOf", spec := "fnExactSpreadOf", unfollowed := true, recurses := true, apart := false }
def FnExactSpreadOfSaid : Prop := fnExactSpreadOfRow.holds Try.pinned (OpenSpec.ofChange fnExactSpreadOfSpec)

/-- ITS FALSE NEIGHBOUR: 'it returns false'. Refute it at one input. -/
def fnExactSpreadOfWrong : ChangeSpec := { name := "fnExactSpreadOf", fn := fun _ => fun
  | [d1, d2, d3, d4] => { results := [.lit (.bool false)], args := [d1, d2, d3, d4] }
  | _ => none }
def FnExactSpreadOfWrongFalsely : Prop := fnExactSpreadOfRow.holds Try.pinned (OpenSpec.ofChange fnExactSpreadOfWrong)

/-- 'laws.FnExactTwistOf': WHATEVER THE INPUT: true; the input reads as it did. -/
def fnExactTwistOfSpec : ChangeSpec := { name := "fnExactTwistOf", fn := fun _ => fun
  | [d1, d2, d3, d4] => { results := [.lit (.bool true)], args := [d1, d2, d3, d4] }
  | _ => none }
def fnExactTwistOfRow : OpenClaim := { program := "ytjjidjcflimhgaa", sum := "05054d9a3050f93005f31d3933c3bbd744bf80466f13bd4cc31c63661db9bb30", func := "loop.example/g01370/laws.FnExactTwistOf", spec := "fnExactTwistOf", unfollowed := true, recurses := true, apart := false }
def FnExactTwistOfSaid : Prop := fnExactTwistOfRow.holds Try.pinned (OpenSpec.ofChange fnExactTwistOfSpec)

/-- ITS FALSE NEIGHBOUR: 'it returns false'. Refute it at one input. -/
def fnExactTwistOfWrong : ChangeSpec := { name := "fnExactTwistOf", fn := fun _ => fun
  | [d1, d2, d3, d4] => { results := [.lit (.bool false)], args := [d1, d2, d3, d4] }
  | _ => none }
def FnExactTwistOfWrongFalsely : Prop := fnExactTwistOfRow.holds Try.pinned (OpenSpec.ofChange fnExactTwistOfWrong)

/-- 'laws.FnExactPerpendicularThrough': WHATEVER THE INPUT: true; the input reads as it did. -/
def fnExactPerpendicularThroughSpec : ChangeSpec := { name := "fnExactPerpendicularThrough", fn := fun _ => fun
  | [d1, d2, d3, d4] => { results := [.lit (.bool true)], args := [d1, d2, d3, d4] }
  | _ => none }
def fnExactPerpendicularThroughRow : OpenClaim := { program := "ytjjidjcflimhgaa", sum := "05054d9a3050f93005f31d3933c3bbd744bf80466f13bd4cc31c63661db9bb30", func := "loop.example/g01370/laws.FnExactPerpendicularThrough", spec := "fnExactPerpendicularThrough", unfollowed := true, recurses := true, apart := false }
def FnExactPerpendicularThroughSaid : Prop := fnExactPerpendicularThroughRow.holds Try.pinned (OpenSpec.ofChange fnExactPerpendicularThroughSpec)

/-- ITS FALSE NEIGHBOUR: 'it returns false'. Refute it at one input. -/
def fnExactPerpendicularThroughWrong : ChangeSpec := { name := "fnExactPerpendicularThrough", fn := fun _ => fun
  | [d1, d2, d3, d4] => { results := [.lit (.bool false)], args := [d1, d2, d3, d4] }
  | _ => none }
def FnExactPerpendicularThroughWrongFalsely : Prop := fnExactPerpendicularThroughRow.holds Try.pinned (OpenSpec.ofChange fnExactPerpendicularThroughWrong)

/-- 'laws.FnExactSpreadAt': WHATEVER THE INPUT: true; the input reads as it did. -/
def fnExactSpreadAtSpec : ChangeSpec := { name := "fnExactSpreadAt", fn := fun _ => fun
  | [d1, d2, d3, d4, d5] => { results := [.lit (.bool true)], args := [d1, d2, d3, d4, d5] }
  | _ => none }
def fnExactSpreadAtRow : OpenClaim := { program := "ytjjidjcflimhgaa", sum := "05054d9a3050f93005f31d3933c3bbd744bf80466f13bd4cc31c63661db9bb30", func := "loop.example/g01370/laws.FnExactSpreadAt", spec := "fnExactSpreadAt", unfollowed := true, recurses := true, apart := false }
def FnExactSpreadAtSaid : Prop := fnExactSpreadAtRow.holds Try.pinned (OpenSpec.ofChange fnExactSpreadAtSpec)

/-- ITS FALSE NEIGHBOUR: 'it returns false'. Refute it at one input. -/
def fnExactSpreadAtWrong : ChangeSpec := { name := "fnExactSpreadAt", fn := fun _ => fun
  | [d1, d2, d3, d4, d5] => { results := [.lit (.bool false)], args := [d1, d2, d3, d4, d5] }
  | _ => none }
def FnExactSpreadAtWrongFalsely : Prop := fnExactSpreadAtRow.holds Try.pinned (OpenSpec.ofChange fnExactSpreadAtWrong)

/-- 'laws.FnExactNullLines': WHATEVER THE INPUT: true; the input reads as it did. -/
def fnExactNullLinesSpec : ChangeSpec := { name := "fnExactNullLines", fn := fun _ => fun
  | [d1, d2, d3] => { results := [.lit (.bool true)], args := [d1, d2, d3] }
  | _ => none }
def fnExactNullLinesRow : OpenClaim := { program := "ytjjidjcflimhgaa", sum := "05054d9a3050f93005f31d3933c3bbd744bf80466f13bd4cc31c63661db9bb30", func := "loop.example/g01370/laws.FnExactNullLines", spec := "fnExactNullLines", unfollowed := true, recurses := true, apart := false }
def FnExactNullLinesSaid : Prop := fnExactNullLinesRow.holds Try.pinned (OpenSpec.ofChange fnExactNullLinesSpec)

/-- ITS FALSE NEIGHBOUR: 'it returns false'. Refute it at one input. -/
def fnExactNullLinesWrong : ChangeSpec := { name := "fnExactNullLines", fn := fun _ => fun
  | [d1, d2, d3] => { results := [.lit (.bool false)], args := [d1, d2, d3] }
  | _ => none }
def FnExactNullLinesWrongFalsely : Prop := fnExactNullLinesRow.holds Try.pinned (OpenSpec.ofChange fnExactNullLinesWrong)

/-- 'laws.FnExactPointsAt': WHATEVER THE INPUT: true; the input reads as it did. -/
def fnExactPointsAtSpec : ChangeSpec := { name := "fnExactPointsAt", fn := fun _ => fun
  | [d1, d2, d3, d4] => { results := [.lit (.bool true)], args := [d1, d2, d3, d4] }
  | _ => none }
def fnExactPointsAtRow : OpenClaim := { program := "ytjjidjcflimhgaa", sum := "05054d9a3050f93005f31d3933c3bbd744bf80466f13bd4cc31c63661db9bb30", func := "loop.example/g01370/laws.FnExactPointsAt", spec := "fnExactPointsAt", unfollowed := true, recurses := true, apart := false }
def FnExactPointsAtSaid : Prop := fnExactPointsAtRow.holds Try.pinned (OpenSpec.ofChange fnExactPointsAtSpec)

/-- ITS FALSE NEIGHBOUR: 'it returns false'. Refute it at one input. -/
def fnExactPointsAtWrong : ChangeSpec := { name := "fnExactPointsAt", fn := fun _ => fun
  | [d1, d2, d3, d4] => { results := [.lit (.bool false)], args := [d1, d2, d3, d4] }
  | _ => none }
def FnExactPointsAtWrongFalsely : Prop := fnExactPointsAtRow.holds Try.pinned (OpenSpec.ofChange fnExactPointsAtWrong)

/-- 'laws.FnExactSpreadRatio': WHATEVER THE INPUT: true; the input reads as it did. -/
def fnExactSpreadRatioSpec : ChangeSpec := { name := "fnExactSpreadRatio", fn := fun _ => fun
  | [d1, d2, d3, d4, d5] => { results := [.lit (.bool true)], args := [d1, d2, d3, d4, d5] }
  | _ => none }
def fnExactSpreadRatioRow : OpenClaim := { program := "ytjjidjcflimhgaa", sum := "05054d9a3050f93005f31d3933c3bbd744bf80466f13bd4cc31c63661db9bb30", func := "loop.example/g01370/laws.FnExactSpreadRatio", spec := "fnExactSpreadRatio", unfollowed := true, recurses := true, apart := false }
def FnExactSpreadRatioSaid : Prop := fnExactSpreadRatioRow.holds Try.pinned (OpenSpec.ofChange fnExactSpreadRatioSpec)

/-- ITS FALSE NEIGHBOUR: 'it returns false'. Refute it at one input. -/
def fnExactSpreadRatioWrong : ChangeSpec := { name := "fnExactSpreadRatio", fn := fun _ => fun
  | [d1, d2, d3, d4, d5] => { results := [.lit (.bool false)], args := [d1, d2, d3, d4, d5] }
  | _ => none }
def FnExactSpreadRatioWrongFalsely : Prop := fnExactSpreadRatioRow.holds Try.pinned (OpenSpec.ofChange fnExactSpreadRatioWrong)

/-- 'laws.FnExactCountBySpread': WHATEVER THE INPUT: true; the input reads as it did. -/
def fnExactCountBySpreadSpec : ChangeSpec := { name := "fnExactCountBySpread", fn := fun _ => fun
  | [d1, d2, d3] => { results := [.lit (.bool true)], args := [d1, d2, d3] }
  | _ => none }
def fnExactCountBySpreadRow : OpenClaim := { program := "ytjjidjcflimhgaa", sum := "05054d9a3050f93005f31d3933c3bbd744bf80466f13bd4cc31c63661db9bb30", func := "loop.example/g01370/laws.FnExactCountBySpread", spec := "fnExactCountBySpread", unfollowed := true, recurses := true, apart := false }
def FnExactCountBySpreadSaid : Prop := fnExactCountBySpreadRow.holds Try.pinned (OpenSpec.ofChange fnExactCountBySpreadSpec)

/-- ITS FALSE NEIGHBOUR: 'it returns false'. Refute it at one input. -/
def fnExactCountBySpreadWrong : ChangeSpec := { name := "fnExactCountBySpread", fn := fun _ => fun
  | [d1, d2, d3] => { results := [.lit (.bool false)], args := [d1, d2, d3] }
  | _ => none }
def FnExactCountBySpreadWrongFalsely : Prop := fnExactCountBySpreadRow.holds Try.pinned (OpenSpec.ofChange fnExactCountBySpreadWrong)

/- THE SECOND FORM. 'bulk': how many values and letters a reading holds, each counted each time it is reached (what is shared counts as often as it is met; a slice's spare places count too). A statement '..UptoSaid' is the law's where the arguments, and the package variables that the reading takes, are together of bulk at most 1048576: NARROWER than '..Said'. Prove '..Said' where nothing that the law and all that it calls make is longer than what came in: it says more and counts as full. Else prove '..UptoSaid'. A law counts once. -/
mutual
def uptoBulk {H : Type} : DataW H → Nat
  | .lit (.string bytes) => bytes.length + 1
  | .lit _ => 1
  | .nil => 1
  | .ptr d => uptoBulk d + 1
  | .slice elems spare => uptoBulkAll elems + uptoBulkAll spare + 1
  | .agg parts => uptoBulkAll parts + 1
  | .iface _ d => uptoBulk d + 1
  | .map entries => uptoBulkEntries entries + 1
  | .held _ => 1
def uptoBulkAll {H : Type} : List (DataW H) → Nat
  | [] => 0
  | d :: r => uptoBulk d + uptoBulkAll r
def uptoBulkEntries {H : Type} : List (Lit × DataW H) → Nat
  | [] => 0
  | x :: r => uptoBulkEntry x + uptoBulkEntries r
def uptoBulkEntry {H : Type} : Lit × DataW H → Nat
  | (.string bytes, d) => bytes.length + uptoBulk d + 1
  | (_, d) => uptoBulk d + 1
 end
def uptoSmall : (H : Type) → List (DataW H) → Bool := fun _ ds => decide (uptoBulkAll ds ≤ 1048576)
def OpenSpec.upto (s : _root_.Go.ChangeSpec) : _root_.Go.OpenSpec := { _root_.Go.OpenSpec.ofChange s with cond := some uptoSmall }

/-- 'laws.FnExactMeetOf', WHERE WHAT IT READS IS OF BULK AT MOST 1048576: true; the input reads as it did. -/
def fnExactMeetOfUptoRow : OpenClaim := { program := "ytjjidjcflimhgaa", sum := "05054d9a3050f93005f31d3933c3bbd744bf80466f13bd4cc31c63661db9bb30", func := "loop.example/g01370/laws.FnExactMeetOf", spec := "fnExactMeetOf", unfollowed := true, recurses := true, apart := false, narrowed := true }
def FnExactMeetOfUptoSaid : Prop := fnExactMeetOfUptoRow.holds Try.pinned (OpenSpec.upto fnExactMeetOfSpec)

/-- 'laws.FnExactLineThrough', WHERE WHAT IT READS IS OF BULK AT MOST 1048576: true; the input reads as it did. -/
def fnExactLineThroughUptoRow : OpenClaim := { program := "ytjjidjcflimhgaa", sum := "05054d9a3050f93005f31d3933c3bbd744bf80466f13bd4cc31c63661db9bb30", func := "loop.example/g01370/laws.FnExactLineThrough", spec := "fnExactLineThrough", unfollowed := true, recurses := true, apart := false, narrowed := true }
def FnExactLineThroughUptoSaid : Prop := fnExactLineThroughUptoRow.holds Try.pinned (OpenSpec.upto fnExactLineThroughSpec)

/-- 'laws.FnExactPointsOn', WHERE WHAT IT READS IS OF BULK AT MOST 1048576: true; the input reads as it did. -/
def fnExactPointsOnUptoRow : OpenClaim := { program := "ytjjidjcflimhgaa", sum := "05054d9a3050f93005f31d3933c3bbd744bf80466f13bd4cc31c63661db9bb30", func := "loop.example/g01370/laws.FnExactPointsOn", spec := "fnExactPointsOn", unfollowed := true, recurses := true, apart := false, narrowed := true }
def FnExactPointsOnUptoSaid : Prop := fnExactPointsOnUptoRow.holds Try.pinned (OpenSpec.upto fnExactPointsOnSpec)

/-- 'laws.FnExactCrossOf', WHERE WHAT IT READS IS OF BULK AT MOST 1048576: true; the input reads as it did. -/
def fnExactCrossOfUptoRow : OpenClaim := { program := "ytjjidjcflimhgaa", sum := "05054d9a3050f93005f31d3933c3bbd744bf80466f13bd4cc31c63661db9bb30", func := "loop.example/g01370/laws.FnExactCrossOf", spec := "fnExactCrossOf", unfollowed := true, recurses := true, apart := false, narrowed := true }
def FnExactCrossOfUptoSaid : Prop := fnExactCrossOfUptoRow.holds Try.pinned (OpenSpec.upto fnExactCrossOfSpec)

/-- 'laws.FnExactSpreadOf', WHERE WHAT IT READS IS OF BULK AT MOST 1048576: true; the input reads as it did. -/
def fnExactSpreadOfUptoRow : OpenClaim := { program := "ytjjidjcflimhgaa", sum := "05054d9a3050f93005f31d3933c3bbd744bf80466f13bd4cc31c63661db9bb30", func := "loop.example/g01370/laws.FnExactSpreadOf", spec := "fnExactSpreadOf", unfollowed := true, recurses := true, apart := false, narrowed := true }
def FnExactSpreadOfUptoSaid : Prop := fnExactSpreadOfUptoRow.holds Try.pinned (OpenSpec.upto fnExactSpreadOfSpec)

/-- 'laws.FnExactTwistOf', WHERE WHAT IT READS IS OF BULK AT MOST 1048576: true; the input reads as it did. -/
def fnExactTwistOfUptoRow : OpenClaim := { program := "ytjjidjcflimhgaa", sum := "05054d9a3050f93005f31d3933c3bbd744bf80466f13bd4cc31c63661db9bb30", func := "loop.example/g01370/laws.FnExactTwistOf", spec := "fnExactTwistOf", unfollowed := true, recurses := true, apart := false, narrowed := true }
def FnExactTwistOfUptoSaid : Prop := fnExactTwistOfUptoRow.holds Try.pinned (OpenSpec.upto fnExactTwistOfSpec)

/-- 'laws.FnExactPerpendicularThrough', WHERE WHAT IT READS IS OF BULK AT MOST 1048576: true; the input reads as it did. -/
def fnExactPerpendicularThroughUptoRow : OpenClaim := { program := "ytjjidjcflimhgaa", sum := "05054d9a3050f93005f31d3933c3bbd744bf80466f13bd4cc31c63661db9bb30", func := "loop.example/g01370/laws.FnExactPerpendicularThrough", spec := "fnExactPerpendicularThrough", unfollowed := true, recurses := true, apart := false, narrowed := true }
def FnExactPerpendicularThroughUptoSaid : Prop := fnExactPerpendicularThroughUptoRow.holds Try.pinned (OpenSpec.upto fnExactPerpendicularThroughSpec)

/-- 'laws.FnExactSpreadAt', WHERE WHAT IT READS IS OF BULK AT MOST 1048576: true; the input reads as it did. -/
def fnExactSpreadAtUptoRow : OpenClaim := { program := "ytjjidjcflimhgaa", sum := "05054d9a3050f93005f31d3933c3bbd744bf80466f13bd4cc31c63661db9bb30", func := "loop.example/g01370/laws.FnExactSpreadAt", spec := "fnExactSpreadAt", unfollowed := true, recurses := true, apart := false, narrowed := true }
def FnExactSpreadAtUptoSaid : Prop := fnExactSpreadAtUptoRow.holds Try.pinned (OpenSpec.upto fnExactSpreadAtSpec)

/-- 'laws.FnExactNullLines', WHERE WHAT IT READS IS OF BULK AT MOST 1048576: true; the input reads as it did. -/
def fnExactNullLinesUptoRow : OpenClaim := { program := "ytjjidjcflimhgaa", sum := "05054d9a3050f93005f31d3933c3bbd744bf80466f13bd4cc31c63661db9bb30", func := "loop.example/g01370/laws.FnExactNullLines", spec := "fnExactNullLines", unfollowed := true, recurses := true, apart := false, narrowed := true }
def FnExactNullLinesUptoSaid : Prop := fnExactNullLinesUptoRow.holds Try.pinned (OpenSpec.upto fnExactNullLinesSpec)

/-- 'laws.FnExactPointsAt', WHERE WHAT IT READS IS OF BULK AT MOST 1048576: true; the input reads as it did. -/
def fnExactPointsAtUptoRow : OpenClaim := { program := "ytjjidjcflimhgaa", sum := "05054d9a3050f93005f31d3933c3bbd744bf80466f13bd4cc31c63661db9bb30", func := "loop.example/g01370/laws.FnExactPointsAt", spec := "fnExactPointsAt", unfollowed := true, recurses := true, apart := false, narrowed := true }
def FnExactPointsAtUptoSaid : Prop := fnExactPointsAtUptoRow.holds Try.pinned (OpenSpec.upto fnExactPointsAtSpec)

/-- 'laws.FnExactSpreadRatio', WHERE WHAT IT READS IS OF BULK AT MOST 1048576: true; the input reads as it did. -/
def fnExactSpreadRatioUptoRow : OpenClaim := { program := "ytjjidjcflimhgaa", sum := "05054d9a3050f93005f31d3933c3bbd744bf80466f13bd4cc31c63661db9bb30", func := "loop.example/g01370/laws.FnExactSpreadRatio", spec := "fnExactSpreadRatio", unfollowed := true, recurses := true, apart := false, narrowed := true }
def FnExactSpreadRatioUptoSaid : Prop := fnExactSpreadRatioUptoRow.holds Try.pinned (OpenSpec.upto fnExactSpreadRatioSpec)

/-- 'laws.FnExactCountBySpread', WHERE WHAT IT READS IS OF BULK AT MOST 1048576: true; the input reads as it did. -/
def fnExactCountBySpreadUptoRow : OpenClaim := { program := "ytjjidjcflimhgaa", sum := "05054d9a3050f93005f31d3933c3bbd744bf80466f13bd4cc31c63661db9bb30", func := "loop.example/g01370/laws.FnExactCountBySpread", spec := "fnExactCountBySpread", unfollowed := true, recurses := true, apart := false, narrowed := true }
def FnExactCountBySpreadUptoSaid : Prop := fnExactCountBySpreadUptoRow.holds Try.pinned (OpenSpec.upto fnExactCountBySpreadSpec)

end Rows
end Go.Proofs.Ytjjidjcflimhgaa
