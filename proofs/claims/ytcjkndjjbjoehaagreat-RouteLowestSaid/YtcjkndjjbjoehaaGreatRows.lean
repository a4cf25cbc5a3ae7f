/-
  No cell of these rows narrows 'for every input' (looked for: loops, veiled, ifaces, maps, wideKeys, modest, calm, conditions, laid).
  DERIVED. THE GIVEN ROWS OF THIS SEAT. 12 by the template 'for every input the law returns true; each argument reads behind the call as it read before'; 0 by the template 'total and deterministic' (their statements: YtcjkndjjbjoehaaGreatTotals.lean).
  GIVEN WITH THE SEED: the statements are not yours to turn. If you find one false, say at which input.
  Laid BY PROGRAM, IN A SANDBOX (cutbox-rows.mjs): the forced cells as the released guide's own fill.sh prints them over the translation 2894cc4b7a900533… (all of the seat's roots in one cut). By AI agents, Wed Nov 11 2026. No macro, syntax, notation, axiom, sorry.
-/
import Derived.Test.YtcjkndjjbjoehaaGreatChecked
import GoSem.Claim
import GoSem.ClaimJoined
import GoSem.ClaimMapViews
import Derived.JoinedTies
import Derived.KernelRfl
namespace Go.Proofs.YtcjkndjjbjoehaaGreat
/- THE CELL 'sum', in the pinned program and in every row, IS THE sha256 OF THE DUMP (.gsa) THAT YtcjkndjjbjoehaaGreatProg.lean LOADS. Nothing in Lean hashes anything: it is a label: what it is worth is what the hold of that sum in a sandbox is worth. -/
noncomputable def Tryz.pinned : Pinned := { name := "ytcjkndjjbjoehaagreat", sum := "2894cc4b7a900533c5882866593f4eca2b1835ead664b544cb405362b91ad49b", checked := Tryz.checked }
namespace Rows
def none {H : Type} : Left H := { results := [], args := [] }

/-- 'ballonetlaw06.RoutePoints': WHATEVER THE INPUT: true; the input reads as it did. -/
def routePointsSpec : ChangeSpec := { name := "routePoints", fn := fun _ => fun
  | [d1, d2, d3, d4, d5, d6] => { results := [.lit (.bool true)], args := [d1, d2, d3, d4, d5, d6] }
  | _ => none }
def routePointsRow : OpenClaim := { program := "ytcjkndjjbjoehaagreat", sum := "2894cc4b7a900533c5882866593f4eca2b1835ead664b544cb405362b91ad49b", func := "ballonet/ballonetlaw06.RoutePoints", spec := "routePoints", unfollowed := true, recurses := true, named := ["math/bits.divideError", "math/bits.overflowError"], plainKeys := false, apart := false }
def RoutePointsSaid : Prop := routePointsRow.holds Tryz.pinned (OpenSpec.ofChange routePointsSpec)

/-- ITS FALSE NEIGHBOUR: 'it returns false'. Refute it at one input. -/
def routePointsWrong : ChangeSpec := { name := "routePoints", fn := fun _ => fun
  | [d1, d2, d3, d4, d5, d6] => { results := [.lit (.bool false)], args := [d1, d2, d3, d4, d5, d6] }
  | _ => none }
def RoutePointsWrongFalsely : Prop := routePointsRow.holds Tryz.pinned (OpenSpec.ofChange routePointsWrong)

/-- 'ballonetlaw06.RouteBests': WHATEVER THE INPUT: true; the input reads as it did. -/
def routeBestsSpec : ChangeSpec := { name := "routeBests", fn := fun _ => fun
  | [d1, d2, d3, d4, d5] => { results := [.lit (.bool true)], args := [d1, d2, d3, d4, d5] }
  | _ => none }
def routeBestsRow : OpenClaim := { program := "ytcjkndjjbjoehaagreat", sum := "2894cc4b7a900533c5882866593f4eca2b1835ead664b544cb405362b91ad49b", func := "ballonet/ballonetlaw06.RouteBests", spec := "routeBests", unfollowed := true, recurses := true, named := ["math/bits.divideError", "math/bits.overflowError"], plainKeys := false, apart := false }
def RouteBestsSaid : Prop := routeBestsRow.holds Tryz.pinned (OpenSpec.ofChange routeBestsSpec)

/-- ITS FALSE NEIGHBOUR: 'it returns false'. Refute it at one input. -/
def routeBestsWrong : ChangeSpec := { name := "routeBests", fn := fun _ => fun
  | [d1, d2, d3, d4, d5] => { results := [.lit (.bool false)], args := [d1, d2, d3, d4, d5] }
  | _ => none }
def RouteBestsWrongFalsely : Prop := routeBestsRow.holds Tryz.pinned (OpenSpec.ofChange routeBestsWrong)

/-- 'ballonetlaw06.RouteChecks': WHATEVER THE INPUT: true; the input reads as it did. -/
def routeChecksSpec : ChangeSpec := { name := "routeChecks", fn := fun _ => fun
  | [d1, d2, d3, d4, d5, d6] => { results := [.lit (.bool true)], args := [d1, d2, d3, d4, d5, d6] }
  | _ => none }
def routeChecksRow : OpenClaim := { program := "ytcjkndjjbjoehaagreat", sum := "2894cc4b7a900533c5882866593f4eca2b1835ead664b544cb405362b91ad49b", func := "ballonet/ballonetlaw06.RouteChecks", spec := "routeChecks", unfollowed := true, recurses := true, named := ["math/bits.divideError", "math/bits.overflowError"], plainKeys := false, apart := false }
def RouteChecksSaid : Prop := routeChecksRow.holds Tryz.pinned (OpenSpec.ofChange routeChecksSpec)

/-- ITS FALSE NEIGHBOUR: 'it returns false'. Refute it at one input. -/
def routeChecksWrong : ChangeSpec := { name := "routeChecks", fn := fun _ => fun
  | [d1, d2, d3, d4, d5, d6] => { results := [.lit (.bool false)], args := [d1, d2, d3, d4, d5, d6] }
  | _ => none }
def RouteChecksWrongFalsely : Prop := routeChecksRow.holds Tryz.pinned (OpenSpec.ofChange routeChecksWrong)

/-- 'ballonetlaw06.RouteLowest': WHATEVER THE INPUT: true; the input reads as it did. -/
def routeLowestSpec : ChangeSpec := { name := "routeLowest", fn := fun _ => fun
  | [d1, d2, d3, d4] => { results := [.lit (.bool true)], args := [d1, d2, d3, d4] }
  | _ => none }
def routeLowestRow : OpenClaim := { program := "ytcjkndjjbjoehaagreat", sum := "2894cc4b7a900533c5882866593f4eca2b1835ead664b544cb405362b91ad49b", func := "ballonet/ballonetlaw06.RouteLowest", spec := "routeLowest", unfollowed := true, recurses := true, named := ["math/bits.divideError", "math/bits.overflowError"], plainKeys := false, apart := false }
def RouteLowestSaid : Prop := routeLowestRow.holds Tryz.pinned (OpenSpec.ofChange routeLowestSpec)

/-- ITS FALSE NEIGHBOUR: 'it returns false'. Refute it at one input. -/
def routeLowestWrong : ChangeSpec := { name := "routeLowest", fn := fun _ => fun
  | [d1, d2, d3, d4] => { results := [.lit (.bool false)], args := [d1, d2, d3, d4] }
  | _ => none }
def RouteLowestWrongFalsely : Prop := routeLowestRow.holds Tryz.pinned (OpenSpec.ofChange routeLowestWrong)

/-- 'ballonetlaw06.RouteTrue': WHATEVER THE INPUT: true; the input reads as it did. -/
def routeTrueSpec : ChangeSpec := { name := "routeTrue", fn := fun _ => fun
  | [d1, d2, d3, d4, d5, d6, d7, d8, d9, d10] => { results := [.lit (.bool true)], args := [d1, d2, d3, d4, d5, d6, d7, d8, d9, d10] }
  | _ => none }
def routeTrueRow : OpenClaim := { program := "ytcjkndjjbjoehaagreat", sum := "2894cc4b7a900533c5882866593f4eca2b1835ead664b544cb405362b91ad49b", func := "ballonet/ballonetlaw06.RouteTrue", spec := "routeTrue", unfollowed := true, recurses := true, named := ["math/bits.divideError", "math/bits.overflowError"], plainKeys := false, apart := false }
def RouteTrueSaid : Prop := routeTrueRow.holds Tryz.pinned (OpenSpec.ofChange routeTrueSpec)

/-- ITS FALSE NEIGHBOUR: 'it returns false'. Refute it at one input. -/
def routeTrueWrong : ChangeSpec := { name := "routeTrue", fn := fun _ => fun
  | [d1, d2, d3, d4, d5, d6, d7, d8, d9, d10] => { results := [.lit (.bool false)], args := [d1, d2, d3, d4, d5, d6, d7, d8, d9, d10] }
  | _ => none }
def RouteTrueWrongFalsely : Prop := routeTrueRow.holds Tryz.pinned (OpenSpec.ofChange routeTrueWrong)

/-- 'ballonetlaw06.RouteMore': WHATEVER THE INPUT: true; the input reads as it did. -/
def routeMoreSpec : ChangeSpec := { name := "routeMore", fn := fun _ => fun
  | [d1, d2, d3, d4, d5, d6, d7, d8] => { results := [.lit (.bool true)], args := [d1, d2, d3, d4, d5, d6, d7, d8] }
  | _ => none }
def routeMoreRow : OpenClaim := { program := "ytcjkndjjbjoehaagreat", sum := "2894cc4b7a900533c5882866593f4eca2b1835ead664b544cb405362b91ad49b", func := "ballonet/ballonetlaw06.RouteMore", spec := "routeMore", unfollowed := true, recurses := true, named := ["math/bits.divideError", "math/bits.overflowError"], plainKeys := false, apart := false }
def RouteMoreSaid : Prop := routeMoreRow.holds Tryz.pinned (OpenSpec.ofChange routeMoreSpec)

/-- ITS FALSE NEIGHBOUR: 'it returns false'. Refute it at one input. -/
def routeMoreWrong : ChangeSpec := { name := "routeMore", fn := fun _ => fun
  | [d1, d2, d3, d4, d5, d6, d7, d8] => { results := [.lit (.bool false)], args := [d1, d2, d3, d4, d5, d6, d7, d8] }
  | _ => none }
def RouteMoreWrongFalsely : Prop := routeMoreRow.holds Tryz.pinned (OpenSpec.ofChange routeMoreWrong)

/-- 'ballonetlaw06.RouteReturn': WHATEVER THE INPUT: true; the input reads as it did. -/
def routeReturnSpec : ChangeSpec := { name := "routeReturn", fn := fun _ => fun
  | [d1, d2, d3, d4, d5, d6, d7] => { results := [.lit (.bool true)], args := [d1, d2, d3, d4, d5, d6, d7] }
  | _ => none }
def routeReturnRow : OpenClaim := { program := "ytcjkndjjbjoehaagreat", sum := "2894cc4b7a900533c5882866593f4eca2b1835ead664b544cb405362b91ad49b", func := "ballonet/ballonetlaw06.RouteReturn", spec := "routeReturn", unfollowed := true, recurses := true, named := ["math/bits.divideError", "math/bits.overflowError"], plainKeys := false, apart := false }
def RouteReturnSaid : Prop := routeReturnRow.holds Tryz.pinned (OpenSpec.ofChange routeReturnSpec)

/-- ITS FALSE NEIGHBOUR: 'it returns false'. Refute it at one input. -/
def routeReturnWrong : ChangeSpec := { name := "routeReturn", fn := fun _ => fun
  | [d1, d2, d3, d4, d5, d6, d7] => { results := [.lit (.bool false)], args := [d1, d2, d3, d4, d5, d6, d7] }
  | _ => none }
def RouteReturnWrongFalsely : Prop := routeReturnRow.holds Tryz.pinned (OpenSpec.ofChange routeReturnWrong)

/-- 'ballonetlaw06.RouteEqual': WHATEVER THE INPUT: true; the input reads as it did. -/
def routeEqualSpec : ChangeSpec := { name := "routeEqual", fn := fun _ => fun
  | [d1, d2, d3, d4, d5] => { results := [.lit (.bool true)], args := [d1, d2, d3, d4, d5] }
  | _ => none }
def routeEqualRow : OpenClaim := { program := "ytcjkndjjbjoehaagreat", sum := "2894cc4b7a900533c5882866593f4eca2b1835ead664b544cb405362b91ad49b", func := "ballonet/ballonetlaw06.RouteEqual", spec := "routeEqual", unfollowed := true, recurses := true, named := ["math/bits.divideError", "math/bits.overflowError"], plainKeys := false, apart := false }
def RouteEqualSaid : Prop := routeEqualRow.holds Tryz.pinned (OpenSpec.ofChange routeEqualSpec)

/-- ITS FALSE NEIGHBOUR: 'it returns false'. Refute it at one input. -/
def routeEqualWrong : ChangeSpec := { name := "routeEqual", fn := fun _ => fun
  | [d1, d2, d3, d4, d5] => { results := [.lit (.bool false)], args := [d1, d2, d3, d4, d5] }
  | _ => none }
def RouteEqualWrongFalsely : Prop := routeEqualRow.holds Tryz.pinned (OpenSpec.ofChange routeEqualWrong)

/-- 'ballonetlaw06.RouteBest': WHATEVER THE INPUT: true; the input reads as it did. -/
def routeBestSpec : ChangeSpec := { name := "routeBest", fn := fun _ => fun
  | [d1, d2, d3, d4, d5] => { results := [.lit (.bool true)], args := [d1, d2, d3, d4, d5] }
  | _ => none }
def routeBestRow : OpenClaim := { program := "ytcjkndjjbjoehaagreat", sum := "2894cc4b7a900533c5882866593f4eca2b1835ead664b544cb405362b91ad49b", func := "ballonet/ballonetlaw06.RouteBest", spec := "routeBest", unfollowed := true, recurses := true, named := ["math/bits.divideError", "math/bits.overflowError"], plainKeys := false, apart := false }
def RouteBestSaid : Prop := routeBestRow.holds Tryz.pinned (OpenSpec.ofChange routeBestSpec)

/-- ITS FALSE NEIGHBOUR: 'it returns false'. Refute it at one input. -/
def routeBestWrong : ChangeSpec := { name := "routeBest", fn := fun _ => fun
  | [d1, d2, d3, d4, d5] => { results := [.lit (.bool false)], args := [d1, d2, d3, d4, d5] }
  | _ => none }
def RouteBestWrongFalsely : Prop := routeBestRow.holds Tryz.pinned (OpenSpec.ofChange routeBestWrong)

/-- 'ballonetlaw06.RouteLeast': WHATEVER THE INPUT: true; the input reads as it did. -/
def routeLeastSpec : ChangeSpec := { name := "routeLeast", fn := fun _ => fun
  | [d1, d2, d3, d4, d5, d6] => { results := [.lit (.bool true)], args := [d1, d2, d3, d4, d5, d6] }
  | _ => none }
def routeLeastRow : OpenClaim := { program := "ytcjkndjjbjoehaagreat", sum := "2894cc4b7a900533c5882866593f4eca2b1835ead664b544cb405362b91ad49b", func := "ballonet/ballonetlaw06.RouteLeast", spec := "routeLeast", unfollowed := true, recurses := true, named := ["math/bits.divideError", "math/bits.overflowError"], plainKeys := false, apart := false }
def RouteLeastSaid : Prop := routeLeastRow.holds Tryz.pinned (OpenSpec.ofChange routeLeastSpec)

/-- ITS FALSE NEIGHBOUR: 'it returns false'. Refute it at one input. -/
def routeLeastWrong : ChangeSpec := { name := "routeLeast", fn := fun _ => fun
  | [d1, d2, d3, d4, d5, d6] => { results := [.lit (.bool false)], args := [d1, d2, d3, d4, d5, d6] }
  | _ => none }
def RouteLeastWrongFalsely : Prop := routeLeastRow.holds Tryz.pinned (OpenSpec.ofChange routeLeastWrong)

/-- 'ballonetlaw06.RouteReached': WHATEVER THE INPUT: true; the input reads as it did. -/
def routeReachedSpec : ChangeSpec := { name := "routeReached", fn := fun _ => fun
  | [d1, d2, d3, d4, d5, d6] => { results := [.lit (.bool true)], args := [d1, d2, d3, d4, d5, d6] }
  | _ => none }
def routeReachedRow : OpenClaim := { program := "ytcjkndjjbjoehaagreat", sum := "2894cc4b7a900533c5882866593f4eca2b1835ead664b544cb405362b91ad49b", func := "ballonet/ballonetlaw06.RouteReached", spec := "routeReached", unfollowed := true, recurses := true, named := ["math/bits.divideError", "math/bits.overflowError"], plainKeys := false, apart := false }
def RouteReachedSaid : Prop := routeReachedRow.holds Tryz.pinned (OpenSpec.ofChange routeReachedSpec)

/-- ITS FALSE NEIGHBOUR: 'it returns false'. Refute it at one input. -/
def routeReachedWrong : ChangeSpec := { name := "routeReached", fn := fun _ => fun
  | [d1, d2, d3, d4, d5, d6] => { results := [.lit (.bool false)], args := [d1, d2, d3, d4, d5, d6] }
  | _ => none }
def RouteReachedWrongFalsely : Prop := routeReachedRow.holds Tryz.pinned (OpenSpec.ofChange routeReachedWrong)

/-- 'ballonetlaw06.RouteExamples': WHATEVER THE INPUT: true; the input reads as it did. -/
def routeExamplesSpec : ChangeSpec := { name := "routeExamples", fn := fun _ => fun
  | [] => { results := [.lit (.bool true)], args := [] }
  | _ => none }
def routeExamplesRow : OpenClaim := { program := "ytcjkndjjbjoehaagreat", sum := "2894cc4b7a900533c5882866593f4eca2b1835ead664b544cb405362b91ad49b", func := "ballonet/ballonetlaw06.RouteExamples", spec := "routeExamples", unfollowed := true, recurses := true, named := ["math/bits.divideError", "math/bits.overflowError"], plainKeys := false, apart := false }
def RouteExamplesSaid : Prop := routeExamplesRow.holds Tryz.pinned (OpenSpec.ofChange routeExamplesSpec)

/-- ITS FALSE NEIGHBOUR: 'it returns false'. Refute it at one input. -/
def routeExamplesWrong : ChangeSpec := { name := "routeExamples", fn := fun _ => fun
  | [] => { results := [.lit (.bool false)], args := [] }
  | _ => none }
def RouteExamplesWrongFalsely : Prop := routeExamplesRow.holds Tryz.pinned (OpenSpec.ofChange routeExamplesWrong)

/- THE SECOND FORM. 'bulk': how many values and letters a reading holds, each counted each time it is reached (what is shared counts as often as it is met; a slice's spare places count too). A statement '..UptoSaid' is the law's where the arguments, and the package variables that the reading takes, are together of bulk at most 1048576: NARROWER than '..Said'. Prove '..Said' where nothing that the law and all that it calls make is longer than what came in: it says more and counts as full. Else prove '..UptoSaid'. A law counts once. -/
mutual
def uptoBulk {H : Type} : DataW H → Nat
  | .lit (.string bytes) => bytes.length + 1
  | .lit _ => 1
  | .nil => 1
  | .ptr d => uptoBulk d + 1
  | .slice elems spare => uptoBulkAll elems + uptoBulkAll spare + 1
  | .agg parts => uptoBulkAll parts + 1
  | .iface _ d => uptoBulk d + 1
  | .map entries => uptoBulkEntries entries + 1
  | .held _ => 1
def uptoBulkAll {H : Type} : List (DataW H) → Nat
  | [] => 0
  | d :: r => uptoBulk d + uptoBulkAll r
def uptoBulkEntries {H : Type} : List (Lit × DataW H) → Nat
  | [] => 0
  | x :: r => uptoBulkEntry x + uptoBulkEntries r
def uptoBulkEntry {H : Type} : Lit × DataW H → Nat
  | (.string bytes, d) => bytes.length + uptoBulk d + 1
  | (_, d) => uptoBulk d + 1
 end
def uptoSmall : (H : Type) → List (DataW H) → Bool := fun _ ds => decide (uptoBulkAll ds ≤ 1048576)
def OpenSpec.upto (s : _root_.Go.ChangeSpec) : _root_.Go.OpenSpec := { _root_.Go.OpenSpec.ofChange s with cond := some uptoSmall }

/-- 'ballonetlaw06.RoutePoints', WHERE WHAT IT READS IS OF BULK AT MOST 1048576: true; the input reads as it did. -/
def routePointsUptoRow : OpenClaim := { program := "ytcjkndjjbjoehaagreat", sum := "2894cc4b7a900533c5882866593f4eca2b1835ead664b544cb405362b91ad49b", func := "ballonet/ballonetlaw06.RoutePoints", spec := "routePoints", unfollowed := true, recurses := true, named := ["math/bits.divideError", "math/bits.overflowError"], plainKeys := false, apart := false, narrowed := true }
def RoutePointsUptoSaid : Prop := routePointsUptoRow.holds Tryz.pinned (OpenSpec.upto routePointsSpec)

/-- 'ballonetlaw06.RouteBests', WHERE WHAT IT READS IS OF BULK AT MOST 1048576: true; the input reads as it did. -/
def routeBestsUptoRow : OpenClaim := { program := "ytcjkndjjbjoehaagreat", sum := "2894cc4b7a900533c5882866593f4eca2b1835ead664b544cb405362b91ad49b", func := "ballonet/ballonetlaw06.RouteBests", spec := "routeBests", unfollowed := true, recurses := true, named := ["math/bits.divideError", "math/bits.overflowError"], plainKeys := false, apart := false, narrowed := true }
def RouteBestsUptoSaid : Prop := routeBestsUptoRow.holds Tryz.pinned (OpenSpec.upto routeBestsSpec)

/-- 'ballonetlaw06.RouteChecks', WHERE WHAT IT READS IS OF BULK AT MOST 1048576: true; the input reads as it did. -/
def routeChecksUptoRow : OpenClaim := { program := "ytcjkndjjbjoehaagreat", sum := "2894cc4b7a900533c5882866593f4eca2b1835ead664b544cb405362b91ad49b", func := "ballonet/ballonetlaw06.RouteChecks", spec := "routeChecks", unfollowed := true, recurses := true, named := ["math/bits.divideError", "math/bits.overflowError"], plainKeys := false, apart := false, narrowed := true }
def RouteChecksUptoSaid : Prop := routeChecksUptoRow.holds Tryz.pinned (OpenSpec.upto routeChecksSpec)

/-- 'ballonetlaw06.RouteLowest', WHERE WHAT IT READS IS OF BULK AT MOST 1048576: true; the input reads as it did. -/
def routeLowestUptoRow : OpenClaim := { program := "ytcjkndjjbjoehaagreat", sum := "2894cc4b7a900533c5882866593f4eca2b1835ead664b544cb405362b91ad49b", func := "ballonet/ballonetlaw06.RouteLowest", spec := "routeLowest", unfollowed := true, recurses := true, named := ["math/bits.divideError", "math/bits.overflowError"], plainKeys := false, apart := false, narrowed := true }
def RouteLowestUptoSaid : Prop := routeLowestUptoRow.holds Tryz.pinned (OpenSpec.upto routeLowestSpec)

/-- 'ballonetlaw06.RouteTrue', WHERE WHAT IT READS IS OF BULK AT MOST 1048576: true; the input reads as it did. -/
def routeTrueUptoRow : OpenClaim := { program := "ytcjkndjjbjoehaagreat", sum := "2894cc4b7a900533c5882866593f4eca2b1835ead664b544cb405362b91ad49b", func := "ballonet/ballonetlaw06.RouteTrue", spec := "routeTrue", unfollowed := true, recurses := true, named := ["math/bits.divideError", "math/bits.overflowError"], plainKeys := false, apart := false, narrowed := true }
def RouteTrueUptoSaid : Prop := routeTrueUptoRow.holds Tryz.pinned (OpenSpec.upto routeTrueSpec)

/-- 'ballonetlaw06.RouteMore', WHERE WHAT IT READS IS OF BULK AT MOST 1048576: true; the input reads as it did. -/
def routeMoreUptoRow : OpenClaim := { program := "ytcjkndjjbjoehaagreat", sum := "2894cc4b7a900533c5882866593f4eca2b1835ead664b544cb405362b91ad49b", func := "ballonet/ballonetlaw06.RouteMore", spec := "routeMore", unfollowed := true, recurses := true, named := ["math/bits.divideError", "math/bits.overflowError"], plainKeys := false, apart := false, narrowed := true }
def RouteMoreUptoSaid : Prop := routeMoreUptoRow.holds Tryz.pinned (OpenSpec.upto routeMoreSpec)

/-- 'ballonetlaw06.RouteReturn', WHERE WHAT IT READS IS OF BULK AT MOST 1048576: true; the input reads as it did. -/
def routeReturnUptoRow : OpenClaim := { program := "ytcjkndjjbjoehaagreat", sum := "2894cc4b7a900533c5882866593f4eca2b1835ead664b544cb405362b91ad49b", func := "ballonet/ballonetlaw06.RouteReturn", spec := "routeReturn", unfollowed := true, recurses := true, named := ["math/bits.divideError", "math/bits.overflowError"], plainKeys := false, apart := false, narrowed := true }
def RouteReturnUptoSaid : Prop := routeReturnUptoRow.holds Tryz.pinned (OpenSpec.upto routeReturnSpec)

/-- 'ballonetlaw06.RouteEqual', WHERE WHAT IT READS IS OF BULK AT MOST 1048576: true; the input reads as it did. -/
def routeEqualUptoRow : OpenClaim := { program := "ytcjkndjjbjoehaagreat", sum := "2894cc4b7a900533c5882866593f4eca2b1835ead664b544cb405362b91ad49b", func := "ballonet/ballonetlaw06.RouteEqual", spec := "routeEqual", unfollowed := true, recurses := true, named := ["math/bits.divideError", "math/bits.overflowError"], plainKeys := false, apart := false, narrowed := true }
def RouteEqualUptoSaid : Prop := routeEqualUptoRow.holds Tryz.pinned (OpenSpec.upto routeEqualSpec)

/-- 'ballonetlaw06.RouteBest', WHERE WHAT IT READS IS OF BULK AT MOST 1048576: true; the input reads as it did. -/
def routeBestUptoRow : OpenClaim := { program := "ytcjkndjjbjoehaagreat", sum := "2894cc4b7a900533c5882866593f4eca2b1835ead664b544cb405362b91ad49b", func := "ballonet/ballonetlaw06.RouteBest", spec := "routeBest", unfollowed := true, recurses := true, named := ["math/bits.divideError", "math/bits.overflowError"], plainKeys := false, apart := false, narrowed := true }
def RouteBestUptoSaid : Prop := routeBestUptoRow.holds Tryz.pinned (OpenSpec.upto routeBestSpec)

/-- 'ballonetlaw06.RouteLeast', WHERE WHAT IT READS IS OF BULK AT MOST 1048576: true; the input reads as it did. -/
def routeLeastUptoRow : OpenClaim := { program := "ytcjkndjjbjoehaagreat", sum := "2894cc4b7a900533c5882866593f4eca2b1835ead664b544cb405362b91ad49b", func := "ballonet/ballonetlaw06.RouteLeast", spec := "routeLeast", unfollowed := true, recurses := true, named := ["math/bits.divideError", "math/bits.overflowError"], plainKeys := false, apart := false, narrowed := true }
def RouteLeastUptoSaid : Prop := routeLeastUptoRow.holds Tryz.pinned (OpenSpec.upto routeLeastSpec)

/-- 'ballonetlaw06.RouteReached', WHERE WHAT IT READS IS OF BULK AT MOST 1048576: true; the input reads as it did. -/
def routeReachedUptoRow : OpenClaim := { program := "ytcjkndjjbjoehaagreat", sum := "2894cc4b7a900533c5882866593f4eca2b1835ead664b544cb405362b91ad49b", func := "ballonet/ballonetlaw06.RouteReached", spec := "routeReached", unfollowed := true, recurses := true, named := ["math/bits.divideError", "math/bits.overflowError"], plainKeys := false, apart := false, narrowed := true }
def RouteReachedUptoSaid : Prop := routeReachedUptoRow.holds Tryz.pinned (OpenSpec.upto routeReachedSpec)

/-- 'ballonetlaw06.RouteExamples', WHERE WHAT IT READS IS OF BULK AT MOST 1048576: true; the input reads as it did. -/
def routeExamplesUptoRow : OpenClaim := { program := "ytcjkndjjbjoehaagreat", sum := "2894cc4b7a900533c5882866593f4eca2b1835ead664b544cb405362b91ad49b", func := "ballonet/ballonetlaw06.RouteExamples", spec := "routeExamples", unfollowed := true, recurses := true, named := ["math/bits.divideError", "math/bits.overflowError"], plainKeys := false, apart := false, narrowed := true }
def RouteExamplesUptoSaid : Prop := routeExamplesUptoRow.holds Tryz.pinned (OpenSpec.upto routeExamplesSpec)

end Rows
end Go.Proofs.YtcjkndjjbjoehaaGreat
