/-
  No cell of these rows narrows 'for every input' (looked for: loops, veiled, ifaces, maps, wideKeys, modest, calm, conditions, laid).
  DERIVED. THE GIVEN ROWS OF THIS SEAT. 5 by the template 'for every input the law returns true; each argument reads behind the call as it read before'; 0 by the template 'total and deterministic' (their statements: YtcjkndjjbjoehaaTotals.lean).
  GIVEN WITH THE SEED: the statements are not yours to turn. If you find one false, say at which input.
  Laid BY PROGRAM, IN A SANDBOX (cutbox-rows.mjs): the forced cells as the released guide's own fill.sh prints them over the translation 4f73ad02d6944df8… (all of the seat's roots in one cut). By AI agents, Wed Nov 11 2026. No macro, syntax, notation, axiom, sorry.
-/
import Derived.Test.YtcjkndjjbjoehaaChecked
import GoSem.Claim
import GoSem.ClaimJoined
import GoSem.ClaimMapViews
import Derived.JoinedTies
import Derived.KernelRfl
namespace Go.Proofs.Ytcjkndjjbjoehaa
/- THE CELL 'sum', in the pinned program and in every row, IS THE sha256 OF THE DUMP (.gsa) THAT YtcjkndjjbjoehaaProg.lean LOADS. Nothing in Lean hashes anything: it is a label: what it is worth is what the hold of that sum in a sandbox is worth. -/
noncomputable def Try.pinned : Pinned := { name := "ytcjkndjjbjoehaa", sum := "4f73ad02d6944df811d5c225705d3e24b5ae8bcaaf40c2ddd23b937d3ef72b9c", checked := Try.checked }
namespace Rows
def none {H : Type} : Left H := { results := [], args := [] }

/-- 'ballonetlaw06.RoutePasses': WHATEVER THE INPUT: true; the input reads as it did. -/
def routePassesSpec : ChangeSpec := { name := "routePasses", fn := fun _ => fun
  | [d1, d2, d3] => { results := [.lit (.bool true)], args := [d1, d2, d3] }
  | _ => none }
def routePassesRow : OpenClaim := { program := "ytcjkndjjbjoehaa", sum := "4f73ad02d6944df811d5c225705d3e24b5ae8bcaaf40c2ddd23b937d3ef72b9c", func := "ballonet/ballonetlaw06.RoutePasses", spec := "routePasses", unfollowed := true, recurses := true, plainKeys := false, apart := false }
def RoutePassesSaid : Prop := routePassesRow.holds Try.pinned (OpenSpec.ofChange routePassesSpec)

/-- ITS FALSE NEIGHBOUR: 'it returns false'. Refute it at one input. -/
def routePassesWrong : ChangeSpec := { name := "routePasses", fn := fun _ => fun
  | [d1, d2, d3] => { results := [.lit (.bool false)], args := [d1, d2, d3] }
  | _ => none }
def RoutePassesWrongFalsely : Prop := routePassesRow.holds Try.pinned (OpenSpec.ofChange routePassesWrong)

/-- 'ballonetlaw06.RouteParts': WHATEVER THE INPUT: true; the input reads as it did. -/
def routePartsSpec : ChangeSpec := { name := "routeParts", fn := fun _ => fun
  | [d1, d2, d3, d4, d5, d6] => { results := [.lit (.bool true)], args := [d1, d2, d3, d4, d5, d6] }
  | _ => none }
def routePartsRow : OpenClaim := { program := "ytcjkndjjbjoehaa", sum := "4f73ad02d6944df811d5c225705d3e24b5ae8bcaaf40c2ddd23b937d3ef72b9c", func := "ballonet/ballonetlaw06.RouteParts", spec := "routeParts", unfollowed := true, recurses := true, named := ["math/bits.divideError", "math/bits.overflowError"], plainKeys := false, apart := false }
def RoutePartsSaid : Prop := routePartsRow.holds Try.pinned (OpenSpec.ofChange routePartsSpec)

/-- ITS FALSE NEIGHBOUR: 'it returns false'. Refute it at one input. -/
def routePartsWrong : ChangeSpec := { name := "routeParts", fn := fun _ => fun
  | [d1, d2, d3, d4, d5, d6] => { results := [.lit (.bool false)], args := [d1, d2, d3, d4, d5, d6] }
  | _ => none }
def RoutePartsWrongFalsely : Prop := routePartsRow.holds Try.pinned (OpenSpec.ofChange routePartsWrong)

/-- 'ballonettop.TopPointed': WHATEVER THE INPUT: true; the input reads as it did. -/
def topPointedSpec : ChangeSpec := { name := "topPointed", fn := fun _ => fun
  | [d1, d2, d3, d4, d5, d6] => { results := [.lit (.bool true)], args := [d1, d2, d3, d4, d5, d6] }
  | _ => none }
def topPointedRow : OpenClaim := { program := "ytcjkndjjbjoehaa", sum := "4f73ad02d6944df811d5c225705d3e24b5ae8bcaaf40c2ddd23b937d3ef72b9c", func := "ballonet/ballonettop.TopPointed", spec := "topPointed", unfollowed := true, recurses := true, named := ["math/bits.divideError", "math/bits.overflowError"], plainKeys := false, apart := false }
def TopPointedSaid : Prop := topPointedRow.holds Try.pinned (OpenSpec.ofChange topPointedSpec)

/-- ITS FALSE NEIGHBOUR: 'it returns false'. Refute it at one input. -/
def topPointedWrong : ChangeSpec := { name := "topPointed", fn := fun _ => fun
  | [d1, d2, d3, d4, d5, d6] => { results := [.lit (.bool false)], args := [d1, d2, d3, d4, d5, d6] }
  | _ => none }
def TopPointedWrongFalsely : Prop := topPointedRow.holds Try.pinned (OpenSpec.ofChange topPointedWrong)

/-- 'ballonettop.TopManned': WHATEVER THE INPUT: true; the input reads as it did. -/
def topMannedSpec : ChangeSpec := { name := "topManned", fn := fun _ => fun
  | [d1, d2, d3, d4, d5, d6, d7, d8, d9, d10, d11] => { results := [.lit (.bool true)], args := [d1, d2, d3, d4, d5, d6, d7, d8, d9, d10, d11] }
  | _ => none }
def topMannedRow : OpenClaim := { program := "ytcjkndjjbjoehaa", sum := "4f73ad02d6944df811d5c225705d3e24b5ae8bcaaf40c2ddd23b937d3ef72b9c", func := "ballonet/ballonettop.TopManned", spec := "topManned", unfollowed := true, recurses := true, named := ["math/bits.divideError", "math/bits.overflowError"], plainKeys := false, apart := false }
def TopMannedSaid : Prop := topMannedRow.holds Try.pinned (OpenSpec.ofChange topMannedSpec)

/-- ITS FALSE NEIGHBOUR: 'it returns false'. Refute it at one input. -/
def topMannedWrong : ChangeSpec := { name := "topManned", fn := fun _ => fun
  | [d1, d2, d3, d4, d5, d6, d7, d8, d9, d10, d11] => { results := [.lit (.bool false)], args := [d1, d2, d3, d4, d5, d6, d7, d8, d9, d10, d11] }
  | _ => none }
def TopMannedWrongFalsely : Prop := topMannedRow.holds Try.pinned (OpenSpec.ofChange topMannedWrong)

/-- 'ballonettop.TopRegion': WHATEVER THE INPUT: true; the input reads as it did. -/
def topRegionSpec : ChangeSpec := { name := "topRegion", fn := fun _ => fun
  | [d1, d2, d3] => { results := [.lit (.bool true)], args := [d1, d2, d3] }
  | _ => none }
def topRegionRow : OpenClaim := { program := "ytcjkndjjbjoehaa", sum := "4f73ad02d6944df811d5c225705d3e24b5ae8bcaaf40c2ddd23b937d3ef72b9c", func := "ballonet/ballonettop.TopRegion", spec := "topRegion", unfollowed := true, recurses := true, plainKeys := false, apart := false }
def TopRegionSaid : Prop := topRegionRow.holds Try.pinned (OpenSpec.ofChange topRegionSpec)

/-- ITS FALSE NEIGHBOUR: 'it returns false'. Refute it at one input. -/
def topRegionWrong : ChangeSpec := { name := "topRegion", fn := fun _ => fun
  | [d1, d2, d3] => { results := [.lit (.bool false)], args := [d1, d2, d3] }
  | _ => none }
def TopRegionWrongFalsely : Prop := topRegionRow.holds Try.pinned (OpenSpec.ofChange topRegionWrong)

/- THE SECOND FORM. 'bulk': how many values and letters a reading holds, each counted each time it is reached (what is shared counts as often as it is met; a slice's spare places count too). A statement '..UptoSaid' is the law's where the arguments, and the package variables that the reading takes, are together of bulk at most 1048576: NARROWER than '..Said'. Prove '..Said' where nothing that the law and all that it calls make is longer than what came in: it says more and counts as full. Else prove '..UptoSaid'. A law counts once. -/
mutual
def uptoBulk {H : Type} : DataW H → Nat
  | .lit (.string bytes) => bytes.length + 1
  | .lit _ => 1
  | .nil => 1
  | .ptr d => uptoBulk d + 1
  | .slice elems spare => uptoBulkAll elems + uptoBulkAll spare + 1
  | .agg parts => uptoBulkAll parts + 1
  | .iface _ d => uptoBulk d + 1
  | .map entries => uptoBulkEntries entries + 1
  | .held _ => 1
def uptoBulkAll {H : Type} : List (DataW H) → Nat
  | [] => 0
  | d :: r => uptoBulk d + uptoBulkAll r
def uptoBulkEntries {H : Type} : List (Lit × DataW H) → Nat
  | [] => 0
  | x :: r => uptoBulkEntry x + uptoBulkEntries r
def uptoBulkEntry {H : Type} : Lit × DataW H → Nat
  | (.string bytes, d) => bytes.length + uptoBulk d + 1
  | (_, d) => uptoBulk d + 1
 end
def uptoSmall : (H : Type) → List (DataW H) → Bool := fun _ ds => decide (uptoBulkAll ds ≤ 1048576)
def OpenSpec.upto (s : _root_.Go.ChangeSpec) : _root_.Go.OpenSpec := { _root_.Go.OpenSpec.ofChange s with cond := some uptoSmall }

/-- 'ballonetlaw06.RoutePasses', WHERE WHAT IT READS IS OF BULK AT MOST 1048576: true; the input reads as it did. -/
def routePassesUptoRow : OpenClaim := { program := "ytcjkndjjbjoehaa", sum := "4f73ad02d6944df811d5c225705d3e24b5ae8bcaaf40c2ddd23b937d3ef72b9c", func := "ballonet/ballonetlaw06.RoutePasses", spec := "routePasses", unfollowed := true, recurses := true, plainKeys := false, apart := false, narrowed := true }
def RoutePassesUptoSaid : Prop := routePassesUptoRow.holds Try.pinned (OpenSpec.upto routePassesSpec)

/-- 'ballonetlaw06.RouteParts', WHERE WHAT IT READS IS OF BULK AT MOST 1048576: true; the input reads as it did. -/
def routePartsUptoRow : OpenClaim := { program := "ytcjkndjjbjoehaa", sum := "4f73ad02d6944df811d5c225705d3e24b5ae8bcaaf40c2ddd23b937d3ef72b9c", func := "ballonet/ballonetlaw06.RouteParts", spec := "routeParts", unfollowed := true, recurses := true, named := ["math/bits.divideError", "math/bits.overflowError"], plainKeys := false, apart := false, narrowed := true }
def RoutePartsUptoSaid : Prop := routePartsUptoRow.holds Try.pinned (OpenSpec.upto routePartsSpec)

/-- 'ballonettop.TopPointed', WHERE WHAT IT READS IS OF BULK AT MOST 1048576: true; the input reads as it did. -/
def topPointedUptoRow : OpenClaim := { program := "ytcjkndjjbjoehaa", sum := "4f73ad02d6944df811d5c225705d3e24b5ae8bcaaf40c2ddd23b937d3ef72b9c", func := "ballonet/ballonettop.TopPointed", spec := "topPointed", unfollowed := true, recurses := true, named := ["math/bits.divideError", "math/bits.overflowError"], plainKeys := false, apart := false, narrowed := true }
def TopPointedUptoSaid : Prop := topPointedUptoRow.holds Try.pinned (OpenSpec.upto topPointedSpec)

/-- 'ballonettop.TopManned', WHERE WHAT IT READS IS OF BULK AT MOST 1048576: true; the input reads as it did. -/
def topMannedUptoRow : OpenClaim := { program := "ytcjkndjjbjoehaa", sum := "4f73ad02d6944df811d5c225705d3e24b5ae8bcaaf40c2ddd23b937d3ef72b9c", func := "ballonet/ballonettop.TopManned", spec := "topManned", unfollowed := true, recurses := true, named := ["math/bits.divideError", "math/bits.overflowError"], plainKeys := false, apart := false, narrowed := true }
def TopMannedUptoSaid : Prop := topMannedUptoRow.holds Try.pinned (OpenSpec.upto topMannedSpec)

/-- 'ballonettop.TopRegion', WHERE WHAT IT READS IS OF BULK AT MOST 1048576: true; the input reads as it did. -/
def topRegionUptoRow : OpenClaim := { program := "ytcjkndjjbjoehaa", sum := "4f73ad02d6944df811d5c225705d3e24b5ae8bcaaf40c2ddd23b937d3ef72b9c", func := "ballonet/ballonettop.TopRegion", spec := "topRegion", unfollowed := true, recurses := true, plainKeys := false, apart := false, narrowed := true }
def TopRegionUptoSaid : Prop := topRegionUptoRow.holds Try.pinned (OpenSpec.upto topRegionSpec)

end Rows
end Go.Proofs.Ytcjkndjjbjoehaa
