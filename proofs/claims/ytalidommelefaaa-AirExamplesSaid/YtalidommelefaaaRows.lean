/-
  No cell of these rows narrows 'for every input' (looked for: loops, veiled, ifaces, maps, wideKeys, modest, calm, conditions, laid).
  DERIVED. THE GIVEN ROWS OF THIS SEAT. 17 by the template 'for every input the law returns true; each argument reads behind the call as it read before'; 0 by the template 'total and deterministic' (their statements: YtalidommelefaaaTotals.lean).
  GIVEN WITH THE SEED: the statements are not yours to turn. If you find one false, say at which input.
  Laid BY PROGRAM, IN A SANDBOX (cutbox-rows.mjs): the forced cells as the released guide's own fill.sh prints them over the translation 238fdfeaded62ac3… (all of the seat's roots in one cut). By AI agents, Wed Nov 11 2026. No macro, syntax, notation, axiom, sorry.
-/
import Derived.Test.YtalidommelefaaaChecked
import GoSem.Claim
import GoSem.ClaimJoined
import GoSem.ClaimMapViews
import Derived.JoinedTies
import Derived.KernelRfl
namespace Go.Proofs.Ytalidommelefaaa
/- THE CELL 'sum', in the pinned program and in every row, IS THE sha256 OF THE DUMP (.gsa) THAT YtalidommelefaaaProg.lean LOADS. Nothing in Lean hashes anything: it is a label: what it is worth is what the hold of that sum in a sandbox is worth. -/
noncomputable def Try.pinned : Pinned := { name := "ytalidommelefaaa", sum := "238fdfeaded62ac3070454e96d8f8fda5e4ff0b151da38ffb8552a3f52d32c7f", checked := Try.checked }
namespace Rows
def none {H : Type} : Left H := { results := [], args := [] }

/-- 'ballonetlaw02.AirNews': WHATEVER THE INPUT: true; the input reads as it did. -/
def airNewsSpec : ChangeSpec := { name := "airNews", fn := fun _ => fun
  | [d1, d2, d3, d4, d5, d6] => { results := [.lit (.bool true)], args := [d1, d2, d3, d4, d5, d6] }
  | _ => none }
def airNewsRow : OpenClaim := { program := "ytalidommelefaaa", sum := "238fdfeaded62ac3070454e96d8f8fda5e4ff0b151da38ffb8552a3f52d32c7f", func := "ballonet/ballonetlaw02.AirNews", spec := "airNews", unfollowed := true, recurses := true, apart := false }
def AirNewsSaid : Prop := airNewsRow.holds Try.pinned (OpenSpec.ofChange airNewsSpec)

/-- ITS FALSE NEIGHBOUR: 'it returns false'. Refute it at one input. -/
def airNewsWrong : ChangeSpec := { name := "airNews", fn := fun _ => fun
  | [d1, d2, d3, d4, d5, d6] => { results := [.lit (.bool false)], args := [d1, d2, d3, d4, d5, d6] }
  | _ => none }
def AirNewsWrongFalsely : Prop := airNewsRow.holds Try.pinned (OpenSpec.ofChange airNewsWrong)

/-- 'ballonetlaw02.AirSounds': WHATEVER THE INPUT: true; the input reads as it did. -/
def airSoundsSpec : ChangeSpec := { name := "airSounds", fn := fun _ => fun
  | [d1, d2, d3, d4, d5] => { results := [.lit (.bool true)], args := [d1, d2, d3, d4, d5] }
  | _ => none }
def airSoundsRow : OpenClaim := { program := "ytalidommelefaaa", sum := "238fdfeaded62ac3070454e96d8f8fda5e4ff0b151da38ffb8552a3f52d32c7f", func := "ballonet/ballonetlaw02.AirSounds", spec := "airSounds", unfollowed := true, recurses := true, apart := false }
def AirSoundsSaid : Prop := airSoundsRow.holds Try.pinned (OpenSpec.ofChange airSoundsSpec)

/-- ITS FALSE NEIGHBOUR: 'it returns false'. Refute it at one input. -/
def airSoundsWrong : ChangeSpec := { name := "airSounds", fn := fun _ => fun
  | [d1, d2, d3, d4, d5] => { results := [.lit (.bool false)], args := [d1, d2, d3, d4, d5] }
  | _ => none }
def AirSoundsWrongFalsely : Prop := airSoundsRow.holds Try.pinned (OpenSpec.ofChange airSoundsWrong)

/-- 'ballonetlaw02.AirWinds': WHATEVER THE INPUT: true; the input reads as it did. -/
def airWindsSpec : ChangeSpec := { name := "airWinds", fn := fun _ => fun
  | [d1, d2] => { results := [.lit (.bool true)], args := [d1, d2] }
  | _ => none }
def airWindsRow : OpenClaim := { program := "ytalidommelefaaa", sum := "238fdfeaded62ac3070454e96d8f8fda5e4ff0b151da38ffb8552a3f52d32c7f", func := "ballonet/ballonetlaw02.AirWinds", spec := "airWinds", unfollowed := true, recurses := true, apart := false }
def AirWindsSaid : Prop := airWindsRow.holds Try.pinned (OpenSpec.ofChange airWindsSpec)

/-- ITS FALSE NEIGHBOUR: 'it returns false'. Refute it at one input. -/
def airWindsWrong : ChangeSpec := { name := "airWinds", fn := fun _ => fun
  | [d1, d2] => { results := [.lit (.bool false)], args := [d1, d2] }
  | _ => none }
def AirWindsWrongFalsely : Prop := airWindsRow.holds Try.pinned (OpenSpec.ofChange airWindsWrong)

/-- 'ballonetlaw02.AirLevels': WHATEVER THE INPUT: true; the input reads as it did. -/
def airLevelsSpec : ChangeSpec := { name := "airLevels", fn := fun _ => fun
  | [d1, d2] => { results := [.lit (.bool true)], args := [d1, d2] }
  | _ => none }
def airLevelsRow : OpenClaim := { program := "ytalidommelefaaa", sum := "238fdfeaded62ac3070454e96d8f8fda5e4ff0b151da38ffb8552a3f52d32c7f", func := "ballonet/ballonetlaw02.AirLevels", spec := "airLevels", unfollowed := true, recurses := true, apart := false }
def AirLevelsSaid : Prop := airLevelsRow.holds Try.pinned (OpenSpec.ofChange airLevelsSpec)

/-- ITS FALSE NEIGHBOUR: 'it returns false'. Refute it at one input. -/
def airLevelsWrong : ChangeSpec := { name := "airLevels", fn := fun _ => fun
  | [d1, d2] => { results := [.lit (.bool false)], args := [d1, d2] }
  | _ => none }
def AirLevelsWrongFalsely : Prop := airLevelsRow.holds Try.pinned (OpenSpec.ofChange airLevelsWrong)

/-- 'ballonetlaw02.AirSettles': WHATEVER THE INPUT: true; the input reads as it did. -/
def airSettlesSpec : ChangeSpec := { name := "airSettles", fn := fun _ => fun
  | [d1, d2] => { results := [.lit (.bool true)], args := [d1, d2] }
  | _ => none }
def airSettlesRow : OpenClaim := { program := "ytalidommelefaaa", sum := "238fdfeaded62ac3070454e96d8f8fda5e4ff0b151da38ffb8552a3f52d32c7f", func := "ballonet/ballonetlaw02.AirSettles", spec := "airSettles", unfollowed := true, recurses := true, apart := false }
def AirSettlesSaid : Prop := airSettlesRow.holds Try.pinned (OpenSpec.ofChange airSettlesSpec)

/-- ITS FALSE NEIGHBOUR: 'it returns false'. Refute it at one input. -/
def airSettlesWrong : ChangeSpec := { name := "airSettles", fn := fun _ => fun
  | [d1, d2] => { results := [.lit (.bool false)], args := [d1, d2] }
  | _ => none }
def AirSettlesWrongFalsely : Prop := airSettlesRow.holds Try.pinned (OpenSpec.ofChange airSettlesWrong)

/-- 'ballonetlaw02.AirSpeeds': WHATEVER THE INPUT: true; the input reads as it did. -/
def airSpeedsSpec : ChangeSpec := { name := "airSpeeds", fn := fun _ => fun
  | [d1, d2, d3] => { results := [.lit (.bool true)], args := [d1, d2, d3] }
  | _ => none }
def airSpeedsRow : OpenClaim := { program := "ytalidommelefaaa", sum := "238fdfeaded62ac3070454e96d8f8fda5e4ff0b151da38ffb8552a3f52d32c7f", func := "ballonet/ballonetlaw02.AirSpeeds", spec := "airSpeeds", unfollowed := true, recurses := true, named := ["math/bits.divideError", "math/bits.overflowError"], apart := false }
def AirSpeedsSaid : Prop := airSpeedsRow.holds Try.pinned (OpenSpec.ofChange airSpeedsSpec)

/-- ITS FALSE NEIGHBOUR: 'it returns false'. Refute it at one input. -/
def airSpeedsWrong : ChangeSpec := { name := "airSpeeds", fn := fun _ => fun
  | [d1, d2, d3] => { results := [.lit (.bool false)], args := [d1, d2, d3] }
  | _ => none }
def AirSpeedsWrongFalsely : Prop := airSpeedsRow.holds Try.pinned (OpenSpec.ofChange airSpeedsWrong)

/-- 'ballonetlaw02.AirFits': WHATEVER THE INPUT: true; the input reads as it did. -/
def airFitsSpec : ChangeSpec := { name := "airFits", fn := fun _ => fun
  | [d1, d2, d3, d4] => { results := [.lit (.bool true)], args := [d1, d2, d3, d4] }
  | _ => none }
def airFitsRow : OpenClaim := { program := "ytalidommelefaaa", sum := "238fdfeaded62ac3070454e96d8f8fda5e4ff0b151da38ffb8552a3f52d32c7f", func := "ballonet/ballonetlaw02.AirFits", spec := "airFits", unfollowed := true, recurses := true, apart := false }
def AirFitsSaid : Prop := airFitsRow.holds Try.pinned (OpenSpec.ofChange airFitsSpec)

/-- ITS FALSE NEIGHBOUR: 'it returns false'. Refute it at one input. -/
def airFitsWrong : ChangeSpec := { name := "airFits", fn := fun _ => fun
  | [d1, d2, d3, d4] => { results := [.lit (.bool false)], args := [d1, d2, d3, d4] }
  | _ => none }
def AirFitsWrongFalsely : Prop := airFitsRow.holds Try.pinned (OpenSpec.ofChange airFitsWrong)

/-- 'ballonetlaw02.AirSettled': WHATEVER THE INPUT: true; the input reads as it did. -/
def airSettledSpec : ChangeSpec := { name := "airSettled", fn := fun _ => fun
  | [d] => { results := [.lit (.bool true)], args := [d] }
  | _ => none }
def airSettledRow : OpenClaim := { program := "ytalidommelefaaa", sum := "238fdfeaded62ac3070454e96d8f8fda5e4ff0b151da38ffb8552a3f52d32c7f", func := "ballonet/ballonetlaw02.AirSettled", spec := "airSettled", unfollowed := true, recurses := true, apart := false }
def AirSettledSaid : Prop := airSettledRow.holds Try.pinned (OpenSpec.ofChange airSettledSpec)

/-- ITS FALSE NEIGHBOUR: 'it returns false'. Refute it at one input. -/
def airSettledWrong : ChangeSpec := { name := "airSettled", fn := fun _ => fun
  | [d] => { results := [.lit (.bool false)], args := [d] }
  | _ => none }
def AirSettledWrongFalsely : Prop := airSettledRow.holds Try.pinned (OpenSpec.ofChange airSettledWrong)

/-- 'ballonetlaw02.AirWider': WHATEVER THE INPUT: true; the input reads as it did. -/
def airWiderSpec : ChangeSpec := { name := "airWider", fn := fun _ => fun
  | [d1, d2] => { results := [.lit (.bool true)], args := [d1, d2] }
  | _ => none }
def airWiderRow : OpenClaim := { program := "ytalidommelefaaa", sum := "238fdfeaded62ac3070454e96d8f8fda5e4ff0b151da38ffb8552a3f52d32c7f", func := "ballonet/ballonetlaw02.AirWider", spec := "airWider", unfollowed := true, recurses := true, apart := false }
def AirWiderSaid : Prop := airWiderRow.holds Try.pinned (OpenSpec.ofChange airWiderSpec)

/-- ITS FALSE NEIGHBOUR: 'it returns false'. Refute it at one input. -/
def airWiderWrong : ChangeSpec := { name := "airWider", fn := fun _ => fun
  | [d1, d2] => { results := [.lit (.bool false)], args := [d1, d2] }
  | _ => none }
def AirWiderWrongFalsely : Prop := airWiderRow.holds Try.pinned (OpenSpec.ofChange airWiderWrong)

/-- 'ballonetlaw02.AirBetween': WHATEVER THE INPUT: true; the input reads as it did. -/
def airBetweenSpec : ChangeSpec := { name := "airBetween", fn := fun _ => fun
  | [d1, d2, d3, d4] => { results := [.lit (.bool true)], args := [d1, d2, d3, d4] }
  | _ => none }
def airBetweenRow : OpenClaim := { program := "ytalidommelefaaa", sum := "238fdfeaded62ac3070454e96d8f8fda5e4ff0b151da38ffb8552a3f52d32c7f", func := "ballonet/ballonetlaw02.AirBetween", spec := "airBetween", unfollowed := true, recurses := true, apart := false }
def AirBetweenSaid : Prop := airBetweenRow.holds Try.pinned (OpenSpec.ofChange airBetweenSpec)

/-- ITS FALSE NEIGHBOUR: 'it returns false'. Refute it at one input. -/
def airBetweenWrong : ChangeSpec := { name := "airBetween", fn := fun _ => fun
  | [d1, d2, d3, d4] => { results := [.lit (.bool false)], args := [d1, d2, d3, d4] }
  | _ => none }
def AirBetweenWrongFalsely : Prop := airBetweenRow.holds Try.pinned (OpenSpec.ofChange airBetweenWrong)

/-- 'ballonetlaw02.AirGusts': WHATEVER THE INPUT: true; the input reads as it did. -/
def airGustsSpec : ChangeSpec := { name := "airGusts", fn := fun _ => fun
  | [d1, d2, d3, d4, d5, d6] => { results := [.lit (.bool true)], args := [d1, d2, d3, d4, d5, d6] }
  | _ => none }
def airGustsRow : OpenClaim := { program := "ytalidommelefaaa", sum := "238fdfeaded62ac3070454e96d8f8fda5e4ff0b151da38ffb8552a3f52d32c7f", func := "ballonet/ballonetlaw02.AirGusts", spec := "airGusts", unfollowed := true, recurses := true, apart := false }
def AirGustsSaid : Prop := airGustsRow.holds Try.pinned (OpenSpec.ofChange airGustsSpec)

/-- ITS FALSE NEIGHBOUR: 'it returns false'. Refute it at one input. -/
def airGustsWrong : ChangeSpec := { name := "airGusts", fn := fun _ => fun
  | [d1, d2, d3, d4, d5, d6] => { results := [.lit (.bool false)], args := [d1, d2, d3, d4, d5, d6] }
  | _ => none }
def AirGustsWrongFalsely : Prop := airGustsRow.holds Try.pinned (OpenSpec.ofChange airGustsWrong)

/-- 'ballonetlaw02.AirKnown': WHATEVER THE INPUT: true; the input reads as it did. -/
def airKnownSpec : ChangeSpec := { name := "airKnown", fn := fun _ => fun
  | [d1, d2, d3, d4, d5, d6, d7] => { results := [.lit (.bool true)], args := [d1, d2, d3, d4, d5, d6, d7] }
  | _ => none }
def airKnownRow : OpenClaim := { program := "ytalidommelefaaa", sum := "238fdfeaded62ac3070454e96d8f8fda5e4ff0b151da38ffb8552a3f52d32c7f", func := "ballonet/ballonetlaw02.AirKnown", spec := "airKnown", unfollowed := true, recurses := true, apart := false }
def AirKnownSaid : Prop := airKnownRow.holds Try.pinned (OpenSpec.ofChange airKnownSpec)

/-- ITS FALSE NEIGHBOUR: 'it returns false'. Refute it at one input. -/
def airKnownWrong : ChangeSpec := { name := "airKnown", fn := fun _ => fun
  | [d1, d2, d3, d4, d5, d6, d7] => { results := [.lit (.bool false)], args := [d1, d2, d3, d4, d5, d6, d7] }
  | _ => none }
def AirKnownWrongFalsely : Prop := airKnownRow.holds Try.pinned (OpenSpec.ofChange airKnownWrong)

/-- 'ballonetlaw02.AirLate': WHATEVER THE INPUT: true; the input reads as it did. -/
def airLateSpec : ChangeSpec := { name := "airLate", fn := fun _ => fun
  | [d1, d2, d3, d4, d5, d6, d7, d8] => { results := [.lit (.bool true)], args := [d1, d2, d3, d4, d5, d6, d7, d8] }
  | _ => none }
def airLateRow : OpenClaim := { program := "ytalidommelefaaa", sum := "238fdfeaded62ac3070454e96d8f8fda5e4ff0b151da38ffb8552a3f52d32c7f", func := "ballonet/ballonetlaw02.AirLate", spec := "airLate", unfollowed := true, recurses := true, apart := false }
def AirLateSaid : Prop := airLateRow.holds Try.pinned (OpenSpec.ofChange airLateSpec)

/-- ITS FALSE NEIGHBOUR: 'it returns false'. Refute it at one input. -/
def airLateWrong : ChangeSpec := { name := "airLate", fn := fun _ => fun
  | [d1, d2, d3, d4, d5, d6, d7, d8] => { results := [.lit (.bool false)], args := [d1, d2, d3, d4, d5, d6, d7, d8] }
  | _ => none }
def AirLateWrongFalsely : Prop := airLateRow.holds Try.pinned (OpenSpec.ofChange airLateWrong)

/-- 'ballonetlaw02.AirWhere': WHATEVER THE INPUT: true; the input reads as it did. -/
def airWhereSpec : ChangeSpec := { name := "airWhere", fn := fun _ => fun
  | [d1, d2, d3] => { results := [.lit (.bool true)], args := [d1, d2, d3] }
  | _ => none }
def airWhereRow : OpenClaim := { program := "ytalidommelefaaa", sum := "238fdfeaded62ac3070454e96d8f8fda5e4ff0b151da38ffb8552a3f52d32c7f", func := "ballonet/ballonetlaw02.AirWhere", spec := "airWhere", unfollowed := true, recurses := true, apart := false }
def AirWhereSaid : Prop := airWhereRow.holds Try.pinned (OpenSpec.ofChange airWhereSpec)

/-- ITS FALSE NEIGHBOUR: 'it returns false'. Refute it at one input. -/
def airWhereWrong : ChangeSpec := { name := "airWhere", fn := fun _ => fun
  | [d1, d2, d3] => { results := [.lit (.bool false)], args := [d1, d2, d3] }
  | _ => none }
def AirWhereWrongFalsely : Prop := airWhereRow.holds Try.pinned (OpenSpec.ofChange airWhereWrong)

/-- 'ballonetlaw02.AirPosts': WHATEVER THE INPUT: true; the input reads as it did. -/
def airPostsSpec : ChangeSpec := { name := "airPosts", fn := fun _ => fun
  | [d1, d2, d3, d4, d5] => { results := [.lit (.bool true)], args := [d1, d2, d3, d4, d5] }
  | _ => none }
def airPostsRow : OpenClaim := { program := "ytalidommelefaaa", sum := "238fdfeaded62ac3070454e96d8f8fda5e4ff0b151da38ffb8552a3f52d32c7f", func := "ballonet/ballonetlaw02.AirPosts", spec := "airPosts", unfollowed := true, recurses := true, apart := false }
def AirPostsSaid : Prop := airPostsRow.holds Try.pinned (OpenSpec.ofChange airPostsSpec)

/-- ITS FALSE NEIGHBOUR: 'it returns false'. Refute it at one input. -/
def airPostsWrong : ChangeSpec := { name := "airPosts", fn := fun _ => fun
  | [d1, d2, d3, d4, d5] => { results := [.lit (.bool false)], args := [d1, d2, d3, d4, d5] }
  | _ => none }
def AirPostsWrongFalsely : Prop := airPostsRow.holds Try.pinned (OpenSpec.ofChange airPostsWrong)

/-- 'ballonetlaw02.AirAlong': WHATEVER THE INPUT: true; the input reads as it did. -/
def airAlongSpec : ChangeSpec := { name := "airAlong", fn := fun _ => fun
  | [d1, d2, d3] => { results := [.lit (.bool true)], args := [d1, d2, d3] }
  | _ => none }
def airAlongRow : OpenClaim := { program := "ytalidommelefaaa", sum := "238fdfeaded62ac3070454e96d8f8fda5e4ff0b151da38ffb8552a3f52d32c7f", func := "ballonet/ballonetlaw02.AirAlong", spec := "airAlong", unfollowed := true, recurses := true, named := ["math/bits.divideError", "math/bits.overflowError"], apart := false }
def AirAlongSaid : Prop := airAlongRow.holds Try.pinned (OpenSpec.ofChange airAlongSpec)

/-- ITS FALSE NEIGHBOUR: 'it returns false'. Refute it at one input. -/
def airAlongWrong : ChangeSpec := { name := "airAlong", fn := fun _ => fun
  | [d1, d2, d3] => { results := [.lit (.bool false)], args := [d1, d2, d3] }
  | _ => none }
def AirAlongWrongFalsely : Prop := airAlongRow.holds Try.pinned (OpenSpec.ofChange airAlongWrong)

/-- 'ballonetlaw02.AirExamples': WHATEVER THE INPUT: true; the input reads as it did. -/
def airExamplesSpec : ChangeSpec := { name := "airExamples", fn := fun _ => fun
  | [] => { results := [.lit (.bool true)], args := [] }
  | _ => none }
def airExamplesRow : OpenClaim := { program := "ytalidommelefaaa", sum := "238fdfeaded62ac3070454e96d8f8fda5e4ff0b151da38ffb8552a3f52d32c7f", func := "ballonet/ballonetlaw02.AirExamples", spec := "airExamples", unfollowed := true, recurses := true, named := ["math/bits.divideError", "math/bits.overflowError"], apart := false }
def AirExamplesSaid : Prop := airExamplesRow.holds Try.pinned (OpenSpec.ofChange airExamplesSpec)

/-- ITS FALSE NEIGHBOUR: 'it returns false'. Refute it at one input. -/
def airExamplesWrong : ChangeSpec := { name := "airExamples", fn := fun _ => fun
  | [] => { results := [.lit (.bool false)], args := [] }
  | _ => none }
def AirExamplesWrongFalsely : Prop := airExamplesRow.holds Try.pinned (OpenSpec.ofChange airExamplesWrong)

/- THE SECOND FORM. 'bulk': how many values and letters a reading holds, each counted each time it is reached (what is shared counts as often as it is met; a slice's spare places count too). A statement '..UptoSaid' is the law's where the arguments, and the package variables that the reading takes, are together of bulk at most 1048576: NARROWER than '..Said'. Prove '..Said' where nothing that the law and all that it calls make is longer than what came in: it says more and counts as full. Else prove '..UptoSaid'. A law counts once. -/
mutual
def uptoBulk {H : Type} : DataW H → Nat
  | .lit (.string bytes) => bytes.length + 1
  | .lit _ => 1
  | .nil => 1
  | .ptr d => uptoBulk d + 1
  | .slice elems spare => uptoBulkAll elems + uptoBulkAll spare + 1
  | .agg parts => uptoBulkAll parts + 1
  | .iface _ d => uptoBulk d + 1
  | .map entries => uptoBulkEntries entries + 1
  | .held _ => 1
def uptoBulkAll {H : Type} : List (DataW H) → Nat
  | [] => 0
  | d :: r => uptoBulk d + uptoBulkAll r
def uptoBulkEntries {H : Type} : List (Lit × DataW H) → Nat
  | [] => 0
  | x :: r => uptoBulkEntry x + uptoBulkEntries r
def uptoBulkEntry {H : Type} : Lit × DataW H → Nat
  | (.string bytes, d) => bytes.length + uptoBulk d + 1
  | (_, d) => uptoBulk d + 1
 end
def uptoSmall : (H : Type) → List (DataW H) → Bool := fun _ ds => decide (uptoBulkAll ds ≤ 1048576)
def OpenSpec.upto (s : _root_.Go.ChangeSpec) : _root_.Go.OpenSpec := { _root_.Go.OpenSpec.ofChange s with cond := some uptoSmall }

/-- 'ballonetlaw02.AirNews', WHERE WHAT IT READS IS OF BULK AT MOST 1048576: true; the input reads as it did. -/
def airNewsUptoRow : OpenClaim := { program := "ytalidommelefaaa", sum := "238fdfeaded62ac3070454e96d8f8fda5e4ff0b151da38ffb8552a3f52d32c7f", func := "ballonet/ballonetlaw02.AirNews", spec := "airNews", unfollowed := true, recurses := true, apart := false, narrowed := true }
def AirNewsUptoSaid : Prop := airNewsUptoRow.holds Try.pinned (OpenSpec.upto airNewsSpec)

/-- 'ballonetlaw02.AirSounds', WHERE WHAT IT READS IS OF BULK AT MOST 1048576: true; the input reads as it did. -/
def airSoundsUptoRow : OpenClaim := { program := "ytalidommelefaaa", sum := "238fdfeaded62ac3070454e96d8f8fda5e4ff0b151da38ffb8552a3f52d32c7f", func := "ballonet/ballonetlaw02.AirSounds", spec := "airSounds", unfollowed := true, recurses := true, apart := false, narrowed := true }
def AirSoundsUptoSaid : Prop := airSoundsUptoRow.holds Try.pinned (OpenSpec.upto airSoundsSpec)

/-- 'ballonetlaw02.AirWinds', WHERE WHAT IT READS IS OF BULK AT MOST 1048576: true; the input reads as it did. -/
def airWindsUptoRow : OpenClaim := { program := "ytalidommelefaaa", sum := "238fdfeaded62ac3070454e96d8f8fda5e4ff0b151da38ffb8552a3f52d32c7f", func := "ballonet/ballonetlaw02.AirWinds", spec := "airWinds", unfollowed := true, recurses := true, apart := false, narrowed := true }
def AirWindsUptoSaid : Prop := airWindsUptoRow.holds Try.pinned (OpenSpec.upto airWindsSpec)

/-- 'ballonetlaw02.AirLevels', WHERE WHAT IT READS IS OF BULK AT MOST 1048576: true; the input reads as it did. -/
def airLevelsUptoRow : OpenClaim := { program := "ytalidommelefaaa", sum := "238fdfeaded62ac3070454e96d8f8fda5e4ff0b151da38ffb8552a3f52d32c7f", func := "ballonet/ballonetlaw02.AirLevels", spec := "airLevels", unfollowed := true, recurses := true, apart := false, narrowed := true }
def AirLevelsUptoSaid : Prop := airLevelsUptoRow.holds Try.pinned (OpenSpec.upto airLevelsSpec)

/-- 'ballonetlaw02.AirSettles', WHERE WHAT IT READS IS OF BULK AT MOST 1048576: true; the input reads as it did. -/
def airSettlesUptoRow : OpenClaim := { program := "ytalidommelefaaa", sum := "238fdfeaded62ac3070454e96d8f8fda5e4ff0b151da38ffb8552a3f52d32c7f", func := "ballonet/ballonetlaw02.AirSettles", spec := "airSettles", unfollowed := true, recurses := true, apart := false, narrowed := true }
def AirSettlesUptoSaid : Prop := airSettlesUptoRow.holds Try.pinned (OpenSpec.upto airSettlesSpec)

/-- 'ballonetlaw02.AirSpeeds', WHERE WHAT IT READS IS OF BULK AT MOST 1048576: true; the input reads as it did. -/
def airSpeedsUptoRow : OpenClaim := { program := "ytalidommelefaaa", sum := "238fdfeaded62ac3070454e96d8f8fda5e4ff0b151da38ffb8552a3f52d32c7f", func := "ballonet/ballonetlaw02.AirSpeeds", spec := "airSpeeds", unfollowed := true, recurses := true, named := ["math/bits.divideError", "math/bits.overflowError"], apart := false, narrowed := true }
def AirSpeedsUptoSaid : Prop := airSpeedsUptoRow.holds Try.pinned (OpenSpec.upto airSpeedsSpec)

/-- 'ballonetlaw02.AirFits', WHERE WHAT IT READS IS OF BULK AT MOST 1048576: true; the input reads as it did. -/
def airFitsUptoRow : OpenClaim := { program := "ytalidommelefaaa", sum := "238fdfeaded62ac3070454e96d8f8fda5e4ff0b151da38ffb8552a3f52d32c7f", func := "ballonet/ballonetlaw02.AirFits", spec := "airFits", unfollowed := true, recurses := true, apart := false, narrowed := true }
def AirFitsUptoSaid : Prop := airFitsUptoRow.holds Try.pinned (OpenSpec.upto airFitsSpec)

/-- 'ballonetlaw02.AirSettled', WHERE WHAT IT READS IS OF BULK AT MOST 1048576: true; the input reads as it did. -/
def airSettledUptoRow : OpenClaim := { program := "ytalidommelefaaa", sum := "238fdfeaded62ac3070454e96d8f8fda5e4ff0b151da38ffb8552a3f52d32c7f", func := "ballonet/ballonetlaw02.AirSettled", spec := "airSettled", unfollowed := true, recurses := true, apart := false, narrowed := true }
def AirSettledUptoSaid : Prop := airSettledUptoRow.holds Try.pinned (OpenSpec.upto airSettledSpec)

/-- 'ballonetlaw02.AirWider', WHERE WHAT IT READS IS OF BULK AT MOST 1048576: true; the input reads as it did. -/
def airWiderUptoRow : OpenClaim := { program := "ytalidommelefaaa", sum := "238fdfeaded62ac3070454e96d8f8fda5e4ff0b151da38ffb8552a3f52d32c7f", func := "ballonet/ballonetlaw02.AirWider", spec := "airWider", unfollowed := true, recurses := true, apart := false, narrowed := true }
def AirWiderUptoSaid : Prop := airWiderUptoRow.holds Try.pinned (OpenSpec.upto airWiderSpec)

/-- 'ballonetlaw02.AirBetween', WHERE WHAT IT READS IS OF BULK AT MOST 1048576: true; the input reads as it did. -/
def airBetweenUptoRow : OpenClaim := { program := "ytalidommelefaaa", sum := "238fdfeaded62ac3070454e96d8f8fda5e4ff0b151da38ffb8552a3f52d32c7f", func := "ballonet/ballonetlaw02.AirBetween", spec := "airBetween", unfollowed := true, recurses := true, apart := false, narrowed := true }
def AirBetweenUptoSaid : Prop := airBetweenUptoRow.holds Try.pinned (OpenSpec.upto airBetweenSpec)

/-- 'ballonetlaw02.AirGusts', WHERE WHAT IT READS IS OF BULK AT MOST 1048576: true; the input reads as it did. -/
def airGustsUptoRow : OpenClaim := { program := "ytalidommelefaaa", sum := "238fdfeaded62ac3070454e96d8f8fda5e4ff0b151da38ffb8552a3f52d32c7f", func := "ballonet/ballonetlaw02.AirGusts", spec := "airGusts", unfollowed := true, recurses := true, apart := false, narrowed := true }
def AirGustsUptoSaid : Prop := airGustsUptoRow.holds Try.pinned (OpenSpec.upto airGustsSpec)

/-- 'ballonetlaw02.AirKnown', WHERE WHAT IT READS IS OF BULK AT MOST 1048576: true; the input reads as it did. -/
def airKnownUptoRow : OpenClaim := { program := "ytalidommelefaaa", sum := "238fdfeaded62ac3070454e96d8f8fda5e4ff0b151da38ffb8552a3f52d32c7f", func := "ballonet/ballonetlaw02.AirKnown", spec := "airKnown", unfollowed := true, recurses := true, apart := false, narrowed := true }
def AirKnownUptoSaid : Prop := airKnownUptoRow.holds Try.pinned (OpenSpec.upto airKnownSpec)

/-- 'ballonetlaw02.AirLate', WHERE WHAT IT READS IS OF BULK AT MOST 1048576: true; the input reads as it did. -/
def airLateUptoRow : OpenClaim := { program := "ytalidommelefaaa", sum := "238fdfeaded62ac3070454e96d8f8fda5e4ff0b151da38ffb8552a3f52d32c7f", func := "ballonet/ballonetlaw02.AirLate", spec := "airLate", unfollowed := true, recurses := true, apart := false, narrowed := true }
def AirLateUptoSaid : Prop := airLateUptoRow.holds Try.pinned (OpenSpec.upto airLateSpec)

/-- 'ballonetlaw02.AirWhere', WHERE WHAT IT READS IS OF BULK AT MOST 1048576: true; the input reads as it did. -/
def airWhereUptoRow : OpenClaim := { program := "ytalidommelefaaa", sum := "238fdfeaded62ac3070454e96d8f8fda5e4ff0b151da38ffb8552a3f52d32c7f", func := "ballonet/ballonetlaw02.AirWhere", spec := "airWhere", unfollowed := true, recurses := true, apart := false, narrowed := true }
def AirWhereUptoSaid : Prop := airWhereUptoRow.holds Try.pinned (OpenSpec.upto airWhereSpec)

/-- 'ballonetlaw02.AirPosts', WHERE WHAT IT READS IS OF BULK AT MOST 1048576: true; the input reads as it did. -/
def airPostsUptoRow : OpenClaim := { program := "ytalidommelefaaa", sum := "238fdfeaded62ac3070454e96d8f8fda5e4ff0b151da38ffb8552a3f52d32c7f", func := "ballonet/ballonetlaw02.AirPosts", spec := "airPosts", unfollowed := true, recurses := true, apart := false, narrowed := true }
def AirPostsUptoSaid : Prop := airPostsUptoRow.holds Try.pinned (OpenSpec.upto airPostsSpec)

/-- 'ballonetlaw02.AirAlong', WHERE WHAT IT READS IS OF BULK AT MOST 1048576: true; the input reads as it did. -/
def airAlongUptoRow : OpenClaim := { program := "ytalidommelefaaa", sum := "238fdfeaded62ac3070454e96d8f8fda5e4ff0b151da38ffb8552a3f52d32c7f", func := "ballonet/ballonetlaw02.AirAlong", spec := "airAlong", unfollowed := true, recurses := true, named := ["math/bits.divideError", "math/bits.overflowError"], apart := false, narrowed := true }
def AirAlongUptoSaid : Prop := airAlongUptoRow.holds Try.pinned (OpenSpec.upto airAlongSpec)

/-- 'ballonetlaw02.AirExamples', WHERE WHAT IT READS IS OF BULK AT MOST 1048576: true; the input reads as it did. -/
def airExamplesUptoRow : OpenClaim := { program := "ytalidommelefaaa", sum := "238fdfeaded62ac3070454e96d8f8fda5e4ff0b151da38ffb8552a3f52d32c7f", func := "ballonet/ballonetlaw02.AirExamples", spec := "airExamples", unfollowed := true, recurses := true, named := ["math/bits.divideError", "math/bits.overflowError"], apart := false, narrowed := true }
def AirExamplesUptoSaid : Prop := airExamplesUptoRow.holds Try.pinned (OpenSpec.upto airExamplesSpec)

end Rows
end Go.Proofs.Ytalidommelefaaa
