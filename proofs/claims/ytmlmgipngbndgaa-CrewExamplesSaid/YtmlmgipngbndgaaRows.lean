/-
  No cell of these rows narrows 'for every input' (looked for: loops, veiled, ifaces, maps, wideKeys, modest, calm, conditions, laid).
  DERIVED. THE GIVEN ROWS OF THIS SEAT. 16 by the template 'for every input the law returns true; each argument reads behind the call as it read before'; 0 by the template 'total and deterministic' (their statements: YtmlmgipngbndgaaTotals.lean).
  GIVEN WITH THE SEED: the statements are not yours to turn. If you find one false, say at which input.
  Laid BY PROGRAM, IN A SANDBOX (cutbox-rows.mjs): the forced cells as the released guide's own fill.sh prints them over the translation 751b21114c9e1cbe… (all of the seat's roots in one cut). By AI agents, Wed Nov 11 2026. No macro, syntax, notation, axiom, sorry.
-/
import Derived.Test.YtmlmgipngbndgaaChecked
import GoSem.Claim
import GoSem.ClaimJoined
import GoSem.ClaimMapViews
import Derived.JoinedTies
import Derived.KernelRfl
namespace Go.Proofs.Ytmlmgipngbndgaa
/- THE CELL 'sum', in the pinned program and in every row, IS THE sha256 OF THE DUMP (.gsa) THAT YtmlmgipngbndgaaProg.lean LOADS. Nothing in Lean hashes anything: it is a label: what it is worth is what the hold of that sum in a sandbox is worth. -/
noncomputable def Try.pinned : Pinned := { name := "ytmlmgipngbndgaa", sum := "751b21114c9e1cbe1758d22a895d0b258bd3635bfa6a6cdc36bbb38092c5dc66", checked := Try.checked }
namespace Rows
def none {H : Type} : Left H := { results := [], args := [] }

/-- 'ballonetlaw08.CrewTells': WHATEVER THE INPUT: true; the input reads as it did. -/
def crewTellsSpec : ChangeSpec := { name := "crewTells", fn := fun _ => fun
  | [d1, d2, d3] => { results := [.lit (.bool true)], args := [d1, d2, d3] }
  | _ => none }
def crewTellsRow : OpenClaim := { program := "ytmlmgipngbndgaa", sum := "751b21114c9e1cbe1758d22a895d0b258bd3635bfa6a6cdc36bbb38092c5dc66", func := "ballonet/ballonetlaw08.CrewTells", spec := "crewTells", unfollowed := true, recurses := true, apart := false }
def CrewTellsSaid : Prop := crewTellsRow.holds Try.pinned (OpenSpec.ofChange crewTellsSpec)

/-- ITS FALSE NEIGHBOUR: 'it returns false'. Refute it at one input. -/
def crewTellsWrong : ChangeSpec := { name := "crewTells", fn := fun _ => fun
  | [d1, d2, d3] => { results := [.lit (.bool false)], args := [d1, d2, d3] }
  | _ => none }
def CrewTellsWrongFalsely : Prop := crewTellsRow.holds Try.pinned (OpenSpec.ofChange crewTellsWrong)

/-- 'ballonetlaw08.CrewCares': WHATEVER THE INPUT: true; the input reads as it did. -/
def crewCaresSpec : ChangeSpec := { name := "crewCares", fn := fun _ => fun
  | [d1, d2, d3] => { results := [.lit (.bool true)], args := [d1, d2, d3] }
  | _ => none }
def crewCaresRow : OpenClaim := { program := "ytmlmgipngbndgaa", sum := "751b21114c9e1cbe1758d22a895d0b258bd3635bfa6a6cdc36bbb38092c5dc66", func := "ballonet/ballonetlaw08.CrewCares", spec := "crewCares", unfollowed := true, recurses := true, apart := false }
def CrewCaresSaid : Prop := crewCaresRow.holds Try.pinned (OpenSpec.ofChange crewCaresSpec)

/-- ITS FALSE NEIGHBOUR: 'it returns false'. Refute it at one input. -/
def crewCaresWrong : ChangeSpec := { name := "crewCares", fn := fun _ => fun
  | [d1, d2, d3] => { results := [.lit (.bool false)], args := [d1, d2, d3] }
  | _ => none }
def CrewCaresWrongFalsely : Prop := crewCaresRow.holds Try.pinned (OpenSpec.ofChange crewCaresWrong)

/-- 'ballonetlaw08.CrewPlays': WHATEVER THE INPUT: true; the input reads as it did. -/
def crewPlaysSpec : ChangeSpec := { name := "crewPlays", fn := fun _ => fun
  | [d1, d2] => { results := [.lit (.bool true)], args := [d1, d2] }
  | _ => none }
def crewPlaysRow : OpenClaim := { program := "ytmlmgipngbndgaa", sum := "751b21114c9e1cbe1758d22a895d0b258bd3635bfa6a6cdc36bbb38092c5dc66", func := "ballonet/ballonetlaw08.CrewPlays", spec := "crewPlays", unfollowed := true, recurses := true, apart := false }
def CrewPlaysSaid : Prop := crewPlaysRow.holds Try.pinned (OpenSpec.ofChange crewPlaysSpec)

/-- ITS FALSE NEIGHBOUR: 'it returns false'. Refute it at one input. -/
def crewPlaysWrong : ChangeSpec := { name := "crewPlays", fn := fun _ => fun
  | [d1, d2] => { results := [.lit (.bool false)], args := [d1, d2] }
  | _ => none }
def CrewPlaysWrongFalsely : Prop := crewPlaysRow.holds Try.pinned (OpenSpec.ofChange crewPlaysWrong)

/-- 'ballonetlaw08.CrewDoes': WHATEVER THE INPUT: true; the input reads as it did. -/
def crewDoesSpec : ChangeSpec := { name := "crewDoes", fn := fun _ => fun
  | [d1, d2] => { results := [.lit (.bool true)], args := [d1, d2] }
  | _ => none }
def crewDoesRow : OpenClaim := { program := "ytmlmgipngbndgaa", sum := "751b21114c9e1cbe1758d22a895d0b258bd3635bfa6a6cdc36bbb38092c5dc66", func := "ballonet/ballonetlaw08.CrewDoes", spec := "crewDoes", unfollowed := true, recurses := true, apart := false }
def CrewDoesSaid : Prop := crewDoesRow.holds Try.pinned (OpenSpec.ofChange crewDoesSpec)

/-- ITS FALSE NEIGHBOUR: 'it returns false'. Refute it at one input. -/
def crewDoesWrong : ChangeSpec := { name := "crewDoes", fn := fun _ => fun
  | [d1, d2] => { results := [.lit (.bool false)], args := [d1, d2] }
  | _ => none }
def CrewDoesWrongFalsely : Prop := crewDoesRow.holds Try.pinned (OpenSpec.ofChange crewDoesWrong)

/-- 'ballonetlaw08.CrewTired': WHATEVER THE INPUT: true; the input reads as it did. -/
def crewTiredSpec : ChangeSpec := { name := "crewTired", fn := fun _ => fun
  | [d1, d2] => { results := [.lit (.bool true)], args := [d1, d2] }
  | _ => none }
def crewTiredRow : OpenClaim := { program := "ytmlmgipngbndgaa", sum := "751b21114c9e1cbe1758d22a895d0b258bd3635bfa6a6cdc36bbb38092c5dc66", func := "ballonet/ballonetlaw08.CrewTired", spec := "crewTired", unfollowed := true, recurses := true, apart := false }
def CrewTiredSaid : Prop := crewTiredRow.holds Try.pinned (OpenSpec.ofChange crewTiredSpec)

/-- ITS FALSE NEIGHBOUR: 'it returns false'. Refute it at one input. -/
def crewTiredWrong : ChangeSpec := { name := "crewTired", fn := fun _ => fun
  | [d1, d2] => { results := [.lit (.bool false)], args := [d1, d2] }
  | _ => none }
def CrewTiredWrongFalsely : Prop := crewTiredRow.holds Try.pinned (OpenSpec.ofChange crewTiredWrong)

/-- 'ballonetlaw08.CrewAssigns': WHATEVER THE INPUT: true; the input reads as it did. -/
def crewAssignsSpec : ChangeSpec := { name := "crewAssigns", fn := fun _ => fun
  | [d1, d2, d3, d4] => { results := [.lit (.bool true)], args := [d1, d2, d3, d4] }
  | _ => none }
def crewAssignsRow : OpenClaim := { program := "ytmlmgipngbndgaa", sum := "751b21114c9e1cbe1758d22a895d0b258bd3635bfa6a6cdc36bbb38092c5dc66", func := "ballonet/ballonetlaw08.CrewAssigns", spec := "crewAssigns", unfollowed := true, recurses := true, apart := false }
def CrewAssignsSaid : Prop := crewAssignsRow.holds Try.pinned (OpenSpec.ofChange crewAssignsSpec)

/-- ITS FALSE NEIGHBOUR: 'it returns false'. Refute it at one input. -/
def crewAssignsWrong : ChangeSpec := { name := "crewAssigns", fn := fun _ => fun
  | [d1, d2, d3, d4] => { results := [.lit (.bool false)], args := [d1, d2, d3, d4] }
  | _ => none }
def CrewAssignsWrongFalsely : Prop := crewAssignsRow.holds Try.pinned (OpenSpec.ofChange crewAssignsWrong)

/-- 'ballonetlaw08.CrewNamed': WHATEVER THE INPUT: true; the input reads as it did. -/
def crewNamedSpec : ChangeSpec := { name := "crewNamed", fn := fun _ => fun
  | [d1, d2, d3, d4] => { results := [.lit (.bool true)], args := [d1, d2, d3, d4] }
  | _ => none }
def crewNamedRow : OpenClaim := { program := "ytmlmgipngbndgaa", sum := "751b21114c9e1cbe1758d22a895d0b258bd3635bfa6a6cdc36bbb38092c5dc66", func := "ballonet/ballonetlaw08.CrewNamed", spec := "crewNamed", unfollowed := true, recurses := true, apart := false }
def CrewNamedSaid : Prop := crewNamedRow.holds Try.pinned (OpenSpec.ofChange crewNamedSpec)

/-- ITS FALSE NEIGHBOUR: 'it returns false'. Refute it at one input. -/
def crewNamedWrong : ChangeSpec := { name := "crewNamed", fn := fun _ => fun
  | [d1, d2, d3, d4] => { results := [.lit (.bool false)], args := [d1, d2, d3, d4] }
  | _ => none }
def CrewNamedWrongFalsely : Prop := crewNamedRow.holds Try.pinned (OpenSpec.ofChange crewNamedWrong)

/-- 'ballonetlaw08.CrewMore': WHATEVER THE INPUT: true; the input reads as it did. -/
def crewMoreSpec : ChangeSpec := { name := "crewMore", fn := fun _ => fun
  | [d1, d2, d3] => { results := [.lit (.bool true)], args := [d1, d2, d3] }
  | _ => none }
def crewMoreRow : OpenClaim := { program := "ytmlmgipngbndgaa", sum := "751b21114c9e1cbe1758d22a895d0b258bd3635bfa6a6cdc36bbb38092c5dc66", func := "ballonet/ballonetlaw08.CrewMore", spec := "crewMore", unfollowed := true, recurses := true, apart := false }
def CrewMoreSaid : Prop := crewMoreRow.holds Try.pinned (OpenSpec.ofChange crewMoreSpec)

/-- ITS FALSE NEIGHBOUR: 'it returns false'. Refute it at one input. -/
def crewMoreWrong : ChangeSpec := { name := "crewMore", fn := fun _ => fun
  | [d1, d2, d3] => { results := [.lit (.bool false)], args := [d1, d2, d3] }
  | _ => none }
def CrewMoreWrongFalsely : Prop := crewMoreRow.holds Try.pinned (OpenSpec.ofChange crewMoreWrong)

/-- 'ballonetlaw08.CrewMoney': WHATEVER THE INPUT: true; the input reads as it did. -/
def crewMoneySpec : ChangeSpec := { name := "crewMoney", fn := fun _ => fun
  | [d1, d2] => { results := [.lit (.bool true)], args := [d1, d2] }
  | _ => none }
def crewMoneyRow : OpenClaim := { program := "ytmlmgipngbndgaa", sum := "751b21114c9e1cbe1758d22a895d0b258bd3635bfa6a6cdc36bbb38092c5dc66", func := "ballonet/ballonetlaw08.CrewMoney", spec := "crewMoney", unfollowed := true, recurses := true, apart := false }
def CrewMoneySaid : Prop := crewMoneyRow.holds Try.pinned (OpenSpec.ofChange crewMoneySpec)

/-- ITS FALSE NEIGHBOUR: 'it returns false'. Refute it at one input. -/
def crewMoneyWrong : ChangeSpec := { name := "crewMoney", fn := fun _ => fun
  | [d1, d2] => { results := [.lit (.bool false)], args := [d1, d2] }
  | _ => none }
def CrewMoneyWrongFalsely : Prop := crewMoneyRow.holds Try.pinned (OpenSpec.ofChange crewMoneyWrong)

/-- 'ballonetlaw08.CrewCut': WHATEVER THE INPUT: true; the input reads as it did. -/
def crewCutSpec : ChangeSpec := { name := "crewCut", fn := fun _ => fun
  | [d1, d2, d3] => { results := [.lit (.bool true)], args := [d1, d2, d3] }
  | _ => none }
def crewCutRow : OpenClaim := { program := "ytmlmgipngbndgaa", sum := "751b21114c9e1cbe1758d22a895d0b258bd3635bfa6a6cdc36bbb38092c5dc66", func := "ballonet/ballonetlaw08.CrewCut", spec := "crewCut", unfollowed := true, recurses := true, apart := false }
def CrewCutSaid : Prop := crewCutRow.holds Try.pinned (OpenSpec.ofChange crewCutSpec)

/-- ITS FALSE NEIGHBOUR: 'it returns false'. Refute it at one input. -/
def crewCutWrong : ChangeSpec := { name := "crewCut", fn := fun _ => fun
  | [d1, d2, d3] => { results := [.lit (.bool false)], args := [d1, d2, d3] }
  | _ => none }
def CrewCutWrongFalsely : Prop := crewCutRow.holds Try.pinned (OpenSpec.ofChange crewCutWrong)

/-- 'ballonetlaw08.CrewOff': WHATEVER THE INPUT: true; the input reads as it did. -/
def crewOffSpec : ChangeSpec := { name := "crewOff", fn := fun _ => fun
  | [d1, d2] => { results := [.lit (.bool true)], args := [d1, d2] }
  | _ => none }
def crewOffRow : OpenClaim := { program := "ytmlmgipngbndgaa", sum := "751b21114c9e1cbe1758d22a895d0b258bd3635bfa6a6cdc36bbb38092c5dc66", func := "ballonet/ballonetlaw08.CrewOff", spec := "crewOff", unfollowed := true, recurses := true, apart := false }
def CrewOffSaid : Prop := crewOffRow.holds Try.pinned (OpenSpec.ofChange crewOffSpec)

/-- ITS FALSE NEIGHBOUR: 'it returns false'. Refute it at one input. -/
def crewOffWrong : ChangeSpec := { name := "crewOff", fn := fun _ => fun
  | [d1, d2] => { results := [.lit (.bool false)], args := [d1, d2] }
  | _ => none }
def CrewOffWrongFalsely : Prop := crewOffRow.holds Try.pinned (OpenSpec.ofChange crewOffWrong)

/-- 'ballonetlaw08.CrewInspects': WHATEVER THE INPUT: true; the input reads as it did. -/
def crewInspectsSpec : ChangeSpec := { name := "crewInspects", fn := fun _ => fun
  | [d1, d2, d3] => { results := [.lit (.bool true)], args := [d1, d2, d3] }
  | _ => none }
def crewInspectsRow : OpenClaim := { program := "ytmlmgipngbndgaa", sum := "751b21114c9e1cbe1758d22a895d0b258bd3635bfa6a6cdc36bbb38092c5dc66", func := "ballonet/ballonetlaw08.CrewInspects", spec := "crewInspects", unfollowed := true, recurses := true, apart := false }
def CrewInspectsSaid : Prop := crewInspectsRow.holds Try.pinned (OpenSpec.ofChange crewInspectsSpec)

/-- ITS FALSE NEIGHBOUR: 'it returns false'. Refute it at one input. -/
def crewInspectsWrong : ChangeSpec := { name := "crewInspects", fn := fun _ => fun
  | [d1, d2, d3] => { results := [.lit (.bool false)], args := [d1, d2, d3] }
  | _ => none }
def CrewInspectsWrongFalsely : Prop := crewInspectsRow.holds Try.pinned (OpenSpec.ofChange crewInspectsWrong)

/-- 'ballonetlaw08.CrewLate': WHATEVER THE INPUT: true; the input reads as it did. -/
def crewLateSpec : ChangeSpec := { name := "crewLate", fn := fun _ => fun
  | [d1, d2, d3, d4] => { results := [.lit (.bool true)], args := [d1, d2, d3, d4] }
  | _ => none }
def crewLateRow : OpenClaim := { program := "ytmlmgipngbndgaa", sum := "751b21114c9e1cbe1758d22a895d0b258bd3635bfa6a6cdc36bbb38092c5dc66", func := "ballonet/ballonetlaw08.CrewLate", spec := "crewLate", unfollowed := true, recurses := true, apart := false }
def CrewLateSaid : Prop := crewLateRow.holds Try.pinned (OpenSpec.ofChange crewLateSpec)

/-- ITS FALSE NEIGHBOUR: 'it returns false'. Refute it at one input. -/
def crewLateWrong : ChangeSpec := { name := "crewLate", fn := fun _ => fun
  | [d1, d2, d3, d4] => { results := [.lit (.bool false)], args := [d1, d2, d3, d4] }
  | _ => none }
def CrewLateWrongFalsely : Prop := crewLateRow.holds Try.pinned (OpenSpec.ofChange crewLateWrong)

/-- 'ballonetlaw08.CrewRested': WHATEVER THE INPUT: true; the input reads as it did. -/
def crewRestedSpec : ChangeSpec := { name := "crewRested", fn := fun _ => fun
  | [d1, d2, d3, d4] => { results := [.lit (.bool true)], args := [d1, d2, d3, d4] }
  | _ => none }
def crewRestedRow : OpenClaim := { program := "ytmlmgipngbndgaa", sum := "751b21114c9e1cbe1758d22a895d0b258bd3635bfa6a6cdc36bbb38092c5dc66", func := "ballonet/ballonetlaw08.CrewRested", spec := "crewRested", unfollowed := true, recurses := true, apart := false }
def CrewRestedSaid : Prop := crewRestedRow.holds Try.pinned (OpenSpec.ofChange crewRestedSpec)

/-- ITS FALSE NEIGHBOUR: 'it returns false'. Refute it at one input. -/
def crewRestedWrong : ChangeSpec := { name := "crewRested", fn := fun _ => fun
  | [d1, d2, d3, d4] => { results := [.lit (.bool false)], args := [d1, d2, d3, d4] }
  | _ => none }
def CrewRestedWrongFalsely : Prop := crewRestedRow.holds Try.pinned (OpenSpec.ofChange crewRestedWrong)

/-- 'ballonetlaw08.CrewSeats': WHATEVER THE INPUT: true; the input reads as it did. -/
def crewSeatsSpec : ChangeSpec := { name := "crewSeats", fn := fun _ => fun
  | [d1, d2] => { results := [.lit (.bool true)], args := [d1, d2] }
  | _ => none }
def crewSeatsRow : OpenClaim := { program := "ytmlmgipngbndgaa", sum := "751b21114c9e1cbe1758d22a895d0b258bd3635bfa6a6cdc36bbb38092c5dc66", func := "ballonet/ballonetlaw08.CrewSeats", spec := "crewSeats", unfollowed := true, recurses := true, apart := false }
def CrewSeatsSaid : Prop := crewSeatsRow.holds Try.pinned (OpenSpec.ofChange crewSeatsSpec)

/-- ITS FALSE NEIGHBOUR: 'it returns false'. Refute it at one input. -/
def crewSeatsWrong : ChangeSpec := { name := "crewSeats", fn := fun _ => fun
  | [d1, d2] => { results := [.lit (.bool false)], args := [d1, d2] }
  | _ => none }
def CrewSeatsWrongFalsely : Prop := crewSeatsRow.holds Try.pinned (OpenSpec.ofChange crewSeatsWrong)

/-- 'ballonetlaw08.CrewExamples': WHATEVER THE INPUT: true; the input reads as it did. -/
def crewExamplesSpec : ChangeSpec := { name := "crewExamples", fn := fun _ => fun
  | [] => { results := [.lit (.bool true)], args := [] }
  | _ => none }
def crewExamplesRow : OpenClaim := { program := "ytmlmgipngbndgaa", sum := "751b21114c9e1cbe1758d22a895d0b258bd3635bfa6a6cdc36bbb38092c5dc66", func := "ballonet/ballonetlaw08.CrewExamples", spec := "crewExamples", unfollowed := true, recurses := true, apart := false }
def CrewExamplesSaid : Prop := crewExamplesRow.holds Try.pinned (OpenSpec.ofChange crewExamplesSpec)

/-- ITS FALSE NEIGHBOUR: 'it returns false'. Refute it at one input. -/
def crewExamplesWrong : ChangeSpec := { name := "crewExamples", fn := fun _ => fun
  | [] => { results := [.lit (.bool false)], args := [] }
  | _ => none }
def CrewExamplesWrongFalsely : Prop := crewExamplesRow.holds Try.pinned (OpenSpec.ofChange crewExamplesWrong)

/- THE SECOND FORM. 'bulk': how many values and letters a reading holds, each counted each time it is reached (what is shared counts as often as it is met; a slice's spare places count too). A statement '..UptoSaid' is the law's where the arguments, and the package variables that the reading takes, are together of bulk at most 1048576: NARROWER than '..Said'. Prove '..Said' where nothing that the law and all that it calls make is longer than what came in: it says more and counts as full. Else prove '..UptoSaid'. A law counts once. -/
mutual
def uptoBulk {H : Type} : DataW H → Nat
  | .lit (.string bytes) => bytes.length + 1
  | .lit _ => 1
  | .nil => 1
  | .ptr d => uptoBulk d + 1
  | .slice elems spare => uptoBulkAll elems + uptoBulkAll spare + 1
  | .agg parts => uptoBulkAll parts + 1
  | .iface _ d => uptoBulk d + 1
  | .map entries => uptoBulkEntries entries + 1
  | .held _ => 1
def uptoBulkAll {H : Type} : List (DataW H) → Nat
  | [] => 0
  | d :: r => uptoBulk d + uptoBulkAll r
def uptoBulkEntries {H : Type} : List (Lit × DataW H) → Nat
  | [] => 0
  | x :: r => uptoBulkEntry x + uptoBulkEntries r
def uptoBulkEntry {H : Type} : Lit × DataW H → Nat
  | (.string bytes, d) => bytes.length + uptoBulk d + 1
  | (_, d) => uptoBulk d + 1
 end
def uptoSmall : (H : Type) → List (DataW H) → Bool := fun _ ds => decide (uptoBulkAll ds ≤ 1048576)
def OpenSpec.upto (s : _root_.Go.ChangeSpec) : _root_.Go.OpenSpec := { _root_.Go.OpenSpec.ofChange s with cond := some uptoSmall }

/-- 'ballonetlaw08.CrewTells', WHERE WHAT IT READS IS OF BULK AT MOST 1048576: true; the input reads as it did. -/
def crewTellsUptoRow : OpenClaim := { program := "ytmlmgipngbndgaa", sum := "751b21114c9e1cbe1758d22a895d0b258bd3635bfa6a6cdc36bbb38092c5dc66", func := "ballonet/ballonetlaw08.CrewTells", spec := "crewTells", unfollowed := true, recurses := true, apart := false, narrowed := true }
def CrewTellsUptoSaid : Prop := crewTellsUptoRow.holds Try.pinned (OpenSpec.upto crewTellsSpec)

/-- 'ballonetlaw08.CrewCares', WHERE WHAT IT READS IS OF BULK AT MOST 1048576: true; the input reads as it did. -/
def crewCaresUptoRow : OpenClaim := { program := "ytmlmgipngbndgaa", sum := "751b21114c9e1cbe1758d22a895d0b258bd3635bfa6a6cdc36bbb38092c5dc66", func := "ballonet/ballonetlaw08.CrewCares", spec := "crewCares", unfollowed := true, recurses := true, apart := false, narrowed := true }
def CrewCaresUptoSaid : Prop := crewCaresUptoRow.holds Try.pinned (OpenSpec.upto crewCaresSpec)

/-- 'ballonetlaw08.CrewPlays', WHERE WHAT IT READS IS OF BULK AT MOST 1048576: true; the input reads as it did. -/
def crewPlaysUptoRow : OpenClaim := { program := "ytmlmgipngbndgaa", sum := "751b21114c9e1cbe1758d22a895d0b258bd3635bfa6a6cdc36bbb38092c5dc66", func := "ballonet/ballonetlaw08.CrewPlays", spec := "crewPlays", unfollowed := true, recurses := true, apart := false, narrowed := true }
def CrewPlaysUptoSaid : Prop := crewPlaysUptoRow.holds Try.pinned (OpenSpec.upto crewPlaysSpec)

/-- 'ballonetlaw08.CrewDoes', WHERE WHAT IT READS IS OF BULK AT MOST 1048576: true; the input reads as it did. -/
def crewDoesUptoRow : OpenClaim := { program := "ytmlmgipngbndgaa", sum := "751b21114c9e1cbe1758d22a895d0b258bd3635bfa6a6cdc36bbb38092c5dc66", func := "ballonet/ballonetlaw08.CrewDoes", spec := "crewDoes", unfollowed := true, recurses := true, apart := false, narrowed := true }
def CrewDoesUptoSaid : Prop := crewDoesUptoRow.holds Try.pinned (OpenSpec.upto crewDoesSpec)

/-- 'ballonetlaw08.CrewTired', WHERE WHAT IT READS IS OF BULK AT MOST 1048576: true; the input reads as it did. -/
def crewTiredUptoRow : OpenClaim := { program := "ytmlmgipngbndgaa", sum := "751b21114c9e1cbe1758d22a895d0b258bd3635bfa6a6cdc36bbb38092c5dc66", func := "ballonet/ballonetlaw08.CrewTired", spec := "crewTired", unfollowed := true, recurses := true, apart := false, narrowed := true }
def CrewTiredUptoSaid : Prop := crewTiredUptoRow.holds Try.pinned (OpenSpec.upto crewTiredSpec)

/-- 'ballonetlaw08.CrewAssigns', WHERE WHAT IT READS IS OF BULK AT MOST 1048576: true; the input reads as it did. -/
def crewAssignsUptoRow : OpenClaim := { program := "ytmlmgipngbndgaa", sum := "751b21114c9e1cbe1758d22a895d0b258bd3635bfa6a6cdc36bbb38092c5dc66", func := "ballonet/ballonetlaw08.CrewAssigns", spec := "crewAssigns", unfollowed := true, recurses := true, apart := false, narrowed := true }
def CrewAssignsUptoSaid : Prop := crewAssignsUptoRow.holds Try.pinned (OpenSpec.upto crewAssignsSpec)

/-- 'ballonetlaw08.CrewNamed', WHERE WHAT IT READS IS OF BULK AT MOST 1048576: true; the input reads as it did. -/
def crewNamedUptoRow : OpenClaim := { program := "ytmlmgipngbndgaa", sum := "751b21114c9e1cbe1758d22a895d0b258bd3635bfa6a6cdc36bbb38092c5dc66", func := "ballonet/ballonetlaw08.CrewNamed", spec := "crewNamed", unfollowed := true, recurses := true, apart := false, narrowed := true }
def CrewNamedUptoSaid : Prop := crewNamedUptoRow.holds Try.pinned (OpenSpec.upto crewNamedSpec)

/-- 'ballonetlaw08.CrewMore', WHERE WHAT IT READS IS OF BULK AT MOST 1048576: true; the input reads as it did. -/
def crewMoreUptoRow : OpenClaim := { program := "ytmlmgipngbndgaa", sum := "751b21114c9e1cbe1758d22a895d0b258bd3635bfa6a6cdc36bbb38092c5dc66", func := "ballonet/ballonetlaw08.CrewMore", spec := "crewMore", unfollowed := true, recurses := true, apart := false, narrowed := true }
def CrewMoreUptoSaid : Prop := crewMoreUptoRow.holds Try.pinned (OpenSpec.upto crewMoreSpec)

/-- 'ballonetlaw08.CrewMoney', WHERE WHAT IT READS IS OF BULK AT MOST 1048576: true; the input reads as it did. -/
def crewMoneyUptoRow : OpenClaim := { program := "ytmlmgipngbndgaa", sum := "751b21114c9e1cbe1758d22a895d0b258bd3635bfa6a6cdc36bbb38092c5dc66", func := "ballonet/ballonetlaw08.CrewMoney", spec := "crewMoney", unfollowed := true, recurses := true, apart := false, narrowed := true }
def CrewMoneyUptoSaid : Prop := crewMoneyUptoRow.holds Try.pinned (OpenSpec.upto crewMoneySpec)

/-- 'ballonetlaw08.CrewCut', WHERE WHAT IT READS IS OF BULK AT MOST 1048576: true; the input reads as it did. -/
def crewCutUptoRow : OpenClaim := { program := "ytmlmgipngbndgaa", sum := "751b21114c9e1cbe1758d22a895d0b258bd3635bfa6a6cdc36bbb38092c5dc66", func := "ballonet/ballonetlaw08.CrewCut", spec := "crewCut", unfollowed := true, recurses := true, apart := false, narrowed := true }
def CrewCutUptoSaid : Prop := crewCutUptoRow.holds Try.pinned (OpenSpec.upto crewCutSpec)

/-- 'ballonetlaw08.CrewOff', WHERE WHAT IT READS IS OF BULK AT MOST 1048576: true; the input reads as it did. -/
def crewOffUptoRow : OpenClaim := { program := "ytmlmgipngbndgaa", sum := "751b21114c9e1cbe1758d22a895d0b258bd3635bfa6a6cdc36bbb38092c5dc66", func := "ballonet/ballonetlaw08.CrewOff", spec := "crewOff", unfollowed := true, recurses := true, apart := false, narrowed := true }
def CrewOffUptoSaid : Prop := crewOffUptoRow.holds Try.pinned (OpenSpec.upto crewOffSpec)

/-- 'ballonetlaw08.CrewInspects', WHERE WHAT IT READS IS OF BULK AT MOST 1048576: true; the input reads as it did. -/
def crewInspectsUptoRow : OpenClaim := { program := "ytmlmgipngbndgaa", sum := "751b21114c9e1cbe1758d22a895d0b258bd3635bfa6a6cdc36bbb38092c5dc66", func := "ballonet/ballonetlaw08.CrewInspects", spec := "crewInspects", unfollowed := true, recurses := true, apart := false, narrowed := true }
def CrewInspectsUptoSaid : Prop := crewInspectsUptoRow.holds Try.pinned (OpenSpec.upto crewInspectsSpec)

/-- 'ballonetlaw08.CrewLate', WHERE WHAT IT READS IS OF BULK AT MOST 1048576: true; the input reads as it did. -/
def crewLateUptoRow : OpenClaim := { program := "ytmlmgipngbndgaa", sum := "751b21114c9e1cbe1758d22a895d0b258bd3635bfa6a6cdc36bbb38092c5dc66", func := "ballonet/ballonetlaw08.CrewLate", spec := "crewLate", unfollowed := true, recurses := true, apart := false, narrowed := true }
def CrewLateUptoSaid : Prop := crewLateUptoRow.holds Try.pinned (OpenSpec.upto crewLateSpec)

/-- 'ballonetlaw08.CrewRested', WHERE WHAT IT READS IS OF BULK AT MOST 1048576: true; the input reads as it did. -/
def crewRestedUptoRow : OpenClaim := { program := "ytmlmgipngbndgaa", sum := "751b21114c9e1cbe1758d22a895d0b258bd3635bfa6a6cdc36bbb38092c5dc66", func := "ballonet/ballonetlaw08.CrewRested", spec := "crewRested", unfollowed := true, recurses := true, apart := false, narrowed := true }
def CrewRestedUptoSaid : Prop := crewRestedUptoRow.holds Try.pinned (OpenSpec.upto crewRestedSpec)

/-- 'ballonetlaw08.CrewSeats', WHERE WHAT IT READS IS OF BULK AT MOST 1048576: true; the input reads as it did. -/
def crewSeatsUptoRow : OpenClaim := { program := "ytmlmgipngbndgaa", sum := "751b21114c9e1cbe1758d22a895d0b258bd3635bfa6a6cdc36bbb38092c5dc66", func := "ballonet/ballonetlaw08.CrewSeats", spec := "crewSeats", unfollowed := true, recurses := true, apart := false, narrowed := true }
def CrewSeatsUptoSaid : Prop := crewSeatsUptoRow.holds Try.pinned (OpenSpec.upto crewSeatsSpec)

/-- 'ballonetlaw08.CrewExamples', WHERE WHAT IT READS IS OF BULK AT MOST 1048576: true; the input reads as it did. -/
def crewExamplesUptoRow : OpenClaim := { program := "ytmlmgipngbndgaa", sum := "751b21114c9e1cbe1758d22a895d0b258bd3635bfa6a6cdc36bbb38092c5dc66", func := "ballonet/ballonetlaw08.CrewExamples", spec := "crewExamples", unfollowed := true, recurses := true, apart := false, narrowed := true }
def CrewExamplesUptoSaid : Prop := crewExamplesUptoRow.holds Try.pinned (OpenSpec.upto crewExamplesSpec)

end Rows
end Go.Proofs.Ytmlmgipngbndgaa
