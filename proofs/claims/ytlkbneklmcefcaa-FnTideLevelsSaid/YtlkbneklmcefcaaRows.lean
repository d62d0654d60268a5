/-
  No cell of these rows narrows 'for every input' (looked for: loops, veiled, ifaces, maps, wideKeys, modest, calm, conditions, laid).
  DERIVED. THE GIVEN ROWS OF THIS SEAT. 11 by the template 'for every input the law returns true; each argument reads behind the call as it read before'; 0 by the template 'total and deterministic' (their statements: YtlkbneklmcefcaaTotals.lean).
  GIVEN WITH THE SEED: the statements are not yours to turn. If you find one false, say at which input.
  Laid BY PROGRAM, IN A SANDBOX (cutbox-rows.mjs): the forced cells as the released guide's own fill.sh prints them over the translation 934465940b4dafb8… (all of the seat's roots in one cut). By AI agents, Wed Nov 11 2026. No macro, syntax, notation, axiom, sorry.
-/
import Derived.Test.YtlkbneklmcefcaaChecked
import GoSem.Claim
import GoSem.ClaimJoined
import GoSem.ClaimMapViews
import Derived.JoinedTies
import Derived.KernelRfl
namespace Go.Proofs.Ytlkbneklmcefcaa
/- THE CELL 'sum', in the pinned program and in every row, IS THE sha256 OF THE DUMP (.gsa) THAT YtlkbneklmcefcaaProg.lean LOADS. Nothing in Lean hashes anything: it is a label: what it is worth is what the hold of that sum in a sandbox is worth. -/
noncomputable def Try.pinned : Pinned := { name := "ytlkbneklmcefcaa", sum := "934465940b4dafb82b49e304e9fc06373aa5f01a3f8a13cf0e2807f9ba03177d", checked := Try.checked }
namespace Rows
def none {H : Type} : Left H := { results := [], args := [] }

/-- 'laws.FnExactIsTideCurve': WHATEVER THE INPUT: true; the input reads as it did. -/
def fnExactIsTideCurveSpec : ChangeSpec := { name := "fnExactIsTideCurve", fn := fun _ => fun
  | [d] => { results := [.lit (.bool true)], args := [d] }
  | _ => none }
def fnExactIsTideCurveRow : OpenClaim := { program := "ytlkbneklmcefcaa", sum := "934465940b4dafb82b49e304e9fc06373aa5f01a3f8a13cf0e2807f9ba03177d", func := "loop.example/g01031/laws.FnExactIsTideCurve", spec := "fnExactIsTideCurve", apart := false }
def FnExactIsTideCurveSaid : Prop := fnExactIsTideCurveRow.holds Try.pinned (OpenSpec.ofChange fnExactIsTideCurveSpec)

/-- ITS FALSE NEIGHBOUR: 'it returns false'. Refute it at one input. -/
def fnExactIsTideCurveWrong : ChangeSpec := { name := "fnExactIsTideCurve", fn := fun _ => fun
  | [d] => { results := [.lit (.bool false)], args := [d] }
  | _ => none }
def FnExactIsTideCurveWrongFalsely : Prop := fnExactIsTideCurveRow.holds Try.pinned (OpenSpec.ofChange fnExactIsTideCurveWrong)

/-- 'laws.FnExactRaiseTides': WHATEVER THE INPUT: true; the input reads as it did. -/
def fnExactRaiseTidesSpec : ChangeSpec := { name := "fnExactRaiseTides", fn := fun _ => fun
  | [d1, d2] => { results := [.lit (.bool true)], args := [d1, d2] }
  | _ => none }
def fnExactRaiseTidesRow : OpenClaim := { program := "ytlkbneklmcefcaa", sum := "934465940b4dafb82b49e304e9fc06373aa5f01a3f8a13cf0e2807f9ba03177d", func := "loop.example/g01031/laws.FnExactRaiseTides", spec := "fnExactRaiseTides", apart := false }
def FnExactRaiseTidesSaid : Prop := fnExactRaiseTidesRow.holds Try.pinned (OpenSpec.ofChange fnExactRaiseTidesSpec)

/-- ITS FALSE NEIGHBOUR: 'it returns false'. Refute it at one input. -/
def fnExactRaiseTidesWrong : ChangeSpec := { name := "fnExactRaiseTides", fn := fun _ => fun
  | [d1, d2] => { results := [.lit (.bool false)], args := [d1, d2] }
  | _ => none }
def FnExactRaiseTidesWrongFalsely : Prop := fnExactRaiseTidesRow.holds Try.pinned (OpenSpec.ofChange fnExactRaiseTidesWrong)

/-- 'laws.FnExactTideGaps': WHATEVER THE INPUT: true; the input reads as it did. -/
def fnExactTideGapsSpec : ChangeSpec := { name := "fnExactTideGaps", fn := fun _ => fun
  | [d] => { results := [.lit (.bool true)], args := [d] }
  | _ => none }
def fnExactTideGapsRow : OpenClaim := { program := "ytlkbneklmcefcaa", sum := "934465940b4dafb82b49e304e9fc06373aa5f01a3f8a13cf0e2807f9ba03177d", func := "loop.example/g01031/laws.FnExactTideGaps", spec := "fnExactTideGaps", apart := false }
def FnExactTideGapsSaid : Prop := fnExactTideGapsRow.holds Try.pinned (OpenSpec.ofChange fnExactTideGapsSpec)

/-- ITS FALSE NEIGHBOUR: 'it returns false'. Refute it at one input. -/
def fnExactTideGapsWrong : ChangeSpec := { name := "fnExactTideGaps", fn := fun _ => fun
  | [d] => { results := [.lit (.bool false)], args := [d] }
  | _ => none }
def FnExactTideGapsWrongFalsely : Prop := fnExactTideGapsRow.holds Try.pinned (OpenSpec.ofChange fnExactTideGapsWrong)

/-- 'laws.FnExactReducedDepth': WHATEVER THE INPUT: true; the input reads as it did. -/
def fnExactReducedDepthSpec : ChangeSpec := { name := "fnExactReducedDepth", fn := fun _ => fun
  | [d1, d2, d3] => { results := [.lit (.bool true)], args := [d1, d2, d3] }
  | _ => none }
def fnExactReducedDepthRow : OpenClaim := { program := "ytlkbneklmcefcaa", sum := "934465940b4dafb82b49e304e9fc06373aa5f01a3f8a13cf0e2807f9ba03177d", func := "loop.example/g01031/laws.FnExactReducedDepth", spec := "fnExactReducedDepth", apart := false }
def FnExactReducedDepthSaid : Prop := fnExactReducedDepthRow.holds Try.pinned (OpenSpec.ofChange fnExactReducedDepthSpec)

/-- ITS FALSE NEIGHBOUR: 'it returns false'. Refute it at one input. -/
def fnExactReducedDepthWrong : ChangeSpec := { name := "fnExactReducedDepth", fn := fun _ => fun
  | [d1, d2, d3] => { results := [.lit (.bool false)], args := [d1, d2, d3] }
  | _ => none }
def FnExactReducedDepthWrongFalsely : Prop := fnExactReducedDepthRow.holds Try.pinned (OpenSpec.ofChange fnExactReducedDepthWrong)

/-- 'laws.FnExactLevelAt': WHATEVER THE INPUT: true; the input reads as it did. -/
def fnExactLevelAtSpec : ChangeSpec := { name := "fnExactLevelAt", fn := fun _ => fun
  | [d1, d2] => { results := [.lit (.bool true)], args := [d1, d2] }
  | _ => none }
def fnExactLevelAtRow : OpenClaim := { program := "ytlkbneklmcefcaa", sum := "934465940b4dafb82b49e304e9fc06373aa5f01a3f8a13cf0e2807f9ba03177d", func := "loop.example/g01031/laws.FnExactLevelAt", spec := "fnExactLevelAt", apart := false }
def FnExactLevelAtSaid : Prop := fnExactLevelAtRow.holds Try.pinned (OpenSpec.ofChange fnExactLevelAtSpec)

/-- ITS FALSE NEIGHBOUR: 'it returns false'. Refute it at one input. -/
def fnExactLevelAtWrong : ChangeSpec := { name := "fnExactLevelAt", fn := fun _ => fun
  | [d1, d2] => { results := [.lit (.bool false)], args := [d1, d2] }
  | _ => none }
def FnExactLevelAtWrongFalsely : Prop := fnExactLevelAtRow.holds Try.pinned (OpenSpec.ofChange fnExactLevelAtWrong)

/-- 'laws.FnExactLevelBetween': WHATEVER THE INPUT: true; the input reads as it did. -/
def fnExactLevelBetweenSpec : ChangeSpec := { name := "fnExactLevelBetween", fn := fun _ => fun
  | [d1, d2, d3, d4, d5] => { results := [.lit (.bool true)], args := [d1, d2, d3, d4, d5] }
  | _ => none }
def fnExactLevelBetweenRow : OpenClaim := { program := "ytlkbneklmcefcaa", sum := "934465940b4dafb82b49e304e9fc06373aa5f01a3f8a13cf0e2807f9ba03177d", func := "loop.example/g01031/laws.FnExactLevelBetween", spec := "fnExactLevelBetween", apart := false }
def FnExactLevelBetweenSaid : Prop := fnExactLevelBetweenRow.holds Try.pinned (OpenSpec.ofChange fnExactLevelBetweenSpec)

/-- ITS FALSE NEIGHBOUR: 'it returns false'. Refute it at one input. -/
def fnExactLevelBetweenWrong : ChangeSpec := { name := "fnExactLevelBetween", fn := fun _ => fun
  | [d1, d2, d3, d4, d5] => { results := [.lit (.bool false)], args := [d1, d2, d3, d4, d5] }
  | _ => none }
def FnExactLevelBetweenWrongFalsely : Prop := fnExactLevelBetweenRow.holds Try.pinned (OpenSpec.ofChange fnExactLevelBetweenWrong)

/-- 'laws.FnExactFirstMinuteWith': WHATEVER THE INPUT: true; the input reads as it did. -/
def fnExactFirstMinuteWithSpec : ChangeSpec := { name := "fnExactFirstMinuteWith", fn := fun _ => fun
  | [d1, d2, d3] => { results := [.lit (.bool true)], args := [d1, d2, d3] }
  | _ => none }
def fnExactFirstMinuteWithRow : OpenClaim := { program := "ytlkbneklmcefcaa", sum := "934465940b4dafb82b49e304e9fc06373aa5f01a3f8a13cf0e2807f9ba03177d", func := "loop.example/g01031/laws.FnExactFirstMinuteWith", spec := "fnExactFirstMinuteWith", apart := false }
def FnExactFirstMinuteWithSaid : Prop := fnExactFirstMinuteWithRow.holds Try.pinned (OpenSpec.ofChange fnExactFirstMinuteWithSpec)

/-- ITS FALSE NEIGHBOUR: 'it returns false'. Refute it at one input. -/
def fnExactFirstMinuteWithWrong : ChangeSpec := { name := "fnExactFirstMinuteWith", fn := fun _ => fun
  | [d1, d2, d3] => { results := [.lit (.bool false)], args := [d1, d2, d3] }
  | _ => none }
def FnExactFirstMinuteWithWrongFalsely : Prop := fnExactFirstMinuteWithRow.holds Try.pinned (OpenSpec.ofChange fnExactFirstMinuteWithWrong)

/-- 'laws.FnExactMinutesWith': WHATEVER THE INPUT: true; the input reads as it did. -/
def fnExactMinutesWithSpec : ChangeSpec := { name := "fnExactMinutesWith", fn := fun _ => fun
  | [d1, d2, d3, d4] => { results := [.lit (.bool true)], args := [d1, d2, d3, d4] }
  | _ => none }
def fnExactMinutesWithRow : OpenClaim := { program := "ytlkbneklmcefcaa", sum := "934465940b4dafb82b49e304e9fc06373aa5f01a3f8a13cf0e2807f9ba03177d", func := "loop.example/g01031/laws.FnExactMinutesWith", spec := "fnExactMinutesWith", apart := false }
def FnExactMinutesWithSaid : Prop := fnExactMinutesWithRow.holds Try.pinned (OpenSpec.ofChange fnExactMinutesWithSpec)

/-- ITS FALSE NEIGHBOUR: 'it returns false'. Refute it at one input. -/
def fnExactMinutesWithWrong : ChangeSpec := { name := "fnExactMinutesWith", fn := fun _ => fun
  | [d1, d2, d3, d4] => { results := [.lit (.bool false)], args := [d1, d2, d3, d4] }
  | _ => none }
def FnExactMinutesWithWrongFalsely : Prop := fnExactMinutesWithRow.holds Try.pinned (OpenSpec.ofChange fnExactMinutesWithWrong)

/-- 'laws.FnExactHighestLevel': WHATEVER THE INPUT: true; the input reads as it did. -/
def fnExactHighestLevelSpec : ChangeSpec := { name := "fnExactHighestLevel", fn := fun _ => fun
  | [d1, d2, d3] => { results := [.lit (.bool true)], args := [d1, d2, d3] }
  | _ => none }
def fnExactHighestLevelRow : OpenClaim := { program := "ytlkbneklmcefcaa", sum := "934465940b4dafb82b49e304e9fc06373aa5f01a3f8a13cf0e2807f9ba03177d", func := "loop.example/g01031/laws.FnExactHighestLevel", spec := "fnExactHighestLevel", apart := false }
def FnExactHighestLevelSaid : Prop := fnExactHighestLevelRow.holds Try.pinned (OpenSpec.ofChange fnExactHighestLevelSpec)

/-- ITS FALSE NEIGHBOUR: 'it returns false'. Refute it at one input. -/
def fnExactHighestLevelWrong : ChangeSpec := { name := "fnExactHighestLevel", fn := fun _ => fun
  | [d1, d2, d3] => { results := [.lit (.bool false)], args := [d1, d2, d3] }
  | _ => none }
def FnExactHighestLevelWrongFalsely : Prop := fnExactHighestLevelRow.holds Try.pinned (OpenSpec.ofChange fnExactHighestLevelWrong)

/-- 'laws.FnTideLevels': WHATEVER THE INPUT: true; the input reads as it did. -/
def fnTideLevelsSpec : ChangeSpec := { name := "fnTideLevels", fn := fun _ => fun
  | [d] => { results := [.lit (.bool true)], args := [d] }
  | _ => none }
def fnTideLevelsRow : OpenClaim := { program := "ytlkbneklmcefcaa", sum := "934465940b4dafb82b49e304e9fc06373aa5f01a3f8a13cf0e2807f9ba03177d", func := "loop.example/g01031/laws.FnTideLevels", spec := "fnTideLevels", apart := false }
def FnTideLevelsSaid : Prop := fnTideLevelsRow.holds Try.pinned (OpenSpec.ofChange fnTideLevelsSpec)

/-- ITS FALSE NEIGHBOUR: 'it returns false'. Refute it at one input. -/
def fnTideLevelsWrong : ChangeSpec := { name := "fnTideLevels", fn := fun _ => fun
  | [d] => { results := [.lit (.bool false)], args := [d] }
  | _ => none }
def FnTideLevelsWrongFalsely : Prop := fnTideLevelsRow.holds Try.pinned (OpenSpec.ofChange fnTideLevelsWrong)

/-- 'laws.FnHighWaters': WHATEVER THE INPUT: true; the input reads as it did. -/
def fnHighWatersSpec : ChangeSpec := { name := "fnHighWaters", fn := fun _ => fun
  | [d] => { results := [.lit (.bool true)], args := [d] }
  | _ => none }
def fnHighWatersRow : OpenClaim := { program := "ytlkbneklmcefcaa", sum := "934465940b4dafb82b49e304e9fc06373aa5f01a3f8a13cf0e2807f9ba03177d", func := "loop.example/g01031/laws.FnHighWaters", spec := "fnHighWaters", apart := false }
def FnHighWatersSaid : Prop := fnHighWatersRow.holds Try.pinned (OpenSpec.ofChange fnHighWatersSpec)

/-- ITS FALSE NEIGHBOUR: 'it returns false'. Refute it at one input. -/
def fnHighWatersWrong : ChangeSpec := { name := "fnHighWaters", fn := fun _ => fun
  | [d] => { results := [.lit (.bool false)], args := [d] }
  | _ => none }
def FnHighWatersWrongFalsely : Prop := fnHighWatersRow.holds Try.pinned (OpenSpec.ofChange fnHighWatersWrong)

/- THE SECOND FORM. 'bulk': how many values and letters a reading holds, each counted each time it is reached (what is shared counts as often as it is met; a slice's spare places count too). A statement '..UptoSaid' is the law's where the arguments, and the package variables that the reading takes, are together of bulk at most 1048576: NARROWER than '..Said'. Prove '..Said' where nothing that the law and all that it calls make is longer than what came in: it says more and counts as full. Else prove '..UptoSaid'. A law counts once. -/
mutual
def uptoBulk {H : Type} : DataW H → Nat
  | .lit (.string bytes) => bytes.length + 1
  | .lit _ => 1
  | .nil => 1
  | .ptr d => uptoBulk d + 1
  | .slice elems spare => uptoBulkAll elems + uptoBulkAll spare + 1
  | .agg parts => uptoBulkAll parts + 1
  | .iface _ d => uptoBulk d + 1
  | .map entries => uptoBulkEntries entries + 1
  | .held _ => 1
def uptoBulkAll {H : Type} : List (DataW H) → Nat
  | [] => 0
  | d :: r => uptoBulk d + uptoBulkAll r
def uptoBulkEntries {H : Type} : List (Lit × DataW H) → Nat
  | [] => 0
  | x :: r => uptoBulkEntry x + uptoBulkEntries r
def uptoBulkEntry {H : Type} : Lit × DataW H → Nat
  | (.string bytes, d) => bytes.length + uptoBulk d + 1
  | (_, d) => uptoBulk d + 1
 end
def uptoSmall : (H : Type) → List (DataW H) → Bool := fun _ ds => decide (uptoBulkAll ds ≤ 1048576)
def OpenSpec.upto (s : _root_.Go.ChangeSpec) : _root_.Go.OpenSpec := { _root_.Go.OpenSpec.ofChange s with cond := some uptoSmall }

/-- 'laws.FnExactIsTideCurve', WHERE WHAT IT READS IS OF BULK AT MOST 1048576: true; the input reads as it did. -/
def fnExactIsTideCurveUptoRow : OpenClaim := { program := "ytlkbneklmcefcaa", sum := "934465940b4dafb82b49e304e9fc06373aa5f01a3f8a13cf0e2807f9ba03177d", func := "loop.example/g01031/laws.FnExactIsTideCurve", spec := "fnExactIsTideCurve", apart := false, narrowed := true }
def FnExactIsTideCurveUptoSaid : Prop := fnExactIsTideCurveUptoRow.holds Try.pinned (OpenSpec.upto fnExactIsTideCurveSpec)

/-- 'laws.FnExactRaiseTides', WHERE WHAT IT READS IS OF BULK AT MOST 1048576: true; the input reads as it did. -/
def fnExactRaiseTidesUptoRow : OpenClaim := { program := "ytlkbneklmcefcaa", sum := "934465940b4dafb82b49e304e9fc06373aa5f01a3f8a13cf0e2807f9ba03177d", func := "loop.example/g01031/laws.FnExactRaiseTides", spec := "fnExactRaiseTides", apart := false, narrowed := true }
def FnExactRaiseTidesUptoSaid : Prop := fnExactRaiseTidesUptoRow.holds Try.pinned (OpenSpec.upto fnExactRaiseTidesSpec)

/-- 'laws.FnExactTideGaps', WHERE WHAT IT READS IS OF BULK AT MOST 1048576: true; the input reads as it did. -/
def fnExactTideGapsUptoRow : OpenClaim := { program := "ytlkbneklmcefcaa", sum := "934465940b4dafb82b49e304e9fc06373aa5f01a3f8a13cf0e2807f9ba03177d", func := "loop.example/g01031/laws.FnExactTideGaps", spec := "fnExactTideGaps", apart := false, narrowed := true }
def FnExactTideGapsUptoSaid : Prop := fnExactTideGapsUptoRow.holds Try.pinned (OpenSpec.upto fnExactTideGapsSpec)

/-- 'laws.FnExactReducedDepth', WHERE WHAT IT READS IS OF BULK AT MOST 1048576: true; the input reads as it did. -/
def fnExactReducedDepthUptoRow : OpenClaim := { program := "ytlkbneklmcefcaa", sum := "934465940b4dafb82b49e304e9fc06373aa5f01a3f8a13cf0e2807f9ba03177d", func := "loop.example/g01031/laws.FnExactReducedDepth", spec := "fnExactReducedDepth", apart := false, narrowed := true }
def FnExactReducedDepthUptoSaid : Prop := fnExactReducedDepthUptoRow.holds Try.pinned (OpenSpec.upto fnExactReducedDepthSpec)

/-- 'laws.FnExactLevelAt', WHERE WHAT IT READS IS OF BULK AT MOST 1048576: true; the input reads as it did. -/
def fnExactLevelAtUptoRow : OpenClaim := { program := "ytlkbneklmcefcaa", sum := "934465940b4dafb82b49e304e9fc06373aa5f01a3f8a13cf0e2807f9ba03177d", func := "loop.example/g01031/laws.FnExactLevelAt", spec := "fnExactLevelAt", apart := false, narrowed := true }
def FnExactLevelAtUptoSaid : Prop := fnExactLevelAtUptoRow.holds Try.pinned (OpenSpec.upto fnExactLevelAtSpec)

/-- 'laws.FnExactLevelBetween', WHERE WHAT IT READS IS OF BULK AT MOST 1048576: true; the input reads as it did. -/
def fnExactLevelBetweenUptoRow : OpenClaim := { program := "ytlkbneklmcefcaa", sum := "934465940b4dafb82b49e304e9fc06373aa5f01a3f8a13cf0e2807f9ba03177d", func := "loop.example/g01031/laws.FnExactLevelBetween", spec := "fnExactLevelBetween", apart := false, narrowed := true }
def FnExactLevelBetweenUptoSaid : Prop := fnExactLevelBetweenUptoRow.holds Try.pinned (OpenSpec.upto fnExactLevelBetweenSpec)

/-- 'laws.FnExactFirstMinuteWith', WHERE WHAT IT READS IS OF BULK AT MOST 1048576: true; the input reads as it did. -/
def fnExactFirstMinuteWithUptoRow : OpenClaim := { program := "ytlkbneklmcefcaa", sum := "934465940b4dafb82b49e304e9fc06373aa5f01a3f8a13cf0e2807f9ba03177d", func := "loop.example/g01031/laws.FnExactFirstMinuteWith", spec := "fnExactFirstMinuteWith", apart := false, narrowed := true }
def FnExactFirstMinuteWithUptoSaid : Prop := fnExactFirstMinuteWithUptoRow.holds Try.pinned (OpenSpec.upto fnExactFirstMinuteWithSpec)

/-- 'laws.FnExactMinutesWith', WHERE WHAT IT READS IS OF BULK AT MOST 1048576: true; the input reads as it did. -/
def fnExactMinutesWithUptoRow : OpenClaim := { program := "ytlkbneklmcefcaa", sum := "934465940b4dafb82b49e304e9fc06373aa5f01a3f8a13cf0e2807f9ba03177d", func := "loop.example/g01031/laws.FnExactMinutesWith", spec := "fnExactMinutesWith", apart := false, narrowed := true }
def FnExactMinutesWithUptoSaid : Prop := fnExactMinutesWithUptoRow.holds Try.pinned (OpenSpec.upto fnExactMinutesWithSpec)

/-- 'laws.FnExactHighestLevel', WHERE WHAT IT READS IS OF BULK AT MOST 1048576: true; the input reads as it did. -/
def fnExactHighestLevelUptoRow : OpenClaim := { program := "ytlkbneklmcefcaa", sum := "934465940b4dafb82b49e304e9fc06373aa5f01a3f8a13cf0e2807f9ba03177d", func := "loop.example/g01031/laws.FnExactHighestLevel", spec := "fnExactHighestLevel", apart := false, narrowed := true }
def FnExactHighestLevelUptoSaid : Prop := fnExactHighestLevelUptoRow.holds Try.pinned (OpenSpec.upto fnExactHighestLevelSpec)

/-- 'laws.FnTideLevels', WHERE WHAT IT READS IS OF BULK AT MOST 1048576: true; the input reads as it did. -/
def fnTideLevelsUptoRow : OpenClaim := { program := "ytlkbneklmcefcaa", sum := "934465940b4dafb82b49e304e9fc06373aa5f01a3f8a13cf0e2807f9ba03177d", func := "loop.example/g01031/laws.FnTideLevels", spec := "fnTideLevels", apart := false, narrowed := true }
def FnTideLevelsUptoSaid : Prop := fnTideLevelsUptoRow.holds Try.pinned (OpenSpec.upto fnTideLevelsSpec)

/-- 'laws.FnHighWaters', WHERE WHAT IT READS IS OF BULK AT MOST 1048576: true; the input reads as it did. -/
def fnHighWatersUptoRow : OpenClaim := { program := "ytlkbneklmcefcaa", sum := "934465940b4dafb82b49e304e9fc06373aa5f01a3f8a13cf0e2807f9ba03177d", func := "loop.example/g01031/laws.FnHighWaters", spec := "fnHighWaters", apart := false, narrowed := true }
def FnHighWatersUptoSaid : Prop := fnHighWatersUptoRow.holds Try.pinned (OpenSpec.upto fnHighWatersSpec)

end Rows
end Go.Proofs.Ytlkbneklmcefcaa
