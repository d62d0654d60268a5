/-
  No cell of these rows narrows 'for every input' (looked for: loops, veiled, ifaces, maps, wideKeys, modest, calm, conditions, laid).
  DERIVED. THE GIVEN ROWS OF THIS SEAT. 9 by the template 'for every input the law returns true; each argument reads behind the call as it read before'; 0 by the template 'total and deterministic' (their statements: YtnkofjfcioaaaaaTotals.lean).
  GIVEN WITH THE SEED: the statements are not yours to turn. If you find one false, say at which input.
  Laid BY PROGRAM, IN A SANDBOX (cutbox-rows.mjs): the forced cells as the released guide's own fill.sh prints them over the translation 383505ffdcff85b2… (all of the seat's roots in one cut). By AI agents, Wed Nov 11 2026. No macro, syntax, notation, axiom, sorry.
-/
import Derived.Test.YtnkofjfcioaaaaaChecked
import GoSem.Claim
import GoSem.ClaimJoined
import GoSem.ClaimMapViews
import Derived.JoinedTies
import Derived.KernelRfl
namespace Go.Proofs.Ytnkofjfcioaaaaa
/- THE CELL 'sum', in the pinned program and in every row, IS THE sha256 OF THE DUMP (.gsa) THAT YtnkofjfcioaaaaaProg.lean LOADS. Nothing in Lean hashes anything: it is a label: what it is worth is what the hold of that sum in a sandbox is worth. -/
noncomputable def Try.pinned : Pinned := { name := "ytnkofjfcioaaaaa", sum := "383505ffdcff85b230b452ff05ec39710978b3331b12b88044fa1b658c7811f9", checked := Try.checked }
namespace Rows
def none {H : Type} : Left H := { results := [], args := [] }

/-- 'laws.FnExactTurnOf': WHATEVER THE INPUT: true; the input reads as it did. -/
def fnExactTurnOfSpec : ChangeSpec := { name := "fnExactTurnOf", fn := fun _ => fun
  | [d1, d2, d3] => { results := [.lit (.bool true)], args := [d1, d2, d3] }
  | _ => none }
def fnExactTurnOfRow : OpenClaim := { program := "ytnkofjfcioaaaaa", sum := "383505ffdcff85b230b452ff05ec39710978b3331b12b88044fa1b658c7811f9", func := "loop.example/g01031/laws.FnExactTurnOf", spec := "fnExactTurnOf", apart := false }
def FnExactTurnOfSaid : Prop := fnExactTurnOfRow.holds Try.pinned (OpenSpec.ofChange fnExactTurnOfSpec)

/-- ITS FALSE NEIGHBOUR: 'it returns false'. Refute it at one input. -/
def fnExactTurnOfWrong : ChangeSpec := { name := "fnExactTurnOf", fn := fun _ => fun
  | [d1, d2, d3] => { results := [.lit (.bool false)], args := [d1, d2, d3] }
  | _ => none }
def FnExactTurnOfWrongFalsely : Prop := fnExactTurnOfRow.holds Try.pinned (OpenSpec.ofChange fnExactTurnOfWrong)

/-- 'laws.FnExactLengthBetween': WHATEVER THE INPUT: true; the input reads as it did. -/
def fnExactLengthBetweenSpec : ChangeSpec := { name := "fnExactLengthBetween", fn := fun _ => fun
  | [d1, d2] => { results := [.lit (.bool true)], args := [d1, d2] }
  | _ => none }
def fnExactLengthBetweenRow : OpenClaim := { program := "ytnkofjfcioaaaaa", sum := "383505ffdcff85b230b452ff05ec39710978b3331b12b88044fa1b658c7811f9", func := "loop.example/g01031/laws.FnExactLengthBetween", spec := "fnExactLengthBetween", apart := false }
def FnExactLengthBetweenSaid : Prop := fnExactLengthBetweenRow.holds Try.pinned (OpenSpec.ofChange fnExactLengthBetweenSpec)

/-- ITS FALSE NEIGHBOUR: 'it returns false'. Refute it at one input. -/
def fnExactLengthBetweenWrong : ChangeSpec := { name := "fnExactLengthBetween", fn := fun _ => fun
  | [d1, d2] => { results := [.lit (.bool false)], args := [d1, d2] }
  | _ => none }
def FnExactLengthBetweenWrongFalsely : Prop := fnExactLengthBetweenRow.holds Try.pinned (OpenSpec.ofChange fnExactLengthBetweenWrong)

/-- 'laws.FnExactSharedBox': WHATEVER THE INPUT: true; the input reads as it did. -/
def fnExactSharedBoxSpec : ChangeSpec := { name := "fnExactSharedBox", fn := fun _ => fun
  | [d1, d2] => { results := [.lit (.bool true)], args := [d1, d2] }
  | _ => none }
def fnExactSharedBoxRow : OpenClaim := { program := "ytnkofjfcioaaaaa", sum := "383505ffdcff85b230b452ff05ec39710978b3331b12b88044fa1b658c7811f9", func := "loop.example/g01031/laws.FnExactSharedBox", spec := "fnExactSharedBox", apart := false }
def FnExactSharedBoxSaid : Prop := fnExactSharedBoxRow.holds Try.pinned (OpenSpec.ofChange fnExactSharedBoxSpec)

/-- ITS FALSE NEIGHBOUR: 'it returns false'. Refute it at one input. -/
def fnExactSharedBoxWrong : ChangeSpec := { name := "fnExactSharedBox", fn := fun _ => fun
  | [d1, d2] => { results := [.lit (.bool false)], args := [d1, d2] }
  | _ => none }
def FnExactSharedBoxWrongFalsely : Prop := fnExactSharedBoxRow.holds Try.pinned (OpenSpec.ofChange fnExactSharedBoxWrong)

/-- 'laws.FnExactAreSpots': WHATEVER THE INPUT: true; the input reads as it did. -/
def fnExactAreSpotsSpec : ChangeSpec := { name := "fnExactAreSpots", fn := fun _ => fun
  | [d] => { results := [.lit (.bool true)], args := [d] }
  | _ => none }
def fnExactAreSpotsRow : OpenClaim := { program := "ytnkofjfcioaaaaa", sum := "383505ffdcff85b230b452ff05ec39710978b3331b12b88044fa1b658c7811f9", func := "loop.example/g01031/laws.FnExactAreSpots", spec := "fnExactAreSpots", apart := false }
def FnExactAreSpotsSaid : Prop := fnExactAreSpotsRow.holds Try.pinned (OpenSpec.ofChange fnExactAreSpotsSpec)

/-- ITS FALSE NEIGHBOUR: 'it returns false'. Refute it at one input. -/
def fnExactAreSpotsWrong : ChangeSpec := { name := "fnExactAreSpots", fn := fun _ => fun
  | [d] => { results := [.lit (.bool false)], args := [d] }
  | _ => none }
def FnExactAreSpotsWrongFalsely : Prop := fnExactAreSpotsRow.holds Try.pinned (OpenSpec.ofChange fnExactAreSpotsWrong)

/-- 'laws.FnExactNearestSpot': WHATEVER THE INPUT: true; the input reads as it did. -/
def fnExactNearestSpotSpec : ChangeSpec := { name := "fnExactNearestSpot", fn := fun _ => fun
  | [d1, d2] => { results := [.lit (.bool true)], args := [d1, d2] }
  | _ => none }
def fnExactNearestSpotRow : OpenClaim := { program := "ytnkofjfcioaaaaa", sum := "383505ffdcff85b230b452ff05ec39710978b3331b12b88044fa1b658c7811f9", func := "loop.example/g01031/laws.FnExactNearestSpot", spec := "fnExactNearestSpot", apart := false }
def FnExactNearestSpotSaid : Prop := fnExactNearestSpotRow.holds Try.pinned (OpenSpec.ofChange fnExactNearestSpotSpec)

/-- ITS FALSE NEIGHBOUR: 'it returns false'. Refute it at one input. -/
def fnExactNearestSpotWrong : ChangeSpec := { name := "fnExactNearestSpot", fn := fun _ => fun
  | [d1, d2] => { results := [.lit (.bool false)], args := [d1, d2] }
  | _ => none }
def FnExactNearestSpotWrongFalsely : Prop := fnExactNearestSpotRow.holds Try.pinned (OpenSpec.ofChange fnExactNearestSpotWrong)

/-- 'laws.FnExactBoxOf': WHATEVER THE INPUT: true; the input reads as it did. -/
def fnExactBoxOfSpec : ChangeSpec := { name := "fnExactBoxOf", fn := fun _ => fun
  | [d] => { results := [.lit (.bool true)], args := [d] }
  | _ => none }
def fnExactBoxOfRow : OpenClaim := { program := "ytnkofjfcioaaaaa", sum := "383505ffdcff85b230b452ff05ec39710978b3331b12b88044fa1b658c7811f9", func := "loop.example/g01031/laws.FnExactBoxOf", spec := "fnExactBoxOf", apart := false }
def FnExactBoxOfSaid : Prop := fnExactBoxOfRow.holds Try.pinned (OpenSpec.ofChange fnExactBoxOfSpec)

/-- ITS FALSE NEIGHBOUR: 'it returns false'. Refute it at one input. -/
def fnExactBoxOfWrong : ChangeSpec := { name := "fnExactBoxOf", fn := fun _ => fun
  | [d] => { results := [.lit (.bool false)], args := [d] }
  | _ => none }
def FnExactBoxOfWrongFalsely : Prop := fnExactBoxOfRow.holds Try.pinned (OpenSpec.ofChange fnExactBoxOfWrong)

/-- 'laws.FnExactSpotsIn': WHATEVER THE INPUT: true; the input reads as it did. -/
def fnExactSpotsInSpec : ChangeSpec := { name := "fnExactSpotsIn", fn := fun _ => fun
  | [d1, d2] => { results := [.lit (.bool true)], args := [d1, d2] }
  | _ => none }
def fnExactSpotsInRow : OpenClaim := { program := "ytnkofjfcioaaaaa", sum := "383505ffdcff85b230b452ff05ec39710978b3331b12b88044fa1b658c7811f9", func := "loop.example/g01031/laws.FnExactSpotsIn", spec := "fnExactSpotsIn", apart := false }
def FnExactSpotsInSaid : Prop := fnExactSpotsInRow.holds Try.pinned (OpenSpec.ofChange fnExactSpotsInSpec)

/-- ITS FALSE NEIGHBOUR: 'it returns false'. Refute it at one input. -/
def fnExactSpotsInWrong : ChangeSpec := { name := "fnExactSpotsIn", fn := fun _ => fun
  | [d1, d2] => { results := [.lit (.bool false)], args := [d1, d2] }
  | _ => none }
def FnExactSpotsInWrongFalsely : Prop := fnExactSpotsInRow.holds Try.pinned (OpenSpec.ofChange fnExactSpotsInWrong)

/-- 'laws.FnBoxes': WHATEVER THE INPUT: true; the input reads as it did. -/
def fnBoxesSpec : ChangeSpec := { name := "fnBoxes", fn := fun _ => fun
  | [d] => { results := [.lit (.bool true)], args := [d] }
  | _ => none }
def fnBoxesRow : OpenClaim := { program := "ytnkofjfcioaaaaa", sum := "383505ffdcff85b230b452ff05ec39710978b3331b12b88044fa1b658c7811f9", func := "loop.example/g01031/laws.FnBoxes", spec := "fnBoxes", apart := false }
def FnBoxesSaid : Prop := fnBoxesRow.holds Try.pinned (OpenSpec.ofChange fnBoxesSpec)

/-- ITS FALSE NEIGHBOUR: 'it returns false'. Refute it at one input. -/
def fnBoxesWrong : ChangeSpec := { name := "fnBoxes", fn := fun _ => fun
  | [d] => { results := [.lit (.bool false)], args := [d] }
  | _ => none }
def FnBoxesWrongFalsely : Prop := fnBoxesRow.holds Try.pinned (OpenSpec.ofChange fnBoxesWrong)

/-- 'laws.FnSpots': WHATEVER THE INPUT: true; the input reads as it did. -/
def fnSpotsSpec : ChangeSpec := { name := "fnSpots", fn := fun _ => fun
  | [d] => { results := [.lit (.bool true)], args := [d] }
  | _ => none }
def fnSpotsRow : OpenClaim := { program := "ytnkofjfcioaaaaa", sum := "383505ffdcff85b230b452ff05ec39710978b3331b12b88044fa1b658c7811f9", func := "loop.example/g01031/laws.FnSpots", spec := "fnSpots", apart := false }
def FnSpotsSaid : Prop := fnSpotsRow.holds Try.pinned (OpenSpec.ofChange fnSpotsSpec)

/-- ITS FALSE NEIGHBOUR: 'it returns false'. Refute it at one input. -/
def fnSpotsWrong : ChangeSpec := { name := "fnSpots", fn := fun _ => fun
  | [d] => { results := [.lit (.bool false)], args := [d] }
  | _ => none }
def FnSpotsWrongFalsely : Prop := fnSpotsRow.holds Try.pinned (OpenSpec.ofChange fnSpotsWrong)

/- THE SECOND FORM. 'bulk': how many values and letters a reading holds, each counted each time it is reached (what is shared counts as often as it is met; a slice's spare places count too). A statement '..UptoSaid' is the law's where the arguments, and the package variables that the reading takes, are together of bulk at most 1048576: NARROWER than '..Said'. Prove '..Said' where nothing that the law and all that it calls make is longer than what came in: it says more and counts as full. Else prove '..UptoSaid'. A law counts once. -/
mutual
def uptoBulk {H : Type} : DataW H → Nat
  | .lit (.string bytes) => bytes.length + 1
  | .lit _ => 1
  | .nil => 1
  | .ptr d => uptoBulk d + 1
  | .slice elems spare => uptoBulkAll elems + uptoBulkAll spare + 1
  | .agg parts => uptoBulkAll parts + 1
  | .iface _ d => uptoBulk d + 1
  | .map entries => uptoBulkEntries entries + 1
  | .held _ => 1
def uptoBulkAll {H : Type} : List (DataW H) → Nat
  | [] => 0
  | d :: r => uptoBulk d + uptoBulkAll r
def uptoBulkEntries {H : Type} : List (Lit × DataW H) → Nat
  | [] => 0
  | x :: r => uptoBulkEntry x + uptoBulkEntries r
def uptoBulkEntry {H : Type} : Lit × DataW H → Nat
  | (.string bytes, d) => bytes.length + uptoBulk d + 1
  | (_, d) => uptoBulk d + 1
 end
def uptoSmall : (H : Type) → List (DataW H) → Bool := fun _ ds => decide (uptoBulkAll ds ≤ 1048576)
def OpenSpec.upto (s : _root_.Go.ChangeSpec) : _root_.Go.OpenSpec := { _root_.Go.OpenSpec.ofChange s with cond := some uptoSmall }

/-- 'laws.FnExactTurnOf', WHERE WHAT IT READS IS OF BULK AT MOST 1048576: true; the input reads as it did. -/
def fnExactTurnOfUptoRow : OpenClaim := { program := "ytnkofjfcioaaaaa", sum := "383505ffdcff85b230b452ff05ec39710978b3331b12b88044fa1b658c7811f9", func := "loop.example/g01031/laws.FnExactTurnOf", spec := "fnExactTurnOf", apart := false, narrowed := true }
def FnExactTurnOfUptoSaid : Prop := fnExactTurnOfUptoRow.holds Try.pinned (OpenSpec.upto fnExactTurnOfSpec)

/-- 'laws.FnExactLengthBetween', WHERE WHAT IT READS IS OF BULK AT MOST 1048576: true; the input reads as it did. -/
def fnExactLengthBetweenUptoRow : OpenClaim := { program := "ytnkofjfcioaaaaa", sum := "383505ffdcff85b230b452ff05ec39710978b3331b12b88044fa1b658c7811f9", func := "loop.example/g01031/laws.FnExactLengthBetween", spec := "fnExactLengthBetween", apart := false, narrowed := true }
def FnExactLengthBetweenUptoSaid : Prop := fnExactLengthBetweenUptoRow.holds Try.pinned (OpenSpec.upto fnExactLengthBetweenSpec)

/-- 'laws.FnExactSharedBox', WHERE WHAT IT READS IS OF BULK AT MOST 1048576: true; the input reads as it did. -/
def fnExactSharedBoxUptoRow : OpenClaim := { program := "ytnkofjfcioaaaaa", sum := "383505ffdcff85b230b452ff05ec39710978b3331b12b88044fa1b658c7811f9", func := "loop.example/g01031/laws.FnExactSharedBox", spec := "fnExactSharedBox", apart := false, narrowed := true }
def FnExactSharedBoxUptoSaid : Prop := fnExactSharedBoxUptoRow.holds Try.pinned (OpenSpec.upto fnExactSharedBoxSpec)

/-- 'laws.FnExactAreSpots', WHERE WHAT IT READS IS OF BULK AT MOST 1048576: true; the input reads as it did. -/
def fnExactAreSpotsUptoRow : OpenClaim := { program := "ytnkofjfcioaaaaa", sum := "383505ffdcff85b230b452ff05ec39710978b3331b12b88044fa1b658c7811f9", func := "loop.example/g01031/laws.FnExactAreSpots", spec := "fnExactAreSpots", apart := false, narrowed := true }
def FnExactAreSpotsUptoSaid : Prop := fnExactAreSpotsUptoRow.holds Try.pinned (OpenSpec.upto fnExactAreSpotsSpec)

/-- 'laws.FnExactNearestSpot', WHERE WHAT IT READS IS OF BULK AT MOST 1048576: true; the input reads as it did. -/
def fnExactNearestSpotUptoRow : OpenClaim := { program := "ytnkofjfcioaaaaa", sum := "383505ffdcff85b230b452ff05ec39710978b3331b12b88044fa1b658c7811f9", func := "loop.example/g01031/laws.FnExactNearestSpot", spec := "fnExactNearestSpot", apart := false, narrowed := true }
def FnExactNearestSpotUptoSaid : Prop := fnExactNearestSpotUptoRow.holds Try.pinned (OpenSpec.upto fnExactNearestSpotSpec)

/-- 'laws.FnExactBoxOf', WHERE WHAT IT READS IS OF BULK AT MOST 1048576: true; the input reads as it did. -/
def fnExactBoxOfUptoRow : OpenClaim := { program := "ytnkofjfcioaaaaa", sum := "383505ffdcff85b230b452ff05ec39710978b3331b12b88044fa1b658c7811f9", func := "loop.example/g01031/laws.FnExactBoxOf", spec := "fnExactBoxOf", apart := false, narrowed := true }
def FnExactBoxOfUptoSaid : Prop := fnExactBoxOfUptoRow.holds Try.pinned (OpenSpec.upto fnExactBoxOfSpec)

/-- 'laws.FnExactSpotsIn', WHERE WHAT IT READS IS OF BULK AT MOST 1048576: true; the input reads as it did. -/
def fnExactSpotsInUptoRow : OpenClaim := { program := "ytnkofjfcioaaaaa", sum := "383505ffdcff85b230b452ff05ec39710978b3331b12b88044fa1b658c7811f9", func := "loop.example/g01031/laws.FnExactSpotsIn", spec := "fnExactSpotsIn", apart := false, narrowed := true }
def FnExactSpotsInUptoSaid : Prop := fnExactSpotsInUptoRow.holds Try.pinned (OpenSpec.upto fnExactSpotsInSpec)

/-- 'laws.FnBoxes', WHERE WHAT IT READS IS OF BULK AT MOST 1048576: true; the input reads as it did. -/
def fnBoxesUptoRow : OpenClaim := { program := "ytnkofjfcioaaaaa", sum := "383505ffdcff85b230b452ff05ec39710978b3331b12b88044fa1b658c7811f9", func := "loop.example/g01031/laws.FnBoxes", spec := "fnBoxes", apart := false, narrowed := true }
def FnBoxesUptoSaid : Prop := fnBoxesUptoRow.holds Try.pinned (OpenSpec.upto fnBoxesSpec)

/-- 'laws.FnSpots', WHERE WHAT IT READS IS OF BULK AT MOST 1048576: true; the input reads as it did. -/
def fnSpotsUptoRow : OpenClaim := { program := "ytnkofjfcioaaaaa", sum := "383505ffdcff85b230b452ff05ec39710978b3331b12b88044fa1b658c7811f9", func := "loop.example/g01031/laws.FnSpots", spec := "fnSpots", apart := false, narrowed := true }
def FnSpotsUptoSaid : Prop := fnSpotsUptoRow.holds Try.pinned (OpenSpec.upto fnSpotsSpec)

end Rows
end Go.Proofs.Ytnkofjfcioaaaaa
