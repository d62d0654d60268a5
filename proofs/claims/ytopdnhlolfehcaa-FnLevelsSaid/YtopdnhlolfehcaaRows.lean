/-
  No cell of these rows narrows 'for every input' (looked for: loops, veiled, ifaces, maps, wideKeys, modest, calm, conditions, laid).
  DERIVED. THE GIVEN ROWS OF THIS SEAT. 12 by the template 'for every input the law returns true; each argument reads behind the call as it read before'; 0 by the template 'total and deterministic' (their statements: YtopdnhlolfehcaaTotals.lean).
  GIVEN WITH THE SEED: the statements are not yours to turn. If you find one false, say at which input.
  Laid BY PROGRAM, IN A SANDBOX (cutbox-rows.mjs): the forced cells as the released guide's own fill.sh prints them over the translation b08dbbc12c197a62… (all of the seat's roots in one cut). By AI agents, Wed Nov 11 2026. No macro, syntax, notation, axiom, sorry.
-/
import Derived.Test.YtopdnhlolfehcaaChecked
import GoSem.Claim
import GoSem.ClaimJoined
import GoSem.ClaimMapViews
import Derived.JoinedTies
import Derived.KernelRfl
namespace Go.Proofs.Ytopdnhlolfehcaa
/- THE CELL 'sum', in the pinned program and in every row, IS THE sha256 OF THE DUMP (.gsa) THAT YtopdnhlolfehcaaProg.lean LOADS. Nothing in Lean hashes anything: it is a label: what it is worth is what the hold of that sum in a sandbox is worth. -/
noncomputable def Try.pinned : Pinned := { name := "ytopdnhlolfehcaa", sum := "b08dbbc12c197a62a3e78645eabd4347ecdcbda5518a2e7b6728ca24db7d160a", checked := Try.checked }
namespace Rows
def none {H : Type} : Left H := { results := [], args := [] }

/-- 'laws.FnGauges': WHATEVER THE INPUT: true; the input reads as it did. -/
def fnGaugesSpec : ChangeSpec := { name := "fnGauges", fn := fun _ => fun
  | [d] => { results := [.lit (.bool true)], args := [d] }
  | _ => none }
def fnGaugesRow : OpenClaim := { program := "ytopdnhlolfehcaa", sum := "b08dbbc12c197a62a3e78645eabd4347ecdcbda5518a2e7b6728ca24db7d160a", func := "loop.example/g01031/laws.FnGauges", spec := "fnGauges", inPlace := ["slices.overlaps[loop.example/g01031/impl.Reading]"], apart := false }
def FnGaugesSaid : Prop := fnGaugesRow.holds Try.pinned (OpenSpec.ofChange fnGaugesSpec)

/-- ITS FALSE NEIGHBOUR: 'it returns false'. Refute it at one input. -/
def fnGaugesWrong : ChangeSpec := { name := "fnGauges", fn := fun _ => fun
  | [d] => { results := [.lit (.bool false)], args := [d] }
  | _ => none }
def FnGaugesWrongFalsely : Prop := fnGaugesRow.holds Try.pinned (OpenSpec.ofChange fnGaugesWrong)

/-- 'laws.FnExactIsGauge': WHATEVER THE INPUT: true; the input reads as it did. -/
def fnExactIsGaugeSpec : ChangeSpec := { name := "fnExactIsGauge", fn := fun _ => fun
  | [d] => { results := [.lit (.bool true)], args := [d] }
  | _ => none }
def fnExactIsGaugeRow : OpenClaim := { program := "ytopdnhlolfehcaa", sum := "b08dbbc12c197a62a3e78645eabd4347ecdcbda5518a2e7b6728ca24db7d160a", func := "loop.example/g01031/laws.FnExactIsGauge", spec := "fnExactIsGauge", apart := false }
def FnExactIsGaugeSaid : Prop := fnExactIsGaugeRow.holds Try.pinned (OpenSpec.ofChange fnExactIsGaugeSpec)

/-- ITS FALSE NEIGHBOUR: 'it returns false'. Refute it at one input. -/
def fnExactIsGaugeWrong : ChangeSpec := { name := "fnExactIsGauge", fn := fun _ => fun
  | [d] => { results := [.lit (.bool false)], args := [d] }
  | _ => none }
def FnExactIsGaugeWrongFalsely : Prop := fnExactIsGaugeRow.holds Try.pinned (OpenSpec.ofChange fnExactIsGaugeWrong)

/-- 'laws.FnExactHeightOf': WHATEVER THE INPUT: true; the input reads as it did. -/
def fnExactHeightOfSpec : ChangeSpec := { name := "fnExactHeightOf", fn := fun _ => fun
  | [d1, d2] => { results := [.lit (.bool true)], args := [d1, d2] }
  | _ => none }
def fnExactHeightOfRow : OpenClaim := { program := "ytopdnhlolfehcaa", sum := "b08dbbc12c197a62a3e78645eabd4347ecdcbda5518a2e7b6728ca24db7d160a", func := "loop.example/g01031/laws.FnExactHeightOf", spec := "fnExactHeightOf", apart := false }
def FnExactHeightOfSaid : Prop := fnExactHeightOfRow.holds Try.pinned (OpenSpec.ofChange fnExactHeightOfSpec)

/-- ITS FALSE NEIGHBOUR: 'it returns false'. Refute it at one input. -/
def fnExactHeightOfWrong : ChangeSpec := { name := "fnExactHeightOf", fn := fun _ => fun
  | [d1, d2] => { results := [.lit (.bool false)], args := [d1, d2] }
  | _ => none }
def FnExactHeightOfWrongFalsely : Prop := fnExactHeightOfRow.holds Try.pinned (OpenSpec.ofChange fnExactHeightOfWrong)

/-- 'laws.FnExactRangeOf': WHATEVER THE INPUT: true; the input reads as it did. -/
def fnExactRangeOfSpec : ChangeSpec := { name := "fnExactRangeOf", fn := fun _ => fun
  | [d] => { results := [.lit (.bool true)], args := [d] }
  | _ => none }
def fnExactRangeOfRow : OpenClaim := { program := "ytopdnhlolfehcaa", sum := "b08dbbc12c197a62a3e78645eabd4347ecdcbda5518a2e7b6728ca24db7d160a", func := "loop.example/g01031/laws.FnExactRangeOf", spec := "fnExactRangeOf", apart := false }
def FnExactRangeOfSaid : Prop := fnExactRangeOfRow.holds Try.pinned (OpenSpec.ofChange fnExactRangeOfSpec)

/-- ITS FALSE NEIGHBOUR: 'it returns false'. Refute it at one input. -/
def fnExactRangeOfWrong : ChangeSpec := { name := "fnExactRangeOf", fn := fun _ => fun
  | [d] => { results := [.lit (.bool false)], args := [d] }
  | _ => none }
def FnExactRangeOfWrongFalsely : Prop := fnExactRangeOfRow.holds Try.pinned (OpenSpec.ofChange fnExactRangeOfWrong)

/-- 'laws.FnExactHighWaters': WHATEVER THE INPUT: true; the input reads as it did. -/
def fnExactHighWatersSpec : ChangeSpec := { name := "fnExactHighWaters", fn := fun _ => fun
  | [d] => { results := [.lit (.bool true)], args := [d] }
  | _ => none }
def fnExactHighWatersRow : OpenClaim := { program := "ytopdnhlolfehcaa", sum := "b08dbbc12c197a62a3e78645eabd4347ecdcbda5518a2e7b6728ca24db7d160a", func := "loop.example/g01031/laws.FnExactHighWaters", spec := "fnExactHighWaters", apart := false }
def FnExactHighWatersSaid : Prop := fnExactHighWatersRow.holds Try.pinned (OpenSpec.ofChange fnExactHighWatersSpec)

/-- ITS FALSE NEIGHBOUR: 'it returns false'. Refute it at one input. -/
def fnExactHighWatersWrong : ChangeSpec := { name := "fnExactHighWaters", fn := fun _ => fun
  | [d] => { results := [.lit (.bool false)], args := [d] }
  | _ => none }
def FnExactHighWatersWrongFalsely : Prop := fnExactHighWatersRow.holds Try.pinned (OpenSpec.ofChange fnExactHighWatersWrong)

/-- 'laws.FnExactAreGauges': WHATEVER THE INPUT: true; the input reads as it did. -/
def fnExactAreGaugesSpec : ChangeSpec := { name := "fnExactAreGauges", fn := fun _ => fun
  | [d] => { results := [.lit (.bool true)], args := [d] }
  | _ => none }
def fnExactAreGaugesRow : OpenClaim := { program := "ytopdnhlolfehcaa", sum := "b08dbbc12c197a62a3e78645eabd4347ecdcbda5518a2e7b6728ca24db7d160a", func := "loop.example/g01031/laws.FnExactAreGauges", spec := "fnExactAreGauges", unfollowed := true, recurses := true, apart := false }
def FnExactAreGaugesSaid : Prop := fnExactAreGaugesRow.holds Try.pinned (OpenSpec.ofChange fnExactAreGaugesSpec)

/-- ITS FALSE NEIGHBOUR: 'it returns false'. Refute it at one input. -/
def fnExactAreGaugesWrong : ChangeSpec := { name := "fnExactAreGauges", fn := fun _ => fun
  | [d] => { results := [.lit (.bool false)], args := [d] }
  | _ => none }
def FnExactAreGaugesWrongFalsely : Prop := fnExactAreGaugesRow.holds Try.pinned (OpenSpec.ofChange fnExactAreGaugesWrong)

/-- 'laws.FnExactShiftZero': WHATEVER THE INPUT: true; the input reads as it did. -/
def fnExactShiftZeroSpec : ChangeSpec := { name := "fnExactShiftZero", fn := fun _ => fun
  | [d1, d2] => { results := [.lit (.bool true)], args := [d1, d2] }
  | _ => none }
def fnExactShiftZeroRow : OpenClaim := { program := "ytopdnhlolfehcaa", sum := "b08dbbc12c197a62a3e78645eabd4347ecdcbda5518a2e7b6728ca24db7d160a", func := "loop.example/g01031/laws.FnExactShiftZero", spec := "fnExactShiftZero", apart := false }
def FnExactShiftZeroSaid : Prop := fnExactShiftZeroRow.holds Try.pinned (OpenSpec.ofChange fnExactShiftZeroSpec)

/-- ITS FALSE NEIGHBOUR: 'it returns false'. Refute it at one input. -/
def fnExactShiftZeroWrong : ChangeSpec := { name := "fnExactShiftZero", fn := fun _ => fun
  | [d1, d2] => { results := [.lit (.bool false)], args := [d1, d2] }
  | _ => none }
def FnExactShiftZeroWrongFalsely : Prop := fnExactShiftZeroRow.holds Try.pinned (OpenSpec.ofChange fnExactShiftZeroWrong)

/-- 'laws.FnExactGapsOf': WHATEVER THE INPUT: true; the input reads as it did. -/
def fnExactGapsOfSpec : ChangeSpec := { name := "fnExactGapsOf", fn := fun _ => fun
  | [d1, d2] => { results := [.lit (.bool true)], args := [d1, d2] }
  | _ => none }
def fnExactGapsOfRow : OpenClaim := { program := "ytopdnhlolfehcaa", sum := "b08dbbc12c197a62a3e78645eabd4347ecdcbda5518a2e7b6728ca24db7d160a", func := "loop.example/g01031/laws.FnExactGapsOf", spec := "fnExactGapsOf", apart := false }
def FnExactGapsOfSaid : Prop := fnExactGapsOfRow.holds Try.pinned (OpenSpec.ofChange fnExactGapsOfSpec)

/-- ITS FALSE NEIGHBOUR: 'it returns false'. Refute it at one input. -/
def fnExactGapsOfWrong : ChangeSpec := { name := "fnExactGapsOf", fn := fun _ => fun
  | [d1, d2] => { results := [.lit (.bool false)], args := [d1, d2] }
  | _ => none }
def FnExactGapsOfWrongFalsely : Prop := fnExactGapsOfRow.holds Try.pinned (OpenSpec.ofChange fnExactGapsOfWrong)

/-- 'laws.FnExactAddReading': WHATEVER THE INPUT: true; the input reads as it did. -/
def fnExactAddReadingSpec : ChangeSpec := { name := "fnExactAddReading", fn := fun _ => fun
  | [d1, d2] => { results := [.lit (.bool true)], args := [d1, d2] }
  | _ => none }
def fnExactAddReadingRow : OpenClaim := { program := "ytopdnhlolfehcaa", sum := "b08dbbc12c197a62a3e78645eabd4347ecdcbda5518a2e7b6728ca24db7d160a", func := "loop.example/g01031/laws.FnExactAddReading", spec := "fnExactAddReading", inPlace := ["slices.overlaps[loop.example/g01031/impl.Reading]"], apart := false }
def FnExactAddReadingSaid : Prop := fnExactAddReadingRow.holds Try.pinned (OpenSpec.ofChange fnExactAddReadingSpec)

/-- ITS FALSE NEIGHBOUR: 'it returns false'. Refute it at one input. -/
def fnExactAddReadingWrong : ChangeSpec := { name := "fnExactAddReading", fn := fun _ => fun
  | [d1, d2] => { results := [.lit (.bool false)], args := [d1, d2] }
  | _ => none }
def FnExactAddReadingWrongFalsely : Prop := fnExactAddReadingRow.holds Try.pinned (OpenSpec.ofChange fnExactAddReadingWrong)

/-- 'laws.FnExactCommonTimes': WHATEVER THE INPUT: true; the input reads as it did. -/
def fnExactCommonTimesSpec : ChangeSpec := { name := "fnExactCommonTimes", fn := fun _ => fun
  | [d1, d2, d3] => { results := [.lit (.bool true)], args := [d1, d2, d3] }
  | _ => none }
def fnExactCommonTimesRow : OpenClaim := { program := "ytopdnhlolfehcaa", sum := "b08dbbc12c197a62a3e78645eabd4347ecdcbda5518a2e7b6728ca24db7d160a", func := "loop.example/g01031/laws.FnExactCommonTimes", spec := "fnExactCommonTimes", unfollowed := true, recurses := true, apart := false }
def FnExactCommonTimesSaid : Prop := fnExactCommonTimesRow.holds Try.pinned (OpenSpec.ofChange fnExactCommonTimesSpec)

/-- ITS FALSE NEIGHBOUR: 'it returns false'. Refute it at one input. -/
def fnExactCommonTimesWrong : ChangeSpec := { name := "fnExactCommonTimes", fn := fun _ => fun
  | [d1, d2, d3] => { results := [.lit (.bool false)], args := [d1, d2, d3] }
  | _ => none }
def FnExactCommonTimesWrongFalsely : Prop := fnExactCommonTimesRow.holds Try.pinned (OpenSpec.ofChange fnExactCommonTimesWrong)

/-- 'laws.FnExactZeroError': WHATEVER THE INPUT: true; the input reads as it did. -/
def fnExactZeroErrorSpec : ChangeSpec := { name := "fnExactZeroError", fn := fun _ => fun
  | [d1, d2, d3] => { results := [.lit (.bool true)], args := [d1, d2, d3] }
  | _ => none }
def fnExactZeroErrorRow : OpenClaim := { program := "ytopdnhlolfehcaa", sum := "b08dbbc12c197a62a3e78645eabd4347ecdcbda5518a2e7b6728ca24db7d160a", func := "loop.example/g01031/laws.FnExactZeroError", spec := "fnExactZeroError", unfollowed := true, recurses := true, apart := false }
def FnExactZeroErrorSaid : Prop := fnExactZeroErrorRow.holds Try.pinned (OpenSpec.ofChange fnExactZeroErrorSpec)

/-- ITS FALSE NEIGHBOUR: 'it returns false'. Refute it at one input. -/
def fnExactZeroErrorWrong : ChangeSpec := { name := "fnExactZeroError", fn := fun _ => fun
  | [d1, d2, d3] => { results := [.lit (.bool false)], args := [d1, d2, d3] }
  | _ => none }
def FnExactZeroErrorWrongFalsely : Prop := fnExactZeroErrorRow.holds Try.pinned (OpenSpec.ofChange fnExactZeroErrorWrong)

/-- 'laws.FnLevels': WHATEVER THE INPUT: true; the input reads as it did. -/
def fnLevelsSpec : ChangeSpec := { name := "fnLevels", fn := fun _ => fun
  | [d] => { results := [.lit (.bool true)], args := [d] }
  | _ => none }
def fnLevelsRow : OpenClaim := { program := "ytopdnhlolfehcaa", sum := "b08dbbc12c197a62a3e78645eabd4347ecdcbda5518a2e7b6728ca24db7d160a", func := "loop.example/g01031/laws.FnLevels", spec := "fnLevels", unfollowed := true, recurses := true, apart := false }
def FnLevelsSaid : Prop := fnLevelsRow.holds Try.pinned (OpenSpec.ofChange fnLevelsSpec)

/-- ITS FALSE NEIGHBOUR: 'it returns false'. Refute it at one input. -/
def fnLevelsWrong : ChangeSpec := { name := "fnLevels", fn := fun _ => fun
  | [d] => { results := [.lit (.bool false)], args := [d] }
  | _ => none }
def FnLevelsWrongFalsely : Prop := fnLevelsRow.holds Try.pinned (OpenSpec.ofChange fnLevelsWrong)

/- THE SECOND FORM. 'bulk': how many values and letters a reading holds, each counted each time it is reached (what is shared counts as often as it is met; a slice's spare places count too). A statement '..UptoSaid' is the law's where the arguments, and the package variables that the reading takes, are together of bulk at most 1048576: NARROWER than '..Said'. Prove '..Said' where nothing that the law and all that it calls make is longer than what came in: it says more and counts as full. Else prove '..UptoSaid'. A law counts once. -/
mutual
def uptoBulk {H : Type} : DataW H → Nat
  | .lit (.string bytes) => bytes.length + 1
  | .lit _ => 1
  | .nil => 1
  | .ptr d => uptoBulk d + 1
  | .slice elems spare => uptoBulkAll elems + uptoBulkAll spare + 1
  | .agg parts => uptoBulkAll parts + 1
  | .iface _ d => uptoBulk d + 1
  | .map entries => uptoBulkEntries entries + 1
  | .held _ => 1
def uptoBulkAll {H : Type} : List (DataW H) → Nat
  | [] => 0
  | d :: r => uptoBulk d + uptoBulkAll r
def uptoBulkEntries {H : Type} : List (Lit × DataW H) → Nat
  | [] => 0
  | x :: r => uptoBulkEntry x + uptoBulkEntries r
def uptoBulkEntry {H : Type} : Lit × DataW H → Nat
  | (.string bytes, d) => bytes.length + uptoBulk d + 1
  | (_, d) => uptoBulk d + 1
 end
def uptoSmall : (H : Type) → List (DataW H) → Bool := fun _ ds => decide (uptoBulkAll ds ≤ 1048576)
def OpenSpec.upto (s : _root_.Go.ChangeSpec) : _root_.Go.OpenSpec := { _root_.Go.OpenSpec.ofChange s with cond := some uptoSmall }

/-- 'laws.FnGauges', WHERE WHAT IT READS IS OF BULK AT MOST 1048576: true; the input reads as it did. -/
def fnGaugesUptoRow : OpenClaim := { program := "ytopdnhlolfehcaa", sum := "b08dbbc12c197a62a3e78645eabd4347ecdcbda5518a2e7b6728ca24db7d160a", func := "loop.example/g01031/laws.FnGauges", spec := "fnGauges", inPlace := ["slices.overlaps[loop.example/g01031/impl.Reading]"], apart := false, narrowed := true }
def FnGaugesUptoSaid : Prop := fnGaugesUptoRow.holds Try.pinned (OpenSpec.upto fnGaugesSpec)

/-- 'laws.FnExactIsGauge', WHERE WHAT IT READS IS OF BULK AT MOST 1048576: true; the input reads as it did. -/
def fnExactIsGaugeUptoRow : OpenClaim := { program := "ytopdnhlolfehcaa", sum := "b08dbbc12c197a62a3e78645eabd4347ecdcbda5518a2e7b6728ca24db7d160a", func := "loop.example/g01031/laws.FnExactIsGauge", spec := "fnExactIsGauge", apart := false, narrowed := true }
def FnExactIsGaugeUptoSaid : Prop := fnExactIsGaugeUptoRow.holds Try.pinned (OpenSpec.upto fnExactIsGaugeSpec)

/-- 'laws.FnExactHeightOf', WHERE WHAT IT READS IS OF BULK AT MOST 1048576: true; the input reads as it did. -/
def fnExactHeightOfUptoRow : OpenClaim := { program := "ytopdnhlolfehcaa", sum := "b08dbbc12c197a62a3e78645eabd4347ecdcbda5518a2e7b6728ca24db7d160a", func := "loop.example/g01031/laws.FnExactHeightOf", spec := "fnExactHeightOf", apart := false, narrowed := true }
def FnExactHeightOfUptoSaid : Prop := fnExactHeightOfUptoRow.holds Try.pinned (OpenSpec.upto fnExactHeightOfSpec)

/-- 'laws.FnExactRangeOf', WHERE WHAT IT READS IS OF BULK AT MOST 1048576: true; the input reads as it did. -/
def fnExactRangeOfUptoRow : OpenClaim := { program := "ytopdnhlolfehcaa", sum := "b08dbbc12c197a62a3e78645eabd4347ecdcbda5518a2e7b6728ca24db7d160a", func := "loop.example/g01031/laws.FnExactRangeOf", spec := "fnExactRangeOf", apart := false, narrowed := true }
def FnExactRangeOfUptoSaid : Prop := fnExactRangeOfUptoRow.holds Try.pinned (OpenSpec.upto fnExactRangeOfSpec)

/-- 'laws.FnExactHighWaters', WHERE WHAT IT READS IS OF BULK AT MOST 1048576: true; the input reads as it did. -/
def fnExactHighWatersUptoRow : OpenClaim := { program := "ytopdnhlolfehcaa", sum := "b08dbbc12c197a62a3e78645eabd4347ecdcbda5518a2e7b6728ca24db7d160a", func := "loop.example/g01031/laws.FnExactHighWaters", spec := "fnExactHighWaters", apart := false, narrowed := true }
def FnExactHighWatersUptoSaid : Prop := fnExactHighWatersUptoRow.holds Try.pinned (OpenSpec.upto fnExactHighWatersSpec)

/-- 'laws.FnExactAreGauges', WHERE WHAT IT READS IS OF BULK AT MOST 1048576: true; the input reads as it did. -/
def fnExactAreGaugesUptoRow : OpenClaim := { program := "ytopdnhlolfehcaa", sum := "b08dbbc12c197a62a3e78645eabd4347ecdcbda5518a2e7b6728ca24db7d160a", func := "loop.example/g01031/laws.FnExactAreGauges", spec := "fnExactAreGauges", unfollowed := true, recurses := true, apart := false, narrowed := true }
def FnExactAreGaugesUptoSaid : Prop := fnExactAreGaugesUptoRow.holds Try.pinned (OpenSpec.upto fnExactAreGaugesSpec)

/-- 'laws.FnExactShiftZero', WHERE WHAT IT READS IS OF BULK AT MOST 1048576: true; the input reads as it did. -/
def fnExactShiftZeroUptoRow : OpenClaim := { program := "ytopdnhlolfehcaa", sum := "b08dbbc12c197a62a3e78645eabd4347ecdcbda5518a2e7b6728ca24db7d160a", func := "loop.example/g01031/laws.FnExactShiftZero", spec := "fnExactShiftZero", apart := false, narrowed := true }
def FnExactShiftZeroUptoSaid : Prop := fnExactShiftZeroUptoRow.holds Try.pinned (OpenSpec.upto fnExactShiftZeroSpec)

/-- 'laws.FnExactGapsOf', WHERE WHAT IT READS IS OF BULK AT MOST 1048576: true; the input reads as it did. -/
def fnExactGapsOfUptoRow : OpenClaim := { program := "ytopdnhlolfehcaa", sum := "b08dbbc12c197a62a3e78645eabd4347ecdcbda5518a2e7b6728ca24db7d160a", func := "loop.example/g01031/laws.FnExactGapsOf", spec := "fnExactGapsOf", apart := false, narrowed := true }
def FnExactGapsOfUptoSaid : Prop := fnExactGapsOfUptoRow.holds Try.pinned (OpenSpec.upto fnExactGapsOfSpec)

/-- 'laws.FnExactAddReading', WHERE WHAT IT READS IS OF BULK AT MOST 1048576: true; the input reads as it did. -/
def fnExactAddReadingUptoRow : OpenClaim := { program := "ytopdnhlolfehcaa", sum := "b08dbbc12c197a62a3e78645eabd4347ecdcbda5518a2e7b6728ca24db7d160a", func := "loop.example/g01031/laws.FnExactAddReading", spec := "fnExactAddReading", inPlace := ["slices.overlaps[loop.example/g01031/impl.Reading]"], apart := false, narrowed := true }
def FnExactAddReadingUptoSaid : Prop := fnExactAddReadingUptoRow.holds Try.pinned (OpenSpec.upto fnExactAddReadingSpec)

/-- 'laws.FnExactCommonTimes', WHERE WHAT IT READS IS OF BULK AT MOST 1048576: true; the input reads as it did. -/
def fnExactCommonTimesUptoRow : OpenClaim := { program := "ytopdnhlolfehcaa", sum := "b08dbbc12c197a62a3e78645eabd4347ecdcbda5518a2e7b6728ca24db7d160a", func := "loop.example/g01031/laws.FnExactCommonTimes", spec := "fnExactCommonTimes", unfollowed := true, recurses := true, apart := false, narrowed := true }
def FnExactCommonTimesUptoSaid : Prop := fnExactCommonTimesUptoRow.holds Try.pinned (OpenSpec.upto fnExactCommonTimesSpec)

/-- 'laws.FnExactZeroError', WHERE WHAT IT READS IS OF BULK AT MOST 1048576: true; the input reads as it did. -/
def fnExactZeroErrorUptoRow : OpenClaim := { program := "ytopdnhlolfehcaa", sum := "b08dbbc12c197a62a3e78645eabd4347ecdcbda5518a2e7b6728ca24db7d160a", func := "loop.example/g01031/laws.FnExactZeroError", spec := "fnExactZeroError", unfollowed := true, recurses := true, apart := false, narrowed := true }
def FnExactZeroErrorUptoSaid : Prop := fnExactZeroErrorUptoRow.holds Try.pinned (OpenSpec.upto fnExactZeroErrorSpec)

/-- 'laws.FnLevels', WHERE WHAT IT READS IS OF BULK AT MOST 1048576: true; the input reads as it did. -/
def fnLevelsUptoRow : OpenClaim := { program := "ytopdnhlolfehcaa", sum := "b08dbbc12c197a62a3e78645eabd4347ecdcbda5518a2e7b6728ca24db7d160a", func := "loop.example/g01031/laws.FnLevels", spec := "fnLevels", unfollowed := true, recurses := true, apart := false, narrowed := true }
def FnLevelsUptoSaid : Prop := fnLevelsUptoRow.holds Try.pinned (OpenSpec.upto fnLevelsSpec)

end Rows
end Go.Proofs.Ytopdnhlolfehcaa
