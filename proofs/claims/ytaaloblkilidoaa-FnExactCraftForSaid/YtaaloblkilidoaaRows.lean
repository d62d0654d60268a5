/-
  No cell of these rows narrows 'for every input' (looked for: loops, veiled, ifaces, maps, wideKeys, modest, calm, conditions, laid).
  DERIVED. THE GIVEN ROWS OF THIS SEAT. 7 by the template 'for every input the law returns true; each argument reads behind the call as it read before'; 0 by the template 'total and deterministic' (their statements: YtaaloblkilidoaaTotals.lean).
  GIVEN WITH THE SEED: the statements are not yours to turn. If you find one false, say at which input.
  Laid BY PROGRAM, IN A SANDBOX (cutbox-rows.mjs): the forced cells as the released guide's own fill.sh prints them over the translation 5760da8058dd3f1a… (all of the seat's roots in one cut). By AI agents, Wed Nov 11 2026. No macro, syntax, notation, axiom, sorry.
-/
import Derived.Test.YtaaloblkilidoaaChecked
import GoSem.Claim
import GoSem.ClaimJoined
import GoSem.ClaimMapViews
import Derived.JoinedTies
import Derived.KernelRfl
namespace Go.Proofs.Ytaaloblkilidoaa
/- THE CELL 'sum', in the pinned program and in every row, IS THE sha256 OF THE DUMP (.gsa) THAT YtaaloblkilidoaaProg.lean LOADS. Nothing in Lean hashes anything: it is a label: what it is worth is what the hold of that sum in a sandbox is worth. -/
noncomputable def Try.pinned : Pinned := { name := "ytaaloblkilidoaa", sum := "5760da8058dd3f1a879f1062781c4d4edd83ce055a922269df60b7e01fd0d87b", checked := Try.checked }
namespace Rows
def none {H : Type} : Left H := { results := [], args := [] }

/-- 'laws.FnExactIsCraft': WHATEVER THE INPUT: true; the input reads as it did. -/
def fnExactIsCraftSpec : ChangeSpec := { name := "fnExactIsCraft", fn := fun _ => fun
  | [d] => { results := [.lit (.bool true)], args := [d] }
  | _ => none }
def fnExactIsCraftRow : OpenClaim := { program := "ytaaloblkilidoaa", sum := "5760da8058dd3f1a879f1062781c4d4edd83ce055a922269df60b7e01fd0d87b", func := "loop.example/g01031/laws.FnExactIsCraft", spec := "fnExactIsCraft", apart := false }
def FnExactIsCraftSaid : Prop := fnExactIsCraftRow.holds Try.pinned (OpenSpec.ofChange fnExactIsCraftSpec)

/-- ITS FALSE NEIGHBOUR: 'it returns false'. Refute it at one input. -/
def fnExactIsCraftWrong : ChangeSpec := { name := "fnExactIsCraft", fn := fun _ => fun
  | [d] => { results := [.lit (.bool false)], args := [d] }
  | _ => none }
def FnExactIsCraftWrongFalsely : Prop := fnExactIsCraftRow.holds Try.pinned (OpenSpec.ofChange fnExactIsCraftWrong)

/-- 'laws.FnExactSecondsFor': WHATEVER THE INPUT: true; the input reads as it did. -/
def fnExactSecondsForSpec : ChangeSpec := { name := "fnExactSecondsFor", fn := fun _ => fun
  | [d1, d2] => { results := [.lit (.bool true)], args := [d1, d2] }
  | _ => none }
def fnExactSecondsForRow : OpenClaim := { program := "ytaaloblkilidoaa", sum := "5760da8058dd3f1a879f1062781c4d4edd83ce055a922269df60b7e01fd0d87b", func := "loop.example/g01031/laws.FnExactSecondsFor", spec := "fnExactSecondsFor", apart := false }
def FnExactSecondsForSaid : Prop := fnExactSecondsForRow.holds Try.pinned (OpenSpec.ofChange fnExactSecondsForSpec)

/-- ITS FALSE NEIGHBOUR: 'it returns false'. Refute it at one input. -/
def fnExactSecondsForWrong : ChangeSpec := { name := "fnExactSecondsFor", fn := fun _ => fun
  | [d1, d2] => { results := [.lit (.bool false)], args := [d1, d2] }
  | _ => none }
def FnExactSecondsForWrongFalsely : Prop := fnExactSecondsForRow.holds Try.pinned (OpenSpec.ofChange fnExactSecondsForWrong)

/-- 'laws.FnExactAntennaFor': WHATEVER THE INPUT: true; the input reads as it did. -/
def fnExactAntennaForSpec : ChangeSpec := { name := "fnExactAntennaFor", fn := fun _ => fun
  | [d1, d2, d3, d4] => { results := [.lit (.bool true)], args := [d1, d2, d3, d4] }
  | _ => none }
def fnExactAntennaForRow : OpenClaim := { program := "ytaaloblkilidoaa", sum := "5760da8058dd3f1a879f1062781c4d4edd83ce055a922269df60b7e01fd0d87b", func := "loop.example/g01031/laws.FnExactAntennaFor", spec := "fnExactAntennaFor", apart := false }
def FnExactAntennaForSaid : Prop := fnExactAntennaForRow.holds Try.pinned (OpenSpec.ofChange fnExactAntennaForSpec)

/-- ITS FALSE NEIGHBOUR: 'it returns false'. Refute it at one input. -/
def fnExactAntennaForWrong : ChangeSpec := { name := "fnExactAntennaFor", fn := fun _ => fun
  | [d1, d2, d3, d4] => { results := [.lit (.bool false)], args := [d1, d2, d3, d4] }
  | _ => none }
def FnExactAntennaForWrongFalsely : Prop := fnExactAntennaForRow.holds Try.pinned (OpenSpec.ofChange fnExactAntennaForWrong)

/-- 'laws.FnExactSounderAt': WHATEVER THE INPUT: true; the input reads as it did. -/
def fnExactSounderAtSpec : ChangeSpec := { name := "fnExactSounderAt", fn := fun _ => fun
  | [d1, d2, d3, d4] => { results := [.lit (.bool true)], args := [d1, d2, d3, d4] }
  | _ => none }
def fnExactSounderAtRow : OpenClaim := { program := "ytaaloblkilidoaa", sum := "5760da8058dd3f1a879f1062781c4d4edd83ce055a922269df60b7e01fd0d87b", func := "loop.example/g01031/laws.FnExactSounderAt", spec := "fnExactSounderAt", apart := false }
def FnExactSounderAtSaid : Prop := fnExactSounderAtRow.holds Try.pinned (OpenSpec.ofChange fnExactSounderAtSpec)

/-- ITS FALSE NEIGHBOUR: 'it returns false'. Refute it at one input. -/
def fnExactSounderAtWrong : ChangeSpec := { name := "fnExactSounderAt", fn := fun _ => fun
  | [d1, d2, d3, d4] => { results := [.lit (.bool false)], args := [d1, d2, d3, d4] }
  | _ => none }
def FnExactSounderAtWrongFalsely : Prop := fnExactSounderAtRow.holds Try.pinned (OpenSpec.ofChange fnExactSounderAtWrong)

/-- 'laws.FnExactAreCraft': WHATEVER THE INPUT: true; the input reads as it did. -/
def fnExactAreCraftSpec : ChangeSpec := { name := "fnExactAreCraft", fn := fun _ => fun
  | [d] => { results := [.lit (.bool true)], args := [d] }
  | _ => none }
def fnExactAreCraftRow : OpenClaim := { program := "ytaaloblkilidoaa", sum := "5760da8058dd3f1a879f1062781c4d4edd83ce055a922269df60b7e01fd0d87b", func := "loop.example/g01031/laws.FnExactAreCraft", spec := "fnExactAreCraft", unfollowed := true, recurses := true, apart := false }
def FnExactAreCraftSaid : Prop := fnExactAreCraftRow.holds Try.pinned (OpenSpec.ofChange fnExactAreCraftSpec)

/-- ITS FALSE NEIGHBOUR: 'it returns false'. Refute it at one input. -/
def fnExactAreCraftWrong : ChangeSpec := { name := "fnExactAreCraft", fn := fun _ => fun
  | [d] => { results := [.lit (.bool false)], args := [d] }
  | _ => none }
def FnExactAreCraftWrongFalsely : Prop := fnExactAreCraftRow.holds Try.pinned (OpenSpec.ofChange fnExactAreCraftWrong)

/-- 'laws.FnExactShallowestCraft': WHATEVER THE INPUT: true; the input reads as it did. -/
def fnExactShallowestCraftSpec : ChangeSpec := { name := "fnExactShallowestCraft", fn := fun _ => fun
  | [d] => { results := [.lit (.bool true)], args := [d] }
  | _ => none }
def fnExactShallowestCraftRow : OpenClaim := { program := "ytaaloblkilidoaa", sum := "5760da8058dd3f1a879f1062781c4d4edd83ce055a922269df60b7e01fd0d87b", func := "loop.example/g01031/laws.FnExactShallowestCraft", spec := "fnExactShallowestCraft", unfollowed := true, recurses := true, apart := false }
def FnExactShallowestCraftSaid : Prop := fnExactShallowestCraftRow.holds Try.pinned (OpenSpec.ofChange fnExactShallowestCraftSpec)

/-- ITS FALSE NEIGHBOUR: 'it returns false'. Refute it at one input. -/
def fnExactShallowestCraftWrong : ChangeSpec := { name := "fnExactShallowestCraft", fn := fun _ => fun
  | [d] => { results := [.lit (.bool false)], args := [d] }
  | _ => none }
def FnExactShallowestCraftWrongFalsely : Prop := fnExactShallowestCraftRow.holds Try.pinned (OpenSpec.ofChange fnExactShallowestCraftWrong)

/-- 'laws.FnExactCraftFor': WHATEVER THE INPUT: true; the input reads as it did. -/
def fnExactCraftForSpec : ChangeSpec := { name := "fnExactCraftFor", fn := fun _ => fun
  | [d1, d2, d3] => { results := [.lit (.bool true)], args := [d1, d2, d3] }
  | _ => none }
def fnExactCraftForRow : OpenClaim := { program := "ytaaloblkilidoaa", sum := "5760da8058dd3f1a879f1062781c4d4edd83ce055a922269df60b7e01fd0d87b", func := "loop.example/g01031/laws.FnExactCraftFor", spec := "fnExactCraftFor", unfollowed := true, recurses := true, apart := false }
def FnExactCraftForSaid : Prop := fnExactCraftForRow.holds Try.pinned (OpenSpec.ofChange fnExactCraftForSpec)

/-- ITS FALSE NEIGHBOUR: 'it returns false'. Refute it at one input. -/
def fnExactCraftForWrong : ChangeSpec := { name := "fnExactCraftFor", fn := fun _ => fun
  | [d1, d2, d3] => { results := [.lit (.bool false)], args := [d1, d2, d3] }
  | _ => none }
def FnExactCraftForWrongFalsely : Prop := fnExactCraftForRow.holds Try.pinned (OpenSpec.ofChange fnExactCraftForWrong)

/- THE SECOND FORM. 'bulk': how many values and letters a reading holds, each counted each time it is reached (what is shared counts as often as it is met; a slice's spare places count too). A statement '..UptoSaid' is the law's where the arguments, and the package variables that the reading takes, are together of bulk at most 1048576: NARROWER than '..Said'. Prove '..Said' where nothing that the law and all that it calls make is longer than what came in: it says more and counts as full. Else prove '..UptoSaid'. A law counts once. -/
mutual
def uptoBulk {H : Type} : DataW H → Nat
  | .lit (.string bytes) => bytes.length + 1
  | .lit _ => 1
  | .nil => 1
  | .ptr d => uptoBulk d + 1
  | .slice elems spare => uptoBulkAll elems + uptoBulkAll spare + 1
  | .agg parts => uptoBulkAll parts + 1
  | .iface _ d => uptoBulk d + 1
  | .map entries => uptoBulkEntries entries + 1
  | .held _ => 1
def uptoBulkAll {H : Type} : List (DataW H) → Nat
  | [] => 0
  | d :: r => uptoBulk d + uptoBulkAll r
def uptoBulkEntries {H : Type} : List (Lit × DataW H) → Nat
  | [] => 0
  | x :: r => uptoBulkEntry x + uptoBulkEntries r
def uptoBulkEntry {H : Type} : Lit × DataW H → Nat
  | (.string bytes, d) => bytes.length + uptoBulk d + 1
  | (_, d) => uptoBulk d + 1
 end
def uptoSmall : (H : Type) → List (DataW H) → Bool := fun _ ds => decide (uptoBulkAll ds ≤ 1048576)
def OpenSpec.upto (s : _root_.Go.ChangeSpec) : _root_.Go.OpenSpec := { _root_.Go.OpenSpec.ofChange s with cond := some uptoSmall }

/-- 'laws.FnExactIsCraft', WHERE WHAT IT READS IS OF BULK AT MOST 1048576: true; the input reads as it did. -/
def fnExactIsCraftUptoRow : OpenClaim := { program := "ytaaloblkilidoaa", sum := "5760da8058dd3f1a879f1062781c4d4edd83ce055a922269df60b7e01fd0d87b", func := "loop.example/g01031/laws.FnExactIsCraft", spec := "fnExactIsCraft", apart := false, narrowed := true }
def FnExactIsCraftUptoSaid : Prop := fnExactIsCraftUptoRow.holds Try.pinned (OpenSpec.upto fnExactIsCraftSpec)

/-- 'laws.FnExactSecondsFor', WHERE WHAT IT READS IS OF BULK AT MOST 1048576: true; the input reads as it did. -/
def fnExactSecondsForUptoRow : OpenClaim := { program := "ytaaloblkilidoaa", sum := "5760da8058dd3f1a879f1062781c4d4edd83ce055a922269df60b7e01fd0d87b", func := "loop.example/g01031/laws.FnExactSecondsFor", spec := "fnExactSecondsFor", apart := false, narrowed := true }
def FnExactSecondsForUptoSaid : Prop := fnExactSecondsForUptoRow.holds Try.pinned (OpenSpec.upto fnExactSecondsForSpec)

/-- 'laws.FnExactAntennaFor', WHERE WHAT IT READS IS OF BULK AT MOST 1048576: true; the input reads as it did. -/
def fnExactAntennaForUptoRow : OpenClaim := { program := "ytaaloblkilidoaa", sum := "5760da8058dd3f1a879f1062781c4d4edd83ce055a922269df60b7e01fd0d87b", func := "loop.example/g01031/laws.FnExactAntennaFor", spec := "fnExactAntennaFor", apart := false, narrowed := true }
def FnExactAntennaForUptoSaid : Prop := fnExactAntennaForUptoRow.holds Try.pinned (OpenSpec.upto fnExactAntennaForSpec)

/-- 'laws.FnExactSounderAt', WHERE WHAT IT READS IS OF BULK AT MOST 1048576: true; the input reads as it did. -/
def fnExactSounderAtUptoRow : OpenClaim := { program := "ytaaloblkilidoaa", sum := "5760da8058dd3f1a879f1062781c4d4edd83ce055a922269df60b7e01fd0d87b", func := "loop.example/g01031/laws.FnExactSounderAt", spec := "fnExactSounderAt", apart := false, narrowed := true }
def FnExactSounderAtUptoSaid : Prop := fnExactSounderAtUptoRow.holds Try.pinned (OpenSpec.upto fnExactSounderAtSpec)

/-- 'laws.FnExactAreCraft', WHERE WHAT IT READS IS OF BULK AT MOST 1048576: true; the input reads as it did. -/
def fnExactAreCraftUptoRow : OpenClaim := { program := "ytaaloblkilidoaa", sum := "5760da8058dd3f1a879f1062781c4d4edd83ce055a922269df60b7e01fd0d87b", func := "loop.example/g01031/laws.FnExactAreCraft", spec := "fnExactAreCraft", unfollowed := true, recurses := true, apart := false, narrowed := true }
def FnExactAreCraftUptoSaid : Prop := fnExactAreCraftUptoRow.holds Try.pinned (OpenSpec.upto fnExactAreCraftSpec)

/-- 'laws.FnExactShallowestCraft', WHERE WHAT IT READS IS OF BULK AT MOST 1048576: true; the input reads as it did. -/
def fnExactShallowestCraftUptoRow : OpenClaim := { program := "ytaaloblkilidoaa", sum := "5760da8058dd3f1a879f1062781c4d4edd83ce055a922269df60b7e01fd0d87b", func := "loop.example/g01031/laws.FnExactShallowestCraft", spec := "fnExactShallowestCraft", unfollowed := true, recurses := true, apart := false, narrowed := true }
def FnExactShallowestCraftUptoSaid : Prop := fnExactShallowestCraftUptoRow.holds Try.pinned (OpenSpec.upto fnExactShallowestCraftSpec)

/-- 'laws.FnExactCraftFor', WHERE WHAT IT READS IS OF BULK AT MOST 1048576: true; the input reads as it did. -/
def fnExactCraftForUptoRow : OpenClaim := { program := "ytaaloblkilidoaa", sum := "5760da8058dd3f1a879f1062781c4d4edd83ce055a922269df60b7e01fd0d87b", func := "loop.example/g01031/laws.FnExactCraftFor", spec := "fnExactCraftFor", unfollowed := true, recurses := true, apart := false, narrowed := true }
def FnExactCraftForUptoSaid : Prop := fnExactCraftForUptoRow.holds Try.pinned (OpenSpec.upto fnExactCraftForSpec)

end Rows
end Go.Proofs.Ytaaloblkilidoaa
