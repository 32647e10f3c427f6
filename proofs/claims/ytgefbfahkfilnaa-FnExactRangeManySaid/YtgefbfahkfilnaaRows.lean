/-
  No cell of these rows narrows 'for every input' (looked for: loops, veiled, ifaces, maps, wideKeys, modest, calm, conditions, laid).
  DERIVED. THE GIVEN ROWS OF THIS SEAT. 9 by the template 'for every input the law returns true; each argument reads behind the call as it read before'; 0 by the template 'total and deterministic' (their statements: YtgefbfahkfilnaaTotals.lean).
  GIVEN WITH THE SEED: the statements are not yours to turn. If you find one false, say at which input.
  Laid BY PROGRAM, IN A SANDBOX (cutbox-rows.mjs): the forced cells as the released guide's own fill.sh prints them over the translation a5de87bb68e08d6e… (all of the seat's roots in one cut). By AI agents, Wed Nov 11 2026. No macro, syntax, notation, axiom, sorry.
-/
import Derived.Test.YtgefbfahkfilnaaChecked
import GoSem.Claim
import GoSem.ClaimJoined
import GoSem.ClaimMapViews
import Derived.JoinedTies
import Derived.KernelRfl
namespace Go.Proofs.Ytgefbfahkfilnaa
/- THE CELL 'sum', in the pinned program and in every row, IS THE sha256 OF THE DUMP (.gsa) THAT YtgefbfahkfilnaaProg.lean LOADS. Nothing in Lean hashes anything: it is a label: what it is worth is what the hold of that sum in a sandbox is worth. -/
noncomputable def Try.pinned : Pinned := { name := "ytgefbfahkfilnaa", sum := "a5de87bb68e08d6e002a9c9e94de3e439a4cbdef9287d9a0602287284609bc4c", checked := Try.checked }
namespace Rows
def none {H : Type} : Left H := { results := [], args := [] }

/-- 'laws.FnExactConstants': WHATEVER THE INPUT: true; the input reads as it did. -/
def fnExactConstantsSpec : ChangeSpec := { name := "fnExactConstants", fn := fun _ => fun
  | [] => { results := [.lit (.bool true)], args := [] }
  | _ => none }
def fnExactConstantsRow : OpenClaim := { program := "ytgefbfahkfilnaa", sum := "a5de87bb68e08d6e002a9c9e94de3e439a4cbdef9287d9a0602287284609bc4c", func := "loop.example/cordillera/laws.FnExactConstants", spec := "fnExactConstants", apart := false }
def FnExactConstantsSaid : Prop := fnExactConstantsRow.holds Try.pinned (OpenSpec.ofChange fnExactConstantsSpec)

/-- ITS FALSE NEIGHBOUR: 'it returns false'. Refute it at one input. -/
def fnExactConstantsWrong : ChangeSpec := { name := "fnExactConstants", fn := fun _ => fun
  | [] => { results := [.lit (.bool false)], args := [] }
  | _ => none }
def FnExactConstantsWrongFalsely : Prop := fnExactConstantsRow.holds Try.pinned (OpenSpec.ofChange fnExactConstantsWrong)

/-- 'laws.FnExactVarPut': WHATEVER THE INPUT: true; the input reads as it did. -/
def fnExactVarPutSpec : ChangeSpec := { name := "fnExactVarPut", fn := fun _ => fun
  | [d] => { results := [.lit (.bool true)], args := [d] }
  | _ => none }
def fnExactVarPutRow : OpenClaim := { program := "ytgefbfahkfilnaa", sum := "a5de87bb68e08d6e002a9c9e94de3e439a4cbdef9287d9a0602287284609bc4c", func := "loop.example/cordillera/laws.FnExactVarPut", spec := "fnExactVarPut", apart := false }
def FnExactVarPutSaid : Prop := fnExactVarPutRow.holds Try.pinned (OpenSpec.ofChange fnExactVarPutSpec)

/-- ITS FALSE NEIGHBOUR: 'it returns false'. Refute it at one input. -/
def fnExactVarPutWrong : ChangeSpec := { name := "fnExactVarPut", fn := fun _ => fun
  | [d] => { results := [.lit (.bool false)], args := [d] }
  | _ => none }
def FnExactVarPutWrongFalsely : Prop := fnExactVarPutRow.holds Try.pinned (OpenSpec.ofChange fnExactVarPutWrong)

/-- 'laws.FnExactAskOk': WHATEVER THE INPUT: true; the input reads as it did. -/
def fnExactAskOkSpec : ChangeSpec := { name := "fnExactAskOk", fn := fun _ => fun
  | [d] => { results := [.lit (.bool true)], args := [d] }
  | _ => none }
def fnExactAskOkRow : OpenClaim := { program := "ytgefbfahkfilnaa", sum := "a5de87bb68e08d6e002a9c9e94de3e439a4cbdef9287d9a0602287284609bc4c", func := "loop.example/cordillera/laws.FnExactAskOk", spec := "fnExactAskOk", apart := false }
def FnExactAskOkSaid : Prop := fnExactAskOkRow.holds Try.pinned (OpenSpec.ofChange fnExactAskOkSpec)

/-- ITS FALSE NEIGHBOUR: 'it returns false'. Refute it at one input. -/
def fnExactAskOkWrong : ChangeSpec := { name := "fnExactAskOk", fn := fun _ => fun
  | [d] => { results := [.lit (.bool false)], args := [d] }
  | _ => none }
def FnExactAskOkWrongFalsely : Prop := fnExactAskOkRow.holds Try.pinned (OpenSpec.ofChange fnExactAskOkWrong)

/-- 'laws.FnExactVarGet': WHATEVER THE INPUT: true; the input reads as it did. -/
def fnExactVarGetSpec : ChangeSpec := { name := "fnExactVarGet", fn := fun _ => fun
  | [d] => { results := [.lit (.bool true)], args := [d] }
  | _ => none }
def fnExactVarGetRow : OpenClaim := { program := "ytgefbfahkfilnaa", sum := "a5de87bb68e08d6e002a9c9e94de3e439a4cbdef9287d9a0602287284609bc4c", func := "loop.example/cordillera/laws.FnExactVarGet", spec := "fnExactVarGet", apart := false }
def FnExactVarGetSaid : Prop := fnExactVarGetRow.holds Try.pinned (OpenSpec.ofChange fnExactVarGetSpec)

/-- ITS FALSE NEIGHBOUR: 'it returns false'. Refute it at one input. -/
def fnExactVarGetWrong : ChangeSpec := { name := "fnExactVarGet", fn := fun _ => fun
  | [d] => { results := [.lit (.bool false)], args := [d] }
  | _ => none }
def FnExactVarGetWrongFalsely : Prop := fnExactVarGetRow.holds Try.pinned (OpenSpec.ofChange fnExactVarGetWrong)

/-- 'laws.FnExactSumHead': WHATEVER THE INPUT: true; the input reads as it did. -/
def fnExactSumHeadSpec : ChangeSpec := { name := "fnExactSumHead", fn := fun _ => fun
  | [d] => { results := [.lit (.bool true)], args := [d] }
  | _ => none }
def fnExactSumHeadRow : OpenClaim := { program := "ytgefbfahkfilnaa", sum := "a5de87bb68e08d6e002a9c9e94de3e439a4cbdef9287d9a0602287284609bc4c", func := "loop.example/cordillera/laws.FnExactSumHead", spec := "fnExactSumHead", apart := false }
def FnExactSumHeadSaid : Prop := fnExactSumHeadRow.holds Try.pinned (OpenSpec.ofChange fnExactSumHeadSpec)

/-- ITS FALSE NEIGHBOUR: 'it returns false'. Refute it at one input. -/
def fnExactSumHeadWrong : ChangeSpec := { name := "fnExactSumHead", fn := fun _ => fun
  | [d] => { results := [.lit (.bool false)], args := [d] }
  | _ => none }
def FnExactSumHeadWrongFalsely : Prop := fnExactSumHeadRow.holds Try.pinned (OpenSpec.ofChange fnExactSumHeadWrong)

/-- 'laws.FnVarPut': WHATEVER THE INPUT: true; the input reads as it did. -/
def fnVarPutSpec : ChangeSpec := { name := "fnVarPut", fn := fun _ => fun
  | [d1, d2] => { results := [.lit (.bool true)], args := [d1, d2] }
  | _ => none }
def fnVarPutRow : OpenClaim := { program := "ytgefbfahkfilnaa", sum := "a5de87bb68e08d6e002a9c9e94de3e439a4cbdef9287d9a0602287284609bc4c", func := "loop.example/cordillera/laws.FnVarPut", spec := "fnVarPut", apart := false }
def FnVarPutSaid : Prop := fnVarPutRow.holds Try.pinned (OpenSpec.ofChange fnVarPutSpec)

/-- ITS FALSE NEIGHBOUR: 'it returns false'. Refute it at one input. -/
def fnVarPutWrong : ChangeSpec := { name := "fnVarPut", fn := fun _ => fun
  | [d1, d2] => { results := [.lit (.bool false)], args := [d1, d2] }
  | _ => none }
def FnVarPutWrongFalsely : Prop := fnVarPutRow.holds Try.pinned (OpenSpec.ofChange fnVarPutWrong)

/-- 'laws.FnVarGet': WHATEVER THE INPUT: true; the input reads as it did. -/
def fnVarGetSpec : ChangeSpec := { name := "fnVarGet", fn := fun _ => fun
  | [d] => { results := [.lit (.bool true)], args := [d] }
  | _ => none }
def fnVarGetRow : OpenClaim := { program := "ytgefbfahkfilnaa", sum := "a5de87bb68e08d6e002a9c9e94de3e439a4cbdef9287d9a0602287284609bc4c", func := "loop.example/cordillera/laws.FnVarGet", spec := "fnVarGet", apart := false }
def FnVarGetSaid : Prop := fnVarGetRow.holds Try.pinned (OpenSpec.ofChange fnVarGetSpec)

/-- ITS FALSE NEIGHBOUR: 'it returns false'. Refute it at one input. -/
def fnVarGetWrong : ChangeSpec := { name := "fnVarGet", fn := fun _ => fun
  | [d] => { results := [.lit (.bool false)], args := [d] }
  | _ => none }
def FnVarGetWrongFalsely : Prop := fnVarGetRow.holds Try.pinned (OpenSpec.ofChange fnVarGetWrong)

/-- 'laws.FnExactRangeOk': WHATEVER THE INPUT: true; the input reads as it did. -/
def fnExactRangeOkSpec : ChangeSpec := { name := "fnExactRangeOk", fn := fun _ => fun
  | [d] => { results := [.lit (.bool true)], args := [d] }
  | _ => none }
def fnExactRangeOkRow : OpenClaim := { program := "ytgefbfahkfilnaa", sum := "a5de87bb68e08d6e002a9c9e94de3e439a4cbdef9287d9a0602287284609bc4c", func := "loop.example/cordillera/laws.FnExactRangeOk", spec := "fnExactRangeOk", apart := false }
def FnExactRangeOkSaid : Prop := fnExactRangeOkRow.holds Try.pinned (OpenSpec.ofChange fnExactRangeOkSpec)

/-- ITS FALSE NEIGHBOUR: 'it returns false'. Refute it at one input. -/
def fnExactRangeOkWrong : ChangeSpec := { name := "fnExactRangeOk", fn := fun _ => fun
  | [d] => { results := [.lit (.bool false)], args := [d] }
  | _ => none }
def FnExactRangeOkWrongFalsely : Prop := fnExactRangeOkRow.holds Try.pinned (OpenSpec.ofChange fnExactRangeOkWrong)

/-- 'laws.FnExactRangeMany': WHATEVER THE INPUT: true; the input reads as it did. -/
def fnExactRangeManySpec : ChangeSpec := { name := "fnExactRangeMany", fn := fun _ => fun
  | [d] => { results := [.lit (.bool true)], args := [d] }
  | _ => none }
def fnExactRangeManyRow : OpenClaim := { program := "ytgefbfahkfilnaa", sum := "a5de87bb68e08d6e002a9c9e94de3e439a4cbdef9287d9a0602287284609bc4c", func := "loop.example/cordillera/laws.FnExactRangeMany", spec := "fnExactRangeMany", apart := false }
def FnExactRangeManySaid : Prop := fnExactRangeManyRow.holds Try.pinned (OpenSpec.ofChange fnExactRangeManySpec)

/-- ITS FALSE NEIGHBOUR: 'it returns false'. Refute it at one input. -/
def fnExactRangeManyWrong : ChangeSpec := { name := "fnExactRangeMany", fn := fun _ => fun
  | [d] => { results := [.lit (.bool false)], args := [d] }
  | _ => none }
def FnExactRangeManyWrongFalsely : Prop := fnExactRangeManyRow.holds Try.pinned (OpenSpec.ofChange fnExactRangeManyWrong)

/- THE SECOND FORM. 'bulk': how many values and letters a reading holds, each counted each time it is reached (what is shared counts as often as it is met; a slice's spare places count too). A statement '..UptoSaid' is the law's where the arguments, and the package variables that the reading takes, are together of bulk at most 1048576: NARROWER than '..Said'. Prove '..Said' where nothing that the law and all that it calls make is longer than what came in: it says more and counts as full. Else prove '..UptoSaid'. A law counts once. -/
mutual
def uptoBulk {H : Type} : DataW H → Nat
  | .lit (.string bytes) => bytes.length + 1
  | .lit _ => 1
  | .nil => 1
  | .ptr d => uptoBulk d + 1
  | .slice elems spare => uptoBulkAll elems + uptoBulkAll spare + 1
  | .agg parts => uptoBulkAll parts + 1
  | .iface _ d => uptoBulk d + 1
  | .map entries => uptoBulkEntries entries + 1
  | .held _ => 1
def uptoBulkAll {H : Type} : List (DataW H) → Nat
  | [] => 0
  | d :: r => uptoBulk d + uptoBulkAll r
def uptoBulkEntries {H : Type} : List (Lit × DataW H) → Nat
  | [] => 0
  | x :: r => uptoBulkEntry x + uptoBulkEntries r
def uptoBulkEntry {H : Type} : Lit × DataW H → Nat
  | (.string bytes, d) => bytes.length + uptoBulk d + 1
  | (_, d) => uptoBulk d + 1
 end
def uptoSmall : (H : Type) → List (DataW H) → Bool := fun _ ds => decide (uptoBulkAll ds ≤ 1048576)
def OpenSpec.upto (s : _root_.Go.ChangeSpec) : _root_.Go.OpenSpec := { _root_.Go.OpenSpec.ofChange s with cond := some uptoSmall }

/-- 'laws.FnExactConstants', WHERE WHAT IT READS IS OF BULK AT MOST 1048576: true; the input reads as it did. -/
def fnExactConstantsUptoRow : OpenClaim := { program := "ytgefbfahkfilnaa", sum := "a5de87bb68e08d6e002a9c9e94de3e439a4cbdef9287d9a0602287284609bc4c", func := "loop.example/cordillera/laws.FnExactConstants", spec := "fnExactConstants", apart := false, narrowed := true }
def FnExactConstantsUptoSaid : Prop := fnExactConstantsUptoRow.holds Try.pinned (OpenSpec.upto fnExactConstantsSpec)

/-- 'laws.FnExactVarPut', WHERE WHAT IT READS IS OF BULK AT MOST 1048576: true; the input reads as it did. -/
def fnExactVarPutUptoRow : OpenClaim := { program := "ytgefbfahkfilnaa", sum := "a5de87bb68e08d6e002a9c9e94de3e439a4cbdef9287d9a0602287284609bc4c", func := "loop.example/cordillera/laws.FnExactVarPut", spec := "fnExactVarPut", apart := false, narrowed := true }
def FnExactVarPutUptoSaid : Prop := fnExactVarPutUptoRow.holds Try.pinned (OpenSpec.upto fnExactVarPutSpec)

/-- 'laws.FnExactAskOk', WHERE WHAT IT READS IS OF BULK AT MOST 1048576: true; the input reads as it did. -/
def fnExactAskOkUptoRow : OpenClaim := { program := "ytgefbfahkfilnaa", sum := "a5de87bb68e08d6e002a9c9e94de3e439a4cbdef9287d9a0602287284609bc4c", func := "loop.example/cordillera/laws.FnExactAskOk", spec := "fnExactAskOk", apart := false, narrowed := true }
def FnExactAskOkUptoSaid : Prop := fnExactAskOkUptoRow.holds Try.pinned (OpenSpec.upto fnExactAskOkSpec)

/-- 'laws.FnExactVarGet', WHERE WHAT IT READS IS OF BULK AT MOST 1048576: true; the input reads as it did. -/
def fnExactVarGetUptoRow : OpenClaim := { program := "ytgefbfahkfilnaa", sum := "a5de87bb68e08d6e002a9c9e94de3e439a4cbdef9287d9a0602287284609bc4c", func := "loop.example/cordillera/laws.FnExactVarGet", spec := "fnExactVarGet", apart := false, narrowed := true }
def FnExactVarGetUptoSaid : Prop := fnExactVarGetUptoRow.holds Try.pinned (OpenSpec.upto fnExactVarGetSpec)

/-- 'laws.FnExactSumHead', WHERE WHAT IT READS IS OF BULK AT MOST 1048576: true; the input reads as it did. -/
def fnExactSumHeadUptoRow : OpenClaim := { program := "ytgefbfahkfilnaa", sum := "a5de87bb68e08d6e002a9c9e94de3e439a4cbdef9287d9a0602287284609bc4c", func := "loop.example/cordillera/laws.FnExactSumHead", spec := "fnExactSumHead", apart := false, narrowed := true }
def FnExactSumHeadUptoSaid : Prop := fnExactSumHeadUptoRow.holds Try.pinned (OpenSpec.upto fnExactSumHeadSpec)

/-- 'laws.FnVarPut', WHERE WHAT IT READS IS OF BULK AT MOST 1048576: true; the input reads as it did. -/
def fnVarPutUptoRow : OpenClaim := { program := "ytgefbfahkfilnaa", sum := "a5de87bb68e08d6e002a9c9e94de3e439a4cbdef9287d9a0602287284609bc4c", func := "loop.example/cordillera/laws.FnVarPut", spec := "fnVarPut", apart := false, narrowed := true }
def FnVarPutUptoSaid : Prop := fnVarPutUptoRow.holds Try.pinned (OpenSpec.upto fnVarPutSpec)

/-- 'laws.FnVarGet', WHERE WHAT IT READS IS OF BULK AT MOST 1048576: true; the input reads as it did. -/
def fnVarGetUptoRow : OpenClaim := { program := "ytgefbfahkfilnaa", sum := "a5de87bb68e08d6e002a9c9e94de3e439a4cbdef9287d9a0602287284609bc4c", func := "loop.example/cordillera/laws.FnVarGet", spec := "fnVarGet", apart := false, narrowed := true }
def FnVarGetUptoSaid : Prop := fnVarGetUptoRow.holds Try.pinned (OpenSpec.upto fnVarGetSpec)

/-- 'laws.FnExactRangeOk', WHERE WHAT IT READS IS OF BULK AT MOST 1048576: true; the input reads as it did. -/
def fnExactRangeOkUptoRow : OpenClaim := { program := "ytgefbfahkfilnaa", sum := "a5de87bb68e08d6e002a9c9e94de3e439a4cbdef9287d9a0602287284609bc4c", func := "loop.example/cordillera/laws.FnExactRangeOk", spec := "fnExactRangeOk", apart := false, narrowed := true }
def FnExactRangeOkUptoSaid : Prop := fnExactRangeOkUptoRow.holds Try.pinned (OpenSpec.upto fnExactRangeOkSpec)

/-- 'laws.FnExactRangeMany', WHERE WHAT IT READS IS OF BULK AT MOST 1048576: true; the input reads as it did. -/
def fnExactRangeManyUptoRow : OpenClaim := { program := "ytgefbfahkfilnaa", sum := "a5de87bb68e08d6e002a9c9e94de3e439a4cbdef9287d9a0602287284609bc4c", func := "loop.example/cordillera/laws.FnExactRangeMany", spec := "fnExactRangeMany", apart := false, narrowed := true }
def FnExactRangeManyUptoSaid : Prop := fnExactRangeManyUptoRow.holds Try.pinned (OpenSpec.upto fnExactRangeManySpec)

end Rows
end Go.Proofs.Ytgefbfahkfilnaa
