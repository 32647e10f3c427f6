/-
  No cell of these rows narrows 'for every input' (looked for: loops, veiled, ifaces, maps, wideKeys, modest, calm, conditions, laid).
  DERIVED. THE GIVEN ROWS OF THIS SEAT. 7 by the template 'for every input the law returns true; each argument reads behind the call as it read before'; 0 by the template 'total and deterministic' (their statements: YtipmgmiooanghaaTotals.lean).
  GIVEN WITH THE SEED: the statements are not yours to turn. If you find one false, say at which input.
  Laid BY PROGRAM, IN A SANDBOX (cutbox-rows.mjs): the forced cells as the released guide's own fill.sh prints them over the translation d2cb52671256cb61… (all of the seat's roots in one cut). By AI agents, Wed Nov 11 2026. No macro, syntax, notation, axiom, sorry.
-/
import Derived.Test.YtipmgmiooanghaaChecked
import GoSem.Claim
import GoSem.ClaimJoined
import GoSem.ClaimMapViews
import Derived.JoinedTies
import Derived.KernelRfl
namespace Go.Proofs.Ytipmgmiooanghaa
/- THE CELL 'sum', in the pinned program and in every row, IS THE sha256 OF THE DUMP (.gsa) THAT YtipmgmiooanghaaProg.lean LOADS. Nothing in Lean hashes anything: it is a label: what it is worth is what the hold of that sum in a sandbox is worth. -/
noncomputable def Try.pinned : Pinned := { name := "ytipmgmiooanghaa", sum := "d2cb52671256cb61232016a13e9cd4e3e6d733cde8d4ad452f8237d06814adb0", checked := Try.checked }
namespace Rows
def none {H : Type} : Left H := { results := [], args := [] }

/-- 'laws.FnExactRicePut': WHATEVER THE INPUT: true; the input reads as it did. -/
def fnExactRicePutSpec : ChangeSpec := { name := "fnExactRicePut", fn := fun _ => fun
  | [d1, d2] => { results := [.lit (.bool true)], args := [d1, d2] }
  | _ => none }
def fnExactRicePutRow : OpenClaim := { program := "ytipmgmiooanghaa", sum := "d2cb52671256cb61232016a13e9cd4e3e6d733cde8d4ad452f8237d06814adb0", func := "loop.example/cordillera/laws.FnExactRicePut", spec := "fnExactRicePut", apart := false }
def FnExactRicePutSaid : Prop := fnExactRicePutRow.holds Try.pinned (OpenSpec.ofChange fnExactRicePutSpec)

/-- ITS FALSE NEIGHBOUR: 'it returns false'. Refute it at one input. -/
def fnExactRicePutWrong : ChangeSpec := { name := "fnExactRicePut", fn := fun _ => fun
  | [d1, d2] => { results := [.lit (.bool false)], args := [d1, d2] }
  | _ => none }
def FnExactRicePutWrongFalsely : Prop := fnExactRicePutRow.holds Try.pinned (OpenSpec.ofChange fnExactRicePutWrong)

/-- 'laws.FnRicePut': WHATEVER THE INPUT: true; the input reads as it did. -/
def fnRicePutSpec : ChangeSpec := { name := "fnRicePut", fn := fun _ => fun
  | [d] => { results := [.lit (.bool true)], args := [d] }
  | _ => none }
def fnRicePutRow : OpenClaim := { program := "ytipmgmiooanghaa", sum := "d2cb52671256cb61232016a13e9cd4e3e6d733cde8d4ad452f8237d06814adb0", func := "loop.example/cordillera/laws.FnRicePut", spec := "fnRicePut", unfollowed := true, recurses := true, apart := false }
def FnRicePutSaid : Prop := fnRicePutRow.holds Try.pinned (OpenSpec.ofChange fnRicePutSpec)

/-- ITS FALSE NEIGHBOUR: 'it returns false'. Refute it at one input. -/
def fnRicePutWrong : ChangeSpec := { name := "fnRicePut", fn := fun _ => fun
  | [d] => { results := [.lit (.bool false)], args := [d] }
  | _ => none }
def FnRicePutWrongFalsely : Prop := fnRicePutRow.holds Try.pinned (OpenSpec.ofChange fnRicePutWrong)

/-- 'laws.FnSumHead': WHATEVER THE INPUT: true; the input reads as it did. -/
def fnSumHeadSpec : ChangeSpec := { name := "fnSumHead", fn := fun _ => fun
  | [d] => { results := [.lit (.bool true)], args := [d] }
  | _ => none }
def fnSumHeadRow : OpenClaim := { program := "ytipmgmiooanghaa", sum := "d2cb52671256cb61232016a13e9cd4e3e6d733cde8d4ad452f8237d06814adb0", func := "loop.example/cordillera/laws.FnSumHead", spec := "fnSumHead", apart := false }
def FnSumHeadSaid : Prop := fnSumHeadRow.holds Try.pinned (OpenSpec.ofChange fnSumHeadSpec)

/-- ITS FALSE NEIGHBOUR: 'it returns false'. Refute it at one input. -/
def fnSumHeadWrong : ChangeSpec := { name := "fnSumHead", fn := fun _ => fun
  | [d] => { results := [.lit (.bool false)], args := [d] }
  | _ => none }
def FnSumHeadWrongFalsely : Prop := fnSumHeadRow.holds Try.pinned (OpenSpec.ofChange fnSumHeadWrong)

/-- 'laws.FnExactRiceGet': WHATEVER THE INPUT: true; the input reads as it did. -/
def fnExactRiceGetSpec : ChangeSpec := { name := "fnExactRiceGet", fn := fun _ => fun
  | [d1, d2, d3] => { results := [.lit (.bool true)], args := [d1, d2, d3] }
  | _ => none }
def fnExactRiceGetRow : OpenClaim := { program := "ytipmgmiooanghaa", sum := "d2cb52671256cb61232016a13e9cd4e3e6d733cde8d4ad452f8237d06814adb0", func := "loop.example/cordillera/laws.FnExactRiceGet", spec := "fnExactRiceGet", unfollowed := true, recurses := true, apart := false }
def FnExactRiceGetSaid : Prop := fnExactRiceGetRow.holds Try.pinned (OpenSpec.ofChange fnExactRiceGetSpec)

/-- ITS FALSE NEIGHBOUR: 'it returns false'. Refute it at one input. -/
def fnExactRiceGetWrong : ChangeSpec := { name := "fnExactRiceGet", fn := fun _ => fun
  | [d1, d2, d3] => { results := [.lit (.bool false)], args := [d1, d2, d3] }
  | _ => none }
def FnExactRiceGetWrongFalsely : Prop := fnExactRiceGetRow.holds Try.pinned (OpenSpec.ofChange fnExactRiceGetWrong)

/-- 'laws.FnRiceGet': WHATEVER THE INPUT: true; the input reads as it did. -/
def fnRiceGetSpec : ChangeSpec := { name := "fnRiceGet", fn := fun _ => fun
  | [d] => { results := [.lit (.bool true)], args := [d] }
  | _ => none }
def fnRiceGetRow : OpenClaim := { program := "ytipmgmiooanghaa", sum := "d2cb52671256cb61232016a13e9cd4e3e6d733cde8d4ad452f8237d06814adb0", func := "loop.example/cordillera/laws.FnRiceGet", spec := "fnRiceGet", unfollowed := true, recurses := true, apart := false }
def FnRiceGetSaid : Prop := fnRiceGetRow.holds Try.pinned (OpenSpec.ofChange fnRiceGetSpec)

/-- ITS FALSE NEIGHBOUR: 'it returns false'. Refute it at one input. -/
def fnRiceGetWrong : ChangeSpec := { name := "fnRiceGet", fn := fun _ => fun
  | [d] => { results := [.lit (.bool false)], args := [d] }
  | _ => none }
def FnRiceGetWrongFalsely : Prop := fnRiceGetRow.holds Try.pinned (OpenSpec.ofChange fnRiceGetWrong)

/-- 'laws.FnExactFilterGet': WHATEVER THE INPUT: true; the input reads as it did. -/
def fnExactFilterGetSpec : ChangeSpec := { name := "fnExactFilterGet", fn := fun _ => fun
  | [d] => { results := [.lit (.bool true)], args := [d] }
  | _ => none }
def fnExactFilterGetRow : OpenClaim := { program := "ytipmgmiooanghaa", sum := "d2cb52671256cb61232016a13e9cd4e3e6d733cde8d4ad452f8237d06814adb0", func := "loop.example/cordillera/laws.FnExactFilterGet", spec := "fnExactFilterGet", unfollowed := true, recurses := true, apart := false }
def FnExactFilterGetSaid : Prop := fnExactFilterGetRow.holds Try.pinned (OpenSpec.ofChange fnExactFilterGetSpec)

/-- ITS FALSE NEIGHBOUR: 'it returns false'. Refute it at one input. -/
def fnExactFilterGetWrong : ChangeSpec := { name := "fnExactFilterGet", fn := fun _ => fun
  | [d] => { results := [.lit (.bool false)], args := [d] }
  | _ => none }
def FnExactFilterGetWrongFalsely : Prop := fnExactFilterGetRow.holds Try.pinned (OpenSpec.ofChange fnExactFilterGetWrong)

/-- 'laws.FnFilterGet': WHATEVER THE INPUT: true; the input reads as it did. -/
def fnFilterGetSpec : ChangeSpec := { name := "fnFilterGet", fn := fun _ => fun
  | [d] => { results := [.lit (.bool true)], args := [d] }
  | _ => none }
def fnFilterGetRow : OpenClaim := { program := "ytipmgmiooanghaa", sum := "d2cb52671256cb61232016a13e9cd4e3e6d733cde8d4ad452f8237d06814adb0", func := "loop.example/cordillera/laws.FnFilterGet", spec := "fnFilterGet", unfollowed := true, recurses := true, apart := false }
def FnFilterGetSaid : Prop := fnFilterGetRow.holds Try.pinned (OpenSpec.ofChange fnFilterGetSpec)

/-- ITS FALSE NEIGHBOUR: 'it returns false'. Refute it at one input. -/
def fnFilterGetWrong : ChangeSpec := { name := "fnFilterGet", fn := fun _ => fun
  | [d] => { results := [.lit (.bool false)], args := [d] }
  | _ => none }
def FnFilterGetWrongFalsely : Prop := fnFilterGetRow.holds Try.pinned (OpenSpec.ofChange fnFilterGetWrong)

/- THE SECOND FORM. 'bulk': how many values and letters a reading holds, each counted each time it is reached (what is shared counts as often as it is met; a slice's spare places count too). A statement '..UptoSaid' is the law's where the arguments, and the package variables that the reading takes, are together of bulk at most 1048576: NARROWER than '..Said'. Prove '..Said' where nothing that the law and all that it calls make is longer than what came in: it says more and counts as full. Else prove '..UptoSaid'. A law counts once. -/
mutual
def uptoBulk {H : Type} : DataW H → Nat
  | .lit (.string bytes) => bytes.length + 1
  | .lit _ => 1
  | .nil => 1
  | .ptr d => uptoBulk d + 1
  | .slice elems spare => uptoBulkAll elems + uptoBulkAll spare + 1
  | .agg parts => uptoBulkAll parts + 1
  | .iface _ d => uptoBulk d + 1
  | .map entries => uptoBulkEntries entries + 1
  | .held _ => 1
def uptoBulkAll {H : Type} : List (DataW H) → Nat
  | [] => 0
  | d :: r => uptoBulk d + uptoBulkAll r
def uptoBulkEntries {H : Type} : List (Lit × DataW H) → Nat
  | [] => 0
  | x :: r => uptoBulkEntry x + uptoBulkEntries r
def uptoBulkEntry {H : Type} : Lit × DataW H → Nat
  | (.string bytes, d) => bytes.length + uptoBulk d + 1
  | (_, d) => uptoBulk d + 1
 end
def uptoSmall : (H : Type) → List (DataW H) → Bool := fun _ ds => decide (uptoBulkAll ds ≤ 1048576)
def OpenSpec.upto (s : _root_.Go.ChangeSpec) : _root_.Go.OpenSpec := { _root_.Go.OpenSpec.ofChange s with cond := some uptoSmall }

/-- 'laws.FnExactRicePut', WHERE WHAT IT READS IS OF BULK AT MOST 1048576: true; the input reads as it did. -/
def fnExactRicePutUptoRow : OpenClaim := { program := "ytipmgmiooanghaa", sum := "d2cb52671256cb61232016a13e9cd4e3e6d733cde8d4ad452f8237d06814adb0", func := "loop.example/cordillera/laws.FnExactRicePut", spec := "fnExactRicePut", apart := false, narrowed := true }
def FnExactRicePutUptoSaid : Prop := fnExactRicePutUptoRow.holds Try.pinned (OpenSpec.upto fnExactRicePutSpec)

/-- 'laws.FnRicePut', WHERE WHAT IT READS IS OF BULK AT MOST 1048576: true; the input reads as it did. -/
def fnRicePutUptoRow : OpenClaim := { program := "ytipmgmiooanghaa", sum := "d2cb52671256cb61232016a13e9cd4e3e6d733cde8d4ad452f8237d06814adb0", func := "loop.example/cordillera/laws.FnRicePut", spec := "fnRicePut", unfollowed := true, recurses := true, apart := false, narrowed := true }
def FnRicePutUptoSaid : Prop := fnRicePutUptoRow.holds Try.pinned (OpenSpec.upto fnRicePutSpec)

/-- 'laws.FnSumHead', WHERE WHAT IT READS IS OF BULK AT MOST 1048576: true; the input reads as it did. -/
def fnSumHeadUptoRow : OpenClaim := { program := "ytipmgmiooanghaa", sum := "d2cb52671256cb61232016a13e9cd4e3e6d733cde8d4ad452f8237d06814adb0", func := "loop.example/cordillera/laws.FnSumHead", spec := "fnSumHead", apart := false, narrowed := true }
def FnSumHeadUptoSaid : Prop := fnSumHeadUptoRow.holds Try.pinned (OpenSpec.upto fnSumHeadSpec)

/-- 'laws.FnExactRiceGet', WHERE WHAT IT READS IS OF BULK AT MOST 1048576: true; the input reads as it did. -/
def fnExactRiceGetUptoRow : OpenClaim := { program := "ytipmgmiooanghaa", sum := "d2cb52671256cb61232016a13e9cd4e3e6d733cde8d4ad452f8237d06814adb0", func := "loop.example/cordillera/laws.FnExactRiceGet", spec := "fnExactRiceGet", unfollowed := true, recurses := true, apart := false, narrowed := true }
def FnExactRiceGetUptoSaid : Prop := fnExactRiceGetUptoRow.holds Try.pinned (OpenSpec.upto fnExactRiceGetSpec)

/-- 'laws.FnRiceGet', WHERE WHAT IT READS IS OF BULK AT MOST 1048576: true; the input reads as it did. -/
def fnRiceGetUptoRow : OpenClaim := { program := "ytipmgmiooanghaa", sum := "d2cb52671256cb61232016a13e9cd4e3e6d733cde8d4ad452f8237d06814adb0", func := "loop.example/cordillera/laws.FnRiceGet", spec := "fnRiceGet", unfollowed := true, recurses := true, apart := false, narrowed := true }
def FnRiceGetUptoSaid : Prop := fnRiceGetUptoRow.holds Try.pinned (OpenSpec.upto fnRiceGetSpec)

/-- 'laws.FnExactFilterGet', WHERE WHAT IT READS IS OF BULK AT MOST 1048576: true; the input reads as it did. -/
def fnExactFilterGetUptoRow : OpenClaim := { program := "ytipmgmiooanghaa", sum := "d2cb52671256cb61232016a13e9cd4e3e6d733cde8d4ad452f8237d06814adb0", func := "loop.example/cordillera/laws.FnExactFilterGet", spec := "fnExactFilterGet", unfollowed := true, recurses := true, apart := false, narrowed := true }
def FnExactFilterGetUptoSaid : Prop := fnExactFilterGetUptoRow.holds Try.pinned (OpenSpec.upto fnExactFilterGetSpec)

/-- 'laws.FnFilterGet', WHERE WHAT IT READS IS OF BULK AT MOST 1048576: true; the input reads as it did. -/
def fnFilterGetUptoRow : OpenClaim := { program := "ytipmgmiooanghaa", sum := "d2cb52671256cb61232016a13e9cd4e3e6d733cde8d4ad452f8237d06814adb0", func := "loop.example/cordillera/laws.FnFilterGet", spec := "fnFilterGet", unfollowed := true, recurses := true, apart := false, narrowed := true }
def FnFilterGetUptoSaid : Prop := fnFilterGetUptoRow.holds Try.pinned (OpenSpec.upto fnFilterGetSpec)

end Rows
end Go.Proofs.Ytipmgmiooanghaa
