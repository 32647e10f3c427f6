/- FnExactRangeMany: the program's RangeMany returns what the reference's returns, for all arguments. Conditions: none beyond those that the statement tells. -/
import Derived.Test.YtgefbfahkfilnaaRows
import Derived.Test.YtgefbfahkfilnaaPFnExactRangeManyx6
import Derived.Test.YtgefbfahkfilnaaPureFnExactRangeMany
import Derived.Test.YtgefbfahkfilnaaPo
import Derived.WalkKit
import Derived.ProofKit
import Derived.OpenShut
import Derived.ShutString
import Derived.ChangeOld
import Derived.Below
import Derived.SizedLaws
namespace Go.Proofs.Ytgefbfahkfilnaa.fnExactRangeMany
open Go.ChangeShapes Go.WideShapes Go.ChangeAt Go.RowKit Go.Proofs.YtgefbfahkfilnaaW.PrintWords Go.Proofs.Ytgefbfahkfilnaa.Po Go.Proofs.Ytgefbfahkfilnaa.PFnExactRangeMany
open Go.ChangeMaps (open_string shut_string)
set_option linter.unusedVariables false
theorem own : ownKnob Try.prog.godebug = none := by kernel_rfl
theorem laidOut : laidOutB Try.prog = true := by kernel_rfl
theorem opens_peak {H : Type} {enc : TypeId × Value → H} {W : World} {base : Nat} {spare : Nat → Bool} {held : Bool} : Opens enc Try.prog W base spare held 58 k58 (fun p => p.f0.size ≤ maxLen) := by
  intro fuel cs x hx
  obtain ⟨⟨s, a, b⟩, hK, hw⟩ := opens_struct3 (s0 := 1) (s1 := 1) (s2 := 1) Try.underlying58 (by kernel_rfl) (by kernel_rfl) (by kernel_rfl) (by kernel_rfl) (by kernel_rfl) (by kernel_rfl) (by kernel_rfl) (opens_string Try.underlying9) (opens_int Try.underlying3) (opens_int Try.underlying3) fuel cs x hx
  exact ⟨⟨s, a, b⟩, hK, hw.1⟩
instance : Inhabited S58 := ⟨z58⟩
set_option maxRecDepth 100000 in
theorem lifted (os : Os) (started : os.Started) (H : Type) (enc : TypeId × Value → H) :
    ReturnsInHanded {} Try.checked os 11 .any (Rows.fnExactRangeManySpec.pre6 enc Try.prog Try.f11 Rows.fnExactRangeManyRow.domain false) (Rows.fnExactRangeManySpec.post enc Try.prog Try.f11 false true false false) := by
  refine returnsInHanded_of_change_sized (C := Try.checked) own started (by kernel_rfl) Try.func11
    (ChangeSpec.witness6 (enc := enc) (C := Try.checked) false ⟨#[], #[.slice none 0 0], []⟩ 8 (by kernel_rfl) (by kernel_rfl) (by kernel_rfl) (by kernel_rfl)) ?_
  intro W base args ds gs before hval0 hW hcnd hsz0 _
  have hval : ∀ (j : Nat) t v, Try.f11.params[j]? = some t → args[j]? = some v → Value.okWide Try.prog W .any base t v := hval0
  have hW' := hW
  obtain ⟨p, q, hA0, hV, rfl, hfz, hnd⟩ := hW
  have hA : DataW.TrodAll enc Try.prog W 0 (fun _ => true) true Try.f11.params.toList args.toList ds p := hA0
  rw [Try.params11] at hA hval
  obtain ⟨v0, vs0, d0, ds0, p0, q0, hargs, rfl, rfl, h0, r0⟩ := trodAll_cons hA
  obtain ⟨rfl, rfl, rfl⟩ := trodAll_nil r0
  obtain rfl : args = #[v0] := by cases args; simp_all
  obtain ⟨rfl, rfl⟩ := trodVars_none hV
  have hv0 := hval 0 40 v0 rfl rfl
  have k0 := h0
  have lt0 : ∀ x ∈ p0, x.block < W.heap.size := by obtain ⟨m, hm⟩ := k0; exact DataW.trod_lt m _ _ _ hm
  have walk_ : Calls Try.prog 11 #[v0] W fun e w' => e = .returned (.bool true) ∧ Below W.heap.size W w' := by
    obtain ⟨A0, len0, cap0, rfl⟩ := okWide_slice Try.underlying40 hv0
    obtain ⟨fuel, hf⟩ := h0
    obtain ⟨l, ⟨A1, c1, he, hlc, hC⟩, hl, hw⟩ := opens_slice (d := k58) Try.underlying40 (by kernel_rfl) opens_peak fuel _ _ hf
    have hml : maxLen = 9223372036854775807 := by decide
    simp only [Value.cells, List.singleton_inj, Value.slice.injEq] at he
    obtain ⟨rfl, rfl, rfl⟩ := he
    obtain ⟨k, hk⟩ := Pure.FnExactRangeMany l (by rw [← hml]; exact hl) (fun p hp => by rw [← hml]; exact hw p hp)
    exact laws_FnExactRangeMany.calls k A0 cap0 l true W hC hlc hk
  clear hA0 hval0 hsz0
  refine walk_.mono fun e W' ⟨he, bel⟩ => ?_
  subst he
  exact ⟨_, rfl, _, _, _, [], _, [], hW', trodAll_mk1 (shut_bool Try.underlying4 _), (trodAll_cons_mk (Below.trod laidOut (by kernel_rfl) (of_decide_eq_true (by kernel_rfl)) k0 bel lt0) trodAll_mk0), rfl, bel.frame _, fun h => by cases h⟩
theorem over : Rows.fnExactRangeManyRow.holds Try.pinned (OpenSpec.ofChange Rows.fnExactRangeManySpec) :=
  OpenClaim.holds_of_wide 11 Try.f11 rfl rfl rfl rfl rfl rfl rfl ⟨rfl, rfl, rfl, rfl, rfl⟩ rfl rfl rfl rfl rfl (by kernel_rfl) Try.func11 (by kernel_rfl)
    (of_decide_eq_true (by kernel_rfl)) (by unfold Func.isWrapper; first | (rw [if_pos (by decide +kernel)]; kernel_rfl) | (rw [if_neg (by decide +kernel)]; exact ⟨rfl, rfl⟩))
    (fun os started H enc _ => lifted os started H enc)
theorem proved : Rows.FnExactRangeManySaid := over
#print axioms proved
end Go.Proofs.Ytgefbfahkfilnaa.fnExactRangeMany
namespace Go.Proofs.Ytgefbfahkfilnaa
/-- The row, under a short name, for the claim. -/
theorem fnExactRangeMany_holds : Rows.FnExactRangeManySaid := fnExactRangeMany.proved
end Go.Proofs.Ytgefbfahkfilnaa
