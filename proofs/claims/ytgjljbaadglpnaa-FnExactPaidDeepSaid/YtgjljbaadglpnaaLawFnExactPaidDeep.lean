/- FnExactPaidDeep: the program's PaidDeep returns what the reference's returns, for all arguments. Conditions: none beyond those that the statement tells. -/
import Derived.Test.YtgjljbaadglpnaaRows
import Derived.Test.YtgjljbaadglpnaaPFnExactPaidDeepx7
import Derived.Test.YtgjljbaadglpnaaPureFnExactPaidDeep
import Derived.Test.YtgjljbaadglpnaaPo
import Derived.WalkKit
import Derived.ProofKit
import Derived.OpenShut
import Derived.ShutString
import Derived.ChangeOld
import Derived.Below
import Derived.SizedLaws
namespace Go.Proofs.Ytgjljbaadglpnaa.fnExactPaidDeep
open Go.ChangeShapes Go.WideShapes Go.ChangeAt Go.RowKit Go.Proofs.YtgjljbaadglpnaaW.PrintWords Go.Proofs.Ytgjljbaadglpnaa.Po Go.Proofs.Ytgjljbaadglpnaa.PFnExactPaidDeep
open Go.ChangeMaps (open_string shut_string)
set_option linter.unusedVariables false
theorem own : ownKnob Try.prog.godebug = none := by kernel_rfl
theorem laidOut : laidOutB Try.prog = true := by kernel_rfl
instance : Inhabited S67 := ⟨z67⟩
instance : Inhabited S57 := ⟨z57⟩
section
variable {H : Type} {enc : TypeId × Value → H} {W : World} {base : Nat} {spare : Nat → Bool} {held : Bool}
theorem opens_peak : Opens enc Try.prog W base spare held 67 k67 (fun p => p.f0.size ≤ maxLen) := by
  intro fuel cs x hx
  obtain ⟨⟨s, a, b⟩, hK, hw⟩ := opens_struct3 (s0 := 1) (s1 := 1) (s2 := 1) Try.underlying67 (by kernel_rfl) (by kernel_rfl) (by kernel_rfl) (by kernel_rfl) (by kernel_rfl) (by kernel_rfl) (by kernel_rfl) (opens_string Try.underlying9) (opens_int Try.underlying3) (opens_int Try.underlying3) fuel cs x hx
  exact ⟨⟨s, a, b⟩, hK, hw.1⟩
theorem opens_side : Opens enc Try.prog W base spare held 57 k57 (fun p => p.f0.size ≤ maxLen) := by
  intro fuel cs x hx
  obtain ⟨⟨s, a⟩, hK, hw⟩ := opens_struct2 (s0 := 1) (s1 := 1) Try.underlying57 (by kernel_rfl) (by kernel_rfl) (by kernel_rfl) (by kernel_rfl) (by kernel_rfl) (opens_string Try.underlying9) (opens_bool Try.underlying4) fuel cs x hx
  exact ⟨⟨s, a⟩, hK, hw.1⟩
/-- A head, a proof and what is paid, as pairs of their fields. -/
def kdHead : Kd (ByteArray × ByteArray × Int × Int × Int) := Kd.pair Kd.string (Kd.pair Kd.string (Kd.pair (Kd.int .i64) (Kd.pair (Kd.int .i64) (Kd.int .i64))))
def kdProof : Kd (List S67 × List S67) := Kd.pair (Kd.slice 67 k67) (Kd.slice 67 k67)
theorem opens_head : Opens enc Try.prog W base spare held 23 kdHead (fun p => p.1.size ≤ maxLen ∧ p.2.1.size ≤ maxLen) := by
  intro fuel cs x hx
  obtain ⟨v, hK, hw⟩ := opens_struct5 (s0 := 1) (s1 := 1) (s2 := 1) (s3 := 1) (s4 := 1) Try.underlying23 (by kernel_rfl) (by kernel_rfl) (by kernel_rfl) (by kernel_rfl) (by kernel_rfl) (by kernel_rfl) (by kernel_rfl) (by kernel_rfl) (by kernel_rfl) (by kernel_rfl) (by kernel_rfl) (opens_string Try.underlying9) (opens_string Try.underlying9) (opens_int Try.underlying3) (opens_int Try.underlying3) (opens_int Try.underlying3) fuel cs x hx
  exact ⟨v, hK, hw.1, hw.2.1⟩
theorem opens_peaks : Opens enc Try.prog W base spare held 24 (Kd.slice 67 k67) (fun l => l.length ≤ maxLen ∧ ∀ p ∈ l, p.f0.size ≤ maxLen) := opens_slice (d := k67) Try.underlying24 (by kernel_rfl) opens_peak
theorem opens_sides : Opens enc Try.prog W base spare held 27 (Kd.slice 57 k57) (fun l => l.length ≤ maxLen ∧ ∀ p ∈ l, p.f0.size ≤ maxLen) := opens_slice (d := k57) Try.underlying27 (by kernel_rfl) opens_side
theorem opens_proof : Opens enc Try.prog W base spare held 26 kdProof (fun p => (p.1.length ≤ maxLen ∧ ∀ q ∈ p.1, q.f0.size ≤ maxLen) ∧ (p.2.length ≤ maxLen ∧ ∀ q ∈ p.2, q.f0.size ≤ maxLen)) := by
  intro fuel cs x hx
  exact opens_struct2 (s0 := 1) (s1 := 1) Try.underlying26 (by kernel_rfl) (by kernel_rfl) (by kernel_rfl) (by kernel_rfl) (by kernel_rfl) opens_peaks opens_peaks fuel cs x hx
end
set_option maxRecDepth 100000 in
theorem lifted (os : Os) (started : os.Started) (H : Type) (enc : TypeId × Value → H) :
    ReturnsInHanded {} Try.checked os 3 .any (Rows.fnExactPaidDeepSpec.pre6 enc Try.prog Try.f3 Rows.fnExactPaidDeepRow.domain false) (Rows.fnExactPaidDeepSpec.post enc Try.prog Try.f3 false true false false) := by
  refine returnsInHanded_of_change_sized (C := Try.checked) own started (by kernel_rfl) Try.func3
    (ChangeSpec.witness6 (enc := enc) (C := Try.checked) false ⟨#[], #[.agg #[.int .i64 0, .string ByteArray.empty, .string ByteArray.empty, .int .i64 0, .int .i64 0, .int .i64 0, .slice none 0 0, .slice none 0 0, .slice none 0 0]], []⟩ 8 (by kernel_rfl) (by kernel_rfl) (by kernel_rfl) (by kernel_rfl)) ?_
  intro W base args ds gs before hval0 hW hcnd hsz0 _
  have hval : ∀ (j : Nat) t v, Try.f3.params[j]? = some t → args[j]? = some v → Value.okWide Try.prog W .any base t v := hval0
  have hW' := hW
  obtain ⟨p, q, hA0, hV, rfl, hfz, hnd⟩ := hW
  have hA : DataW.TrodAll enc Try.prog W 0 (fun _ => true) true Try.f3.params.toList args.toList ds p := hA0
  rw [Try.params3] at hA hval
  obtain ⟨v0, vs0, d0, ds0, p0, q0, hargs, rfl, rfl, h0, r0⟩ := trodAll_cons hA
  obtain ⟨rfl, rfl, rfl⟩ := trodAll_nil r0
  obtain rfl : args = #[v0] := by cases args; simp_all
  obtain ⟨rfl, rfl⟩ := trodVars_none hV
  have hv0 := hval 0 29 v0 rfl rfl
  have k0 := h0
  have lt0 : ∀ x ∈ p0, x.block < W.heap.size := by obtain ⟨m, hm⟩ := k0; exact DataW.trod_lt m _ _ _ hm
  have walk_ : Calls Try.prog 3 #[v0] W fun e w' => e = .returned (.bool true) ∧ Below W.heap.size W w' := by
    obtain ⟨cs, rfl, _⟩ := okWide_struct Try.underlying29 hv0
    obtain ⟨fuel, hf⟩ := h0
    obtain ⟨⟨at_, ⟨s, t, x, y, z⟩, ⟨l, m⟩, q⟩, hK, hw⟩ := opens_struct4 (s0 := 1) (s1 := 5) (s2 := 2) (s3 := 1) Try.underlying29 (by kernel_rfl) (by kernel_rfl) (by kernel_rfl) (by kernel_rfl) (by kernel_rfl) (by kernel_rfl) (by kernel_rfl) (by kernel_rfl) (by kernel_rfl) (opens_int Try.underlying3) opens_head opens_proof opens_sides fuel _ _ hf
    obtain ⟨_, _, e1, rfl, _, _, e2, ⟨_, _, e5, rfl, _, _, e6, rfl, _, _, e7, rfl, _, _, e8, rfl, rfl⟩, _, _, e3, ⟨_, _, e4, ⟨A1, c1, rfl, hc1, hC1⟩, ⟨A2, c2, rfl, hc2, hC2⟩⟩, ⟨A3, c3, rfl, hc3, hC3⟩⟩ := hK
    subst e8 e7 e6 e5 e4 e3 e2
    have hml : maxLen = 9223372036854775807 := by decide
    obtain rfl : cs = #[.int .i64 at_, .string s, .string t, .int .i64 x, .int .i64 y, .int .i64 z, .slice A1 l.length c1, .slice A2 m.length c2, .slice A3 q.length c3] := by
      apply Array.toList_inj.1
      exact e1
    rw [hml] at hw
    obtain ⟨k, hk⟩ := Pure.FnExactPaidDeep at_ s t x y z l m q ⟨hw.2.1.1, hw.2.1.2, hw.2.2.1.1, hw.2.2.1.2, hw.2.2.2⟩
    exact laws_FnExactPaidDeep.calls k at_ s t x y z A1 c1 l A2 c2 m A3 c3 q true W hC1 hc1 hC2 hc2 hC3 hc3 hk
  clear hA0 hval0 hsz0
  refine walk_.mono fun e W' ⟨he, bel⟩ => ?_
  subst he
  exact ⟨_, rfl, _, _, _, [], _, [], hW', trodAll_mk1 (shut_bool Try.underlying4 _), (trodAll_cons_mk (Below.trod laidOut (by kernel_rfl) (of_decide_eq_true (by kernel_rfl)) k0 bel lt0) trodAll_mk0), rfl, bel.frame _, fun h => by cases h⟩
theorem over : Rows.fnExactPaidDeepRow.holds Try.pinned (OpenSpec.ofChange Rows.fnExactPaidDeepSpec) :=
  OpenClaim.holds_of_wide 3 Try.f3 rfl rfl rfl rfl rfl rfl rfl ⟨rfl, rfl, rfl, rfl, rfl⟩ rfl rfl rfl rfl rfl (by kernel_rfl) Try.func3 (by kernel_rfl)
    (of_decide_eq_true (by kernel_rfl)) (by unfold Func.isWrapper; first | (rw [if_pos (by decide +kernel)]; kernel_rfl) | (rw [if_neg (by decide +kernel)]; exact ⟨rfl, rfl⟩))
    (fun os started H enc _ => lifted os started H enc)
theorem proved : Rows.FnExactPaidDeepSaid := over
#print axioms proved
end Go.Proofs.Ytgjljbaadglpnaa.fnExactPaidDeep
namespace Go.Proofs.Ytgjljbaadglpnaa
/-- The row, under a short name, for the claim. -/
theorem fnExactPaidDeep_holds : Rows.FnExactPaidDeepSaid := fnExactPaidDeep.proved
end Go.Proofs.Ytgjljbaadglpnaa
