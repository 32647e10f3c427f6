/- What FnExactPaidPut computes is true for all that is paid. Conditions: none beyond those that the card tells. -/
import Derived.Test.YtgjljbaadglpnaaDoorRows
import Derived.Test.YtgjljbaadglpnaaDoorCards
import Derived.Test.YtgjljbaadglpnaaDoorTie
import Derived.Test.YtgjljbaadglpnaaDoorPFnExactPaidPutx14
import Derived.Test.YtgjljbaadglpnaaDoorPureFnExactPaidPut
import Derived.Test.YtgjljbaadglpnaaDoorPo
import Derived.WalkKit
import Derived.ProofKit
import Derived.OpenShut
import Derived.ShutString
import Derived.ChangeOld
import Derived.Below
import Derived.SizedLaws
import Derived.LaidMore
import Derived.Stop.Joined
import Derived.Stop.LaidErr
import Derived.HandedShaped
import Derived.SevenTiedAt
import Derived.PinnedBridge
import Derived.Shelf.Vars
namespace Go.Proofs.YtgjljbaadglpnaaDoor.fnExactPaidPut
open Go.ChangeShapes Go.WideShapes Go.ChangeAt Go.RowKit Go.Proofs.YtgjljbaadglpnaaDoorW.PrintWords Go.Proofs.YtgjljbaadglpnaaDoor.Po Go.Proofs.YtgjljbaadglpnaaDoor.PFnExactPaidPut
open Go.ChangeMaps (open_string shut_string)
set_option linter.unusedVariables false
theorem own : ownKnob Tryd.prog.godebug = none := by kernel_rfl
theorem laidOut : laidOutB Tryd.prog = true := by kernel_rfl
instance : Inhabited S124 := ⟨z124⟩
instance : Inhabited S107 := ⟨z107⟩
section
variable {H : Type} {enc : TypeId × Value → H} {W : World} {base : Nat} {spare : Nat → Bool} {held : Bool}
theorem opens_peak : Opens enc Tryd.prog W base spare held 124 k124 (fun p => p.f0.size ≤ maxLen) := by
  intro fuel cs x hx
  obtain ⟨⟨s, a, b⟩, hK, hw⟩ := opens_struct3 (s0 := 1) (s1 := 1) (s2 := 1) Tryd.underlying124 (by kernel_rfl) (by kernel_rfl) (by kernel_rfl) (by kernel_rfl) (by kernel_rfl) (by kernel_rfl) (by kernel_rfl) (opens_string Tryd.underlying9) (opens_int Tryd.underlying3) (opens_int Tryd.underlying3) fuel cs x hx
  exact ⟨⟨s, a, b⟩, hK, hw.1⟩
theorem opens_side : Opens enc Tryd.prog W base spare held 107 k107 (fun p => p.f0.size ≤ maxLen) := by
  intro fuel cs x hx
  obtain ⟨⟨s, a⟩, hK, hw⟩ := opens_struct2 (s0 := 1) (s1 := 1) Tryd.underlying107 (by kernel_rfl) (by kernel_rfl) (by kernel_rfl) (by kernel_rfl) (by kernel_rfl) (opens_string Tryd.underlying9) (opens_bool Tryd.underlying4) fuel cs x hx
  exact ⟨⟨s, a⟩, hK, hw.1⟩
/-- A head, a proof and what is paid, as pairs of their fields. -/
def kdHead : Kd (ByteArray × ByteArray × Int × Int × Int) := Kd.pair Kd.string (Kd.pair Kd.string (Kd.pair (Kd.int .i64) (Kd.pair (Kd.int .i64) (Kd.int .i64))))
def kdProof : Kd (List S124 × List S124) := Kd.pair (Kd.slice 124 k124) (Kd.slice 124 k124)
theorem opens_head : Opens enc Tryd.prog W base spare held 35 kdHead (fun p => p.1.size ≤ maxLen ∧ p.2.1.size ≤ maxLen) := by
  intro fuel cs x hx
  obtain ⟨v, hK, hw⟩ := opens_struct5 (s0 := 1) (s1 := 1) (s2 := 1) (s3 := 1) (s4 := 1) Tryd.underlying35 (by kernel_rfl) (by kernel_rfl) (by kernel_rfl) (by kernel_rfl) (by kernel_rfl) (by kernel_rfl) (by kernel_rfl) (by kernel_rfl) (by kernel_rfl) (by kernel_rfl) (by kernel_rfl) (opens_string Tryd.underlying9) (opens_string Tryd.underlying9) (opens_int Tryd.underlying3) (opens_int Tryd.underlying3) (opens_int Tryd.underlying3) fuel cs x hx
  exact ⟨v, hK, hw.1, hw.2.1⟩
theorem opens_peaks : Opens enc Tryd.prog W base spare held 43 (Kd.slice 124 k124) (fun l => l.length ≤ maxLen ∧ ∀ p ∈ l, p.f0.size ≤ maxLen) := opens_slice (d := k124) Tryd.underlying43 (by kernel_rfl) opens_peak
theorem opens_sides : Opens enc Tryd.prog W base spare held 46 (Kd.slice 107 k107) (fun l => l.length ≤ maxLen ∧ ∀ p ∈ l, p.f0.size ≤ maxLen) := opens_slice (d := k107) Tryd.underlying46 (by kernel_rfl) opens_side
theorem opens_proof : Opens enc Tryd.prog W base spare held 45 kdProof (fun p => (p.1.length ≤ maxLen ∧ ∀ q ∈ p.1, q.f0.size ≤ maxLen) ∧ (p.2.length ≤ maxLen ∧ ∀ q ∈ p.2, q.f0.size ≤ maxLen)) := by
  intro fuel cs x hx
  exact opens_struct2 (s0 := 1) (s1 := 1) Tryd.underlying45 (by kernel_rfl) (by kernel_rfl) (by kernel_rfl) (by kernel_rfl) (by kernel_rfl) opens_peaks opens_peaks fuel cs x hx
end
/-- The heap that start-up leaves meets what the row lists. -/
theorem door_met (os : Os) (args : Array Value) : laidMetH Tryd.prog Rows.fnExactPaidPutRow.laid ((World.doorLaid Tryd.prog 34 os).forCall (fun _ _ => 0) ⟨#[], args, []⟩).memory :=
  laidMetH_of_parts3 (fuel := 8) (laidMet_of_run' 8 (by kernel_rfl) (by kernel_rfl)) (by kernel_rfl) (by kernel_rfl)
theorem handed {H : Type} {enc : TypeId × Value → H} {a : Assume} {C : Checked} {os : Os} {f : FuncId} {fn : Func} {s : ChangeSpec} {conds : List PathCond} {apart fresh handsOn again : Bool} {X : World → Array Value → Prop}
    (hX : ∀ (w w' : World) (args : Array Value), w.heap = w'.heap → X w args → X w' args) (own : ownKnob C.prog.godebug = none) (started : os.Started) (noInit : C.prog.inits.idxOf? f = none) (hfn : C.prog.funcs[f]? = some fn)
    (witness : ∃ (w : World) (tape : Tape) (i : Input), w.os = os ∧ (w.forCall tape i).Shaped C.prog ∧ i.vars = [] ∧ Input.okWide C.prog (w.forCall tape i) .any w.heap.size f i ∧
      ((s.pre enc C.prog fn conds apart (w.forCall tape i).memory i.args ∧ X (w.forCall tape i).memory i.args) ∧ sizedMet enc C.prog fn (OpenSpec.ofChange s) apart (w.forCall tape i).memory i.args) ∧ a.holds C.prog (lone (Frame.enter C.prog f i.args .normal) [] (w.forCall tape i)))
    (contract : ∀ (W : World) (base : Nat) (args : Array Value) (ds gs : List (DataW H)) (before : List MemPlace), (∀ (j : Nat) t v, fn.params[j]? = some t → args[j]? = some v → Value.okWide C.prog W .any base t v) →
      DataW.Whole enc C.prog fn.params.toList s.vars apart W args.toList ds gs before → conds.all (PathCond.test C.prog ⟨fn.params.toList, ds, s.plain.varTypes C.prog, gs⟩) = true →
      (DataW.weightsEach C.prog (fn.params.toList ++ s.plain.varTypes C.prog) (ds ++ gs)).all (· ≤ reachBytes) = true → X W args → W.ShapedOpen C.prog → a.holds C.prog (lone (Frame.enter C.prog f args .normal) [] W) →
      Calls C.prog f args W fun e W' => ∃ v, e = .returned v ∧ s.post enc C.prog fn apart fresh handsOn again W args v W') :
    ReturnsInHanded a C os f .any (fun w args => (s.pre enc C.prog fn conds apart w args ∧ X w args) ∧ sizedMet enc C.prog fn (OpenSpec.ofChange s) apart w args) (s.post enc C.prog fn apart fresh handsOn again) := by
  refine returnsInHanded_of_calls own started noInit witness ?_
  intro w tape i _ hsh _ hok hpre hholds
  obtain ⟨_, _, _, fn', hfn', _, _, _, _, hval⟩ := hok
  have e : fn' = fn := Option.some.inj (hfn'.symm.trans hfn)
  subst e
  obtain ⟨⟨⟨ds, gs, before, hw, hc⟩, hx⟩, hz⟩ := hpre
  have hw' := DataW.Whole.of_heap (w' := w.forCall tape i) (by rfl) hw
  refine (contract (w.forCall tape i) w.heap.size i.args ds gs before hval hw' hc (hz.weights hw) (hX _ _ _ (by rfl) hx) hsh hholds).mono fun e W' ⟨v, he, hp⟩ => ?_
  subst he
  exact ChangeSpec.post_blind hp
theorem tab_of {W : World} (h : laidMetH Tryd.prog Rows.fnExactPaidPutRow.laid W) : Sh.HasT W := by
  rw [MakeChecks.laidMetH_plain _ _ _ (by kernel_rfl)] at h
  exact Lib.tabIs_of_head (t := 147) (e := 135) (n := 20) Sh.gT (by kernel_rfl) Tryd.underlying147 Tryd.underlying135 (by kernel_rfl) (by kernel_rfl) (show laidMet Tryd.prog ((_, Lib.tabData .u64 Lib.pow10Tab) :: _) W from h.tail.tail)
set_option maxRecDepth 100000 in
theorem lifted (os : Os) (started : os.Started) (H : Type) (enc : TypeId × Value → H) :
    ReturnsInHanded {} Tryd.checked os 6 .any (fun w args => (Rows.fnExactPaidPutSpec.pre enc Tryd.prog Tryd.f6 [] false w args ∧ laidMetH Tryd.prog Rows.fnExactPaidPutRow.laid w) ∧ sizedMet enc Tryd.prog Tryd.f6 (OpenSpec.ofChange Rows.fnExactPaidPutSpec) false w args)
      (Rows.fnExactPaidPutSpec.post enc Tryd.prog Tryd.f6 false true false false) := by
  refine handed (C := Tryd.checked) (X := fun w _ => laidMetH Tryd.prog Rows.fnExactPaidPutRow.laid w) (fun _ _ _ hh h => h.of_heap hh) own started (by kernel_rfl) Tryd.func6
    (ChangeSpec.witness_shaped (enc := enc) (C := Tryd.checked) (os := os) (X := fun w _ => laidMetH Tryd.prog Rows.fnExactPaidPutRow.laid w) false (World.doorLaid Tryd.prog 34 os) #[.agg #[.int .i64 0, .string ByteArray.empty, .string ByteArray.empty, .int .i64 0, .int .i64 0, .int .i64 0, .slice none 0 0, .slice none 0 0, .slice none 0 0]] 8 rfl (World.shaped_of_RefB (by kernel_rfl) (by kernel_rfl)) (by kernel_rfl) (by kernel_rfl) (by kernel_rfl) (door_met os _)) ?_
  intro W base args ds gs before hval0 hW _ hsz0 hL hsh _
  have hval : ∀ (j : Nat) t v, Tryd.f6.params[j]? = some t → args[j]? = some v → Value.okWide Tryd.prog W .any base t v := hval0
  have hW' := hW
  obtain ⟨p, q, hA0, hV, rfl, hfz, hnd⟩ := hW
  have hA : DataW.TrodAll enc Tryd.prog W 0 (fun _ => true) true Tryd.f6.params.toList args.toList ds p := hA0
  rw [Tryd.params6] at hA hval
  obtain ⟨v0, vs0, d0, ds0, p0, q0, hargs, rfl, rfl, h0, r0⟩ := trodAll_cons hA
  obtain ⟨rfl, rfl, rfl⟩ := trodAll_nil r0
  obtain rfl : args = #[v0] := by cases args; simp_all
  obtain ⟨rfl, rfl⟩ := trodVars_none hV
  have hv0 := hval 0 48 v0 rfl rfl
  have k0 := h0
  have lt0 : ∀ x ∈ p0, x.block < W.heap.size := by obtain ⟨m, hm⟩ := k0; exact DataW.trod_lt m _ _ _ hm
  have kT := tab_of hL
  have hsz : (DataW.weightsEach Tryd.prog (Tryd.f6.params.toList ++ Rows.fnExactPaidPutSpec.plain.varTypes Tryd.prog) ([d0] ++ [])).all (· ≤ reachBytes) = true := hsz0
  rw [Tryd.params6] at hsz
  have walk_ : Calls Tryd.prog 6 #[v0] W fun e w' => e = .returned (.bool true) ∧ Below W.heap.size W w' := by
    obtain ⟨cs, rfl, _⟩ := okWide_struct Tryd.underlying48 hv0
    obtain ⟨fuel, hf⟩ := h0
    obtain ⟨⟨at_, ⟨s, t, x, y, z⟩, ⟨l, m⟩, q⟩, hK, hw⟩ := opens_struct4 (s0 := 1) (s1 := 5) (s2 := 2) (s3 := 1) Tryd.underlying48 (by kernel_rfl) (by kernel_rfl) (by kernel_rfl) (by kernel_rfl) (by kernel_rfl) (by kernel_rfl) (by kernel_rfl) (by kernel_rfl) (by kernel_rfl) (opens_int Tryd.underlying3) opens_head opens_proof opens_sides fuel _ _ hf
    obtain ⟨_, _, e1, rfl, _, _, e2, ⟨_, _, e5, rfl, _, _, e6, rfl, _, _, e7, rfl, _, _, e8, rfl, rfl⟩, _, _, e3, ⟨_, _, e4, ⟨A1, c1, rfl, hc1, hC1⟩, ⟨A2, c2, rfl, hc2, hC2⟩⟩, ⟨A3, c3, rfl, hc3, hC3⟩⟩ := hK
    subst e8 e7 e6 e5 e4 e3 e2
    have hml : maxLen = 9223372036854775807 := by decide
    obtain rfl : cs = #[.int .i64 at_, .string s, .string t, .int .i64 x, .int .i64 y, .int .i64 z, .slice A1 l.length c1, .slice A2 m.length c2, .slice A3 q.length c3] := by
      apply Array.toList_inj.1
      exact e1
    rw [hml] at hw
    obtain ⟨k, hk⟩ := Pure.FnExactPaidPut at_ s t x y z l m q ⟨hw.2.1.1, hw.2.1.2, hw.2.2.1.1, hw.2.2.1.2, hw.2.2.2⟩
    exact laws_FnExactPaidPut.calls k at_ s t x y z A1 c1 l A2 c2 m A3 c3 q true W hC1 hc1 hC2 hc2 hC3 hc3 hk (Aside0.mk kT)
  clear hA0 hval0 hsz0 hsz
  refine walk_.mono fun e W' ⟨he, bel⟩ => ?_
  subst he
  exact ⟨_, rfl, _, _, _, [], _, [], hW', trodAll_mk1 (shut_bool Tryd.underlying4 _), (trodAll_cons_mk (Below.trod laidOut (by kernel_rfl) (of_decide_eq_true (by kernel_rfl)) k0 bel lt0) trodAll_mk0), rfl, bel.frame _, fun h => by cases h⟩
theorem over : Rows.fnExactPaidPutRow.holds Tryd.pinned (OpenSpec.ofChange Rows.fnExactPaidPutSpec) :=
  OpenClaim.holds_of_wide 6 Tryd.f6 rfl rfl rfl rfl rfl rfl rfl ⟨rfl, rfl, rfl, rfl, rfl⟩ rfl rfl rfl rfl rfl (by kernel_rfl) Tryd.func6 (by kernel_rfl)
    (of_decide_eq_true (by kernel_rfl)) (by unfold Func.isWrapper; first | (rw [if_pos (by decide +kernel)]; kernel_rfl) | (rw [if_neg (by decide +kernel)]; exact ⟨rfl, rfl⟩))
    (fun os started H enc _ => lifted os started H enc)
theorem proved : Rows.FnExactPaidPutCardSaid :=
  Claim7.holds_tied_plain_at .later [] [.data, .data, .data] true (true, "507b5fa9deaf9a048885e8317081646d4e6a00f461d48baa5c155f3ea1c8892a") false
    over (fun _ h => by cases h) (by kernel_rfl) (fun _ h => by cases h) fnExactPaidPut_row_tie rfl ⟨rfl, rfl⟩ (by kernel_rfl) rfl
    (fun f fn hf hfn => by
      obtain rfl : f = 6 := Option.some.inj ((show Tryd.prog.funcNamed "loop.example/cordillera/laws.FnExactPaidPut" = some 6 by kernel_rfl).symm.trans hf) |>.symm
      obtain rfl : fn = Tryd.f6 := (Option.some.inj (Tryd.func6.symm.trans hfn)).symm
      exact ⟨by kernel_rfl, fun j t ht => by
        rw [Tryd.params6] at ht
        have hm : t ∈ [48] := by simpa using Array.mem_of_getElem? ht
        have hall : ([48].all fun u => !Tryd.prog.wantsStandIn u) = true := by kernel_rfl
        exact (show Tryd.prog.wantsStandIn t = false by simpa using List.all_eq_true.1 hall t hm)⟩)
    (by kernel_rfl)
#print axioms proved
end Go.Proofs.YtgjljbaadglpnaaDoor.fnExactPaidPut
namespace Go.Proofs.YtgjljbaadglpnaaDoor
/-- The card, under a short name, for the claim. -/
theorem fnExactPaidPut_holds : Rows.FnExactPaidPutCardSaid := fnExactPaidPut.proved
end Go.Proofs.YtgjljbaadglpnaaDoor
