/- FnExactAskOk, its pure part: at each question the program's AskOk returns what the reference's returns. Conditions: none beyond those that the statement tells. -/
import Derived.Test.YtgefbfahkfilnaaPFnExactAskOkx1
import Derived.Test.YtgefbfahkfilnaaPd
namespace Go.Proofs.Ytgefbfahkfilnaa.Pure
open Go Go.RowKit Go.Proofs.Ytgefbfahkfilnaa.PFnExactAskOk Go.Proofs.YtgefbfahkfilnaaW.PrintWords Go.Proofs.YtgefbfahkfilnaaW.PrintLast Go.Proofs.YtgefbfahkfilnaaW.PrintMore Go.Proofs.Ytgefbfahkfilnaa.Pl
set_option linter.unusedVariables false

theorem specIn (a b c : Int) : spec_l1In.f a b c = some (decide (b ≤ a ∧ a ≤ c)) := by
  unfold spec_l1In.f
  by_cases h : a ≥ b
  · rw [if_pos h]; congr 1; exact decide_eq_decide.2 ⟨fun k => ⟨h, k⟩, fun k => k.2⟩
  · rw [if_neg h]; congr 1; exact (decide_eq_false (fun k => h k.1)).symm

theorem implIn (a b c : Int) : impl_in.f a b c = some (decide (b ≤ a ∧ a ≤ c)) := by
  unfold impl_in.f
  by_cases h : a ≥ b
  · rw [if_pos h]; congr 1; exact decide_eq_decide.2 ⟨fun k => ⟨h, k⟩, fun k => k.2⟩
  · rw [if_neg h]; congr 1; exact (decide_eq_false (fun k => h k.1)).symm

/-- Whether a question is ok. -/
def ask (a b c : Int) : Bool :=
  if a = 1 ∨ a = 2 ∨ a = 3 then decide (0 ≤ b ∧ b ≤ 20) && decide (1 ≤ c ∧ c ≤ 6) else if a = 4 then decide (0 ≤ b ∧ b ≤ 20) && (c == 0) else if a = 5 then decide (b = 0) && decide (1 ≤ c ∧ c ≤ 6) else false
theorem specAsk_j (a b c : Int) (q : Bool) (hq : q = true ↔ (a = 1 ∨ a = 2 ∨ a = 3)) (hb : 0 ≤ b ∧ b ≤ 20) : Ev (fun k => spec_l7AskOk.j0 k a q a b c) (ask a b c) := by
  unfold ask
  by_cases h : q = true
  · have h1 := hq.1 h
    refine Ev.step (f := fun _ => some (decide (1 ≤ c ∧ c ≤ 6))) (fun k => ?_) ?_
    · simp only [spec_l7AskOk.j0]; rw [if_pos h, specIn]; rfl
    · rw [if_pos h1, decide_eq_true hb, Bool.true_and]; exact Ev.now _
  · have h1 : ¬ (a = 1 ∨ a = 2 ∨ a = 3) := fun k => h (hq.2 k)
    rw [if_neg h1]
    by_cases h4 : a = 4
    · refine Ev.step (f := fun _ => some (c == 0)) (fun k => ?_) ?_
      · simp only [spec_l7AskOk.j0]; rw [if_neg h, if_pos h4]
      · rw [if_pos h4, decide_eq_true hb, Bool.true_and]; exact Ev.now _
    · rw [if_neg h4]
      by_cases h5 : a = 5
      · rw [if_pos h5]
        by_cases h0 : b = 0
        · refine Ev.step (f := fun _ => some (decide (1 ≤ c ∧ c ≤ 6))) (fun k => ?_) ?_
          · simp only [spec_l7AskOk.j0]; rw [if_neg h, if_neg h4, if_pos h5, if_pos h0, specIn]; rfl
          · rw [decide_eq_true h0, Bool.true_and]; exact Ev.now _
        · refine Ev.step (f := fun _ => some false) (fun k => ?_) ?_
          · simp only [spec_l7AskOk.j0]; rw [if_neg h, if_neg h4, if_pos h5, if_neg h0]
          · rw [decide_eq_false h0, Bool.false_and]; exact Ev.now _
      · rw [if_neg h5]
        refine Ev.step (f := fun _ => some false) (fun k => ?_) (Ev.now _)
        simp only [spec_l7AskOk.j0]; rw [if_neg h, if_neg h4, if_neg h5]
theorem specAsk_ev (a b c : Int) : Ev (fun k => spec_AskOk.f k a b c) (ask a b c) := by
  have h : Ev (fun k => spec_l7AskOk.f k a b c) (ask a b c) := by
    unfold spec_l7AskOk.f
    refine Ev.b (specIn _ _ _) ?_
    by_cases hb : 0 ≤ b ∧ b ≤ 20
    · refine Ev.ifp (decide_eq_true hb) ?_
      by_cases h1 : a = 1
      · exact Ev.ifp h1 (specAsk_j a b c _ (by rw [beq_iff_eq]; omega) hb)
      · refine Ev.ifn h1 ?_
        by_cases h2 : a = 2
        · exact Ev.ifp h2 (specAsk_j a b c _ (by rw [beq_iff_eq]; omega) hb)
        · exact Ev.ifn h2 (specAsk_j a b c _ (by rw [beq_iff_eq]; omega) hb)
    · refine Ev.ifn (by simpa using hb) ?_
      have e : ask a b c = false := by
        unfold ask
        rw [decide_eq_false hb, decide_eq_false (show ¬ b = 0 by omega), Bool.false_and, Bool.false_and]
        simp
      rw [e]
      exact Ev.now _
  unfold spec_AskOk.f
  exact Ev.bind h (Ev.now _)
theorem implAsk_j (a b c : Int) (q : Bool) (hq : q = true ↔ (a = 1 ∨ a = 2 ∨ a = 3)) : Ev (fun k => impl_AskOk.j0 k a q a b c) (ask a b c) := by
  unfold ask
  by_cases h : q = true
  · have h1 := hq.1 h
    rw [if_pos h1]
    by_cases hb : 0 ≤ b ∧ b ≤ 20
    · refine Ev.step (f := fun _ => some (decide (1 ≤ c ∧ c ≤ 6))) (fun k => ?_) ?_
      · simp only [impl_AskOk.j0]; rw [if_pos h, implIn, decide_eq_true hb, implIn]; rfl
      · rw [decide_eq_true hb, Bool.true_and]; exact Ev.now _
    · refine Ev.step (f := fun _ => some false) (fun k => ?_) ?_
      · simp only [impl_AskOk.j0]; rw [if_pos h, implIn, decide_eq_false hb]; rfl
      · rw [decide_eq_false hb, Bool.false_and]; exact Ev.now _
  · have h1 : ¬ (a = 1 ∨ a = 2 ∨ a = 3) := fun k => h (hq.2 k)
    rw [if_neg h1]
    by_cases h4 : a = 4
    · rw [if_pos h4]
      by_cases hb : 0 ≤ b ∧ b ≤ 20
      · refine Ev.step (f := fun _ => some (c == 0)) (fun k => ?_) ?_
        · simp only [impl_AskOk.j0]; rw [if_neg h, if_pos h4, implIn, decide_eq_true hb]; rfl
        · rw [decide_eq_true hb, Bool.true_and]; exact Ev.now _
      · refine Ev.step (f := fun _ => some false) (fun k => ?_) ?_
        · simp only [impl_AskOk.j0]; rw [if_neg h, if_pos h4, implIn, decide_eq_false hb]; rfl
        · rw [decide_eq_false hb, Bool.false_and]; exact Ev.now _
    · rw [if_neg h4]
      by_cases h5 : a = 5
      · rw [if_pos h5]
        by_cases h0 : b = 0
        · refine Ev.step (f := fun _ => some (decide (1 ≤ c ∧ c ≤ 6))) (fun k => ?_) ?_
          · simp only [impl_AskOk.j0]; rw [if_neg h, if_neg h4, if_pos h5, if_pos h0, implIn]; rfl
          · rw [decide_eq_true h0, Bool.true_and]; exact Ev.now _
        · refine Ev.step (f := fun _ => some false) (fun k => ?_) ?_
          · simp only [impl_AskOk.j0]; rw [if_neg h, if_neg h4, if_pos h5, if_neg h0]
          · rw [decide_eq_false h0, Bool.false_and]; exact Ev.now _
      · rw [if_neg h5]
        refine Ev.step (f := fun _ => some false) (fun k => ?_) (Ev.now _)
        simp only [impl_AskOk.j0]; rw [if_neg h, if_neg h4, if_neg h5]
theorem implAsk_ev (a b c : Int) : Ev (fun k => impl_AskOk.f k a b c) (ask a b c) := by
  unfold impl_AskOk.f
  by_cases h1 : a = 1
  · exact Ev.ifp h1 (implAsk_j a b c _ (by rw [beq_iff_eq]; omega))
  · refine Ev.ifn h1 ?_
    by_cases h2 : a = 2
    · exact Ev.ifp h2 (implAsk_j a b c _ (by rw [beq_iff_eq]; omega))
    · exact Ev.ifn h2 (implAsk_j a b c _ (by rw [beq_iff_eq]; omega))
/-- The law's own function answers true, at all arguments. -/
theorem FnExactAskOk (a b c : Int) : ∃ k, laws_FnExactAskOk.f k a b c = some true := by
  refine Ev.rounds (g := fun k => laws_FnExactAskOk.f k a b c) (r := true) ?_
  unfold laws_FnExactAskOk.f laws_toAsk.f
  simp only [Option.bind_some]
  refine Ev.bind (specAsk_ev a b c) (Ev.bind (implAsk_ev a b c) ?_)
  exact Ev.ifn (by simp) (Ev.now _)

end Go.Proofs.Ytgefbfahkfilnaa.Pure
