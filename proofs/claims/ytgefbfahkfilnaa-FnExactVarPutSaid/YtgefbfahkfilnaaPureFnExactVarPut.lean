/- FnExactVarPut: at each number the program's VarPut returns what the reference's returns. Conditions: none beyond those that the statement tells. -/
import Derived.Test.YtgefbfahkfilnaaPFnExactVarPutx1
import Derived.Test.YtgefbfahkfilnaaPm
namespace Go.Proofs.Ytgefbfahkfilnaa.Pure
open Go Go.RowKit Go.Proofs.Ytgefbfahkfilnaa.PFnExactVarPut Go.Proofs.YtgefbfahkfilnaaW.PrintWords Go.Proofs.YtgefbfahkfilnaaW.PrintLast Go.Proofs.YtgefbfahkfilnaaW.PrintMore Go.Proofs.Ytgefbfahkfilnaa.Pl
set_option linter.unusedVariables false

/-! ### VarPut -/
theorem step_div {n : Nat} (h : n ≤ 2147483647) : wrap64 (Int.tdiv (n : Int) 128) = ((n / 128 : Nat) : Int) := by
  rw [Int.tdiv_eq_ediv_of_nonneg (by omega), w64 (by omega) (by omega)]; omega
theorem step_mod1 {n : Nat} (h : n ≤ 2147483647) : (wrap64 (128 + Int.tmod (n : Int) 128)) % 256 = ((n % 128 + 128 : Nat) : Int) := by
  rw [Int.tmod_eq_emod_of_nonneg (by omega), w64 (by omega) (by omega)]; omega
theorem step_mod2 {n : Nat} (h : n ≤ 2147483647) : (wrap64 (Int.tmod (n : Int) 128 + 128)) % 256 = ((n % 128 + 128 : Nat) : Int) := by
  rw [Int.tmod_eq_emod_of_nonneg (by omega), w64 (by omega) (by omega)]; omega
theorem l1Var_loop (n : Nat) : ∀ xs : List Int, n ≤ 2147483647 → xs.length + n < 140737488355328 → Ev (fun k => spec_l1Var.l0 k (n : Int) xs) (strOfNums (xs ++ vb n)) := by
  induction n using Nat.strongRecOn with
  | ind n ih =>
    intro xs hn hx
    by_cases h : n < 128
    · refine Ev.step (f := fun _ => some (strOfNums (xs ++ vb n))) (fun k => ?_) (Ev.now _)
      rw [vb_lt h]; simp only [spec_l1Var.l0]; rw [if_neg (by omega), if_pos (by omega), Int.emod_eq_of_lt (by omega) (by omega)]
    · refine Ev.step (f := fun k => spec_l1Var.l0 k ((n / 128 : Nat) : Int) (xs ++ [((n % 128 + 128 : Nat) : Int)])) (fun k => ?_) ?_
      · simp only [spec_l1Var.l0]; rw [if_pos (by omega), if_pos (by omega), step_div hn, step_mod1 hn]
      · have := ih (n / 128) (by omega) (xs ++ [((n % 128 + 128 : Nat) : Int)]) (by omega) (by simp only [List.length_append, List.length_singleton]; omega)
        rw [vb_ge h]; rw [List.append_assoc] at this; exact this
theorem l1Var_ev {n : Int} (h0 : 0 ≤ n) (h1 : n ≤ 2147483647) : Ev (fun k => spec_l1Var.f k n) (strOfNums (vb n.toNat)) := by
  obtain ⟨m, rfl⟩ := Int.eq_ofNat_of_zero_le h0
  unfold spec_l1Var.f
  have := l1Var_loop m [] (by omega) (by simp only [List.length_nil]; omega)
  rw [Int.toNat_natCast]; exact this
theorem specIn (a b c : Int) : spec_l1In.f a b c = some (decide (b ≤ a ∧ a ≤ c)) := by
  unfold spec_l1In.f
  by_cases h : a ≥ b
  · rw [if_pos h]; congr 1; exact decide_eq_decide.2 ⟨fun k => ⟨h, k⟩, fun k => k.2⟩
  · rw [if_neg h]; congr 1; exact (decide_eq_false (fun k => h k.1)).symm
theorem implIn (a b c : Int) : impl_in.f a b c = some (decide (b ≤ a ∧ a ≤ c)) := by
  unfold impl_in.f
  by_cases h : a ≥ b
  · rw [if_pos h]; congr 1; exact decide_eq_decide.2 ⟨fun k => ⟨h, k⟩, fun k => k.2⟩
  · rw [if_neg h]; congr 1; exact (decide_eq_false (fun k => h k.1)).symm
/-- What VarPut writes. -/
def vput (n : Int) : ByteArray := if 0 ≤ n ∧ n ≤ 2147483647 then strOfNums (vb n.toNat) else ⟨#[]⟩
theorem vput_in {n : Int} (h : 0 ≤ n ∧ n ≤ 2147483647) : vput n = strOfNums (vb n.toNat) := if_pos h
theorem vput_out {n : Int} (h : ¬ (0 ≤ n ∧ n ≤ 2147483647)) : vput n = ⟨#[]⟩ := if_neg h
theorem specVarPut_ev (n : Int) : Ev (fun k => spec_VarPut.f k n) (vput n) := by
  unfold spec_VarPut.f
  refine Ev.b (specIn _ _ _) ?_
  by_cases h : 0 ≤ n ∧ n ≤ 2147483647
  · rw [vput_in h]
    refine Ev.ifp (decide_eq_true h) ?_
    exact Ev.bind (l1Var_ev h.1 h.2) (Ev.now _)
  · rw [vput_out h]
    exact Ev.ifn (by simpa using h) (Ev.now _)
theorem implVarPut_loop (n : Nat) : ∀ xs : List Int, n ≤ 2147483647 → xs.length + n < 140737488355328 → Ev (fun k => impl_VarPut.l0 k (n : Int) xs) (strOfNums (xs ++ vb n)) := by
  induction n using Nat.strongRecOn with
  | ind n ih =>
    intro xs hn hx
    by_cases h : n < 128
    · refine Ev.step (f := fun _ => some (strOfNums (xs ++ vb n))) (fun k => ?_) (Ev.now _)
      rw [vb_lt h]; simp only [impl_VarPut.l0]; rw [if_neg (by omega), if_pos (by omega), Int.emod_eq_of_lt (by omega) (by omega)]
    · refine Ev.step (f := fun k => impl_VarPut.l0 k ((n / 128 : Nat) : Int) (xs ++ [((n % 128 + 128 : Nat) : Int)])) (fun k => ?_) ?_
      · simp only [impl_VarPut.l0]; rw [if_pos (by omega), if_pos (by omega), step_div hn, step_mod2 hn]
      · have := ih (n / 128) (by omega) (xs ++ [((n % 128 + 128 : Nat) : Int)]) (by omega) (by simp only [List.length_append, List.length_singleton]; omega)
        rw [vb_ge h]; rw [List.append_assoc] at this; exact this
theorem implVarPut_ev (n : Int) : Ev (fun k => impl_VarPut.f k n) (vput n) := by
  unfold impl_VarPut.f
  refine Ev.b (implIn _ _ _) ?_
  by_cases h : 0 ≤ n ∧ n ≤ 2147483647
  · rw [vput_in h]
    refine Ev.ifp (decide_eq_true h) ?_
    obtain ⟨m, rfl⟩ := Int.eq_ofNat_of_zero_le h.1
    have := implVarPut_loop m [] (by omega) (by simp only [List.length_nil]; omega)
    rw [Int.toNat_natCast]; exact this
  · rw [vput_out h]
    exact Ev.ifn (by simpa using h) (Ev.now _)
theorem vput_bytes {n : Int} (h0 : 0 ≤ n) (h1 : n ≤ 2147483647) : bytesOf (vput n) = vb n.toNat := by
  unfold vput; rw [if_pos ⟨h0, h1⟩, bytes_str _ (vb_nn _)]
theorem vput_none {n : Int} (h : ¬ (0 ≤ n ∧ n ≤ 2147483647)) : bytesOf (vput n) = [] := by
  unfold vput; rw [if_neg h]; rfl

theorem FnExactVarPut : laws_FnExactVarPut.Pure := by
  intro n _
  refine Ev.rounds (r := true) ?_
  unfold laws_FnExactVarPut.f
  refine Ev.bind (specVarPut_ev n) (Ev.bind (implVarPut_ev n) ?_)
  exact Ev.ifp rfl (Ev.now _)

end Go.Proofs.Ytgefbfahkfilnaa.Pure
