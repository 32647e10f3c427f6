/- The statement FnExactRicePut, in plain Lean. Conditions: none beyond those that the statement tells. -/
import Derived.Test.YtipmgmiooanghaaPFnExactRicePutx1
import Derived.Test.YtipmgmiooanghaaPd
namespace Go.Proofs.Ytipmgmiooanghaa.Pure
open Go Go.RowKit Go.Proofs.Ytipmgmiooanghaa.PFnExactRicePut Go.Proofs.YtipmgmiooanghaaW.PrintWords Go.Proofs.YtipmgmiooanghaaW.PrintLast Go.Proofs.YtipmgmiooanghaaW.PrintMore Go.Proofs.Ytipmgmiooanghaa.Pl
set_option linter.unusedVariables false

theorem specIn (a b c : Int) : spec_l1In.f a b c = some (decide (b ≤ a ∧ a ≤ c)) := by
  unfold spec_l1In.f
  by_cases h : a ≥ b
  · rw [if_pos h]; congr 1; exact decide_eq_decide.2 ⟨fun k => ⟨h, k⟩, fun k => k.2⟩
  · rw [if_neg h]; congr 1; exact (decide_eq_false (fun k => h k.1)).symm

theorem set_next (l : List Int) (i d : Nat) (h : i + (d + 1) = l.length) : (l.take i ++ List.replicate (d + 1) 0).set i (rd l (i : Int)) = l.take (i + 1) ++ List.replicate d 0 := by
  have hi : i < l.length := by omega
  have hr : rd l (i : Int) = l[i] := by unfold rd; rw [Int.toNat_natCast, List.getD_eq_getElem?_getD, List.getElem?_eq_getElem hi, Option.getD_some]
  have hl : (l.take i).length = i := by rw [List.length_take]; omega
  rw [hr, List.set_append_right _ _ (by omega), hl, Nat.sub_self, List.replicate_succ, List.set_cons_zero, List.take_add_one, List.getElem?_eq_getElem hi, List.append_assoc]
  rfl
theorem toInts_loop (l : List Int) (hl : l.length ≤ 1000000000000) : ∀ (d i : Nat), i + d = l.length → Ev (fun k => laws_toIntS.l0 k l (l.take i ++ List.replicate d 0) (i : Int)) l
  | 0, i, h => by
    refine Ev.step (f := fun _ => some l) (fun k => ?_) (Ev.now _)
    simp only [laws_toIntS.l0]
    rw [if_neg (by omega), List.replicate_zero, List.append_nil, List.take_of_length_le (by omega)]
  | d + 1, i, h => by
    refine Ev.step (f := fun k => laws_toIntS.l0 k l (l.take (i + 1) ++ List.replicate d 0) ((i + 1 : Nat) : Int)) (fun k => ?_) (toInts_loop l hl d (i + 1) (by omega))
    simp only [laws_toIntS.l0]
    rw [if_pos (by omega), if_pos (by omega), if_pos (by simp only [List.length_append, List.length_take, List.length_replicate]; omega), Int.toNat_natCast, set_next l i d h, w64 (by omega) (by omega)]
    rfl
theorem toInts_ev (l : List Int) (hl : l.length ≤ 1000000000000) : Ev (fun k => laws_toIntS.f k l) l := by
  unfold laws_toIntS.f
  refine Ev.ifp (by omega) (Ev.ifp (by omega) ?_)
  have := toInts_loop l hl l.length 0 (by omega)
  rw [Int.toNat_natCast]
  exact this

theorem eqInts_loop (a b : List Int) (hl : a.length = b.length) (hm : a.length ≤ 1000000000000) : ∀ (d i : Nat), i + d = a.length → Ev (fun k => laws_eqIntS.l0 k a b (i : Int)) (decide (a.drop i = b.drop i))
  | 0, i, h => by
    refine Ev.step (f := fun _ => some true) (fun k => ?_) (Ev.at_ (Ev.now _) ?_)
    · simp only [laws_eqIntS.l0]; rw [if_neg (by omega)]
    · rw [List.drop_eq_nil_of_le (by omega), List.drop_eq_nil_of_le (by omega)]; exact (decide_eq_true rfl).symm
  | d + 1, i, h => by
    have ha : i < a.length := by omega
    have hb : i < b.length := by omega
    have ra : rd a (i : Int) = a[i] := by unfold rd; rw [Int.toNat_natCast, List.getD_eq_getElem?_getD, List.getElem?_eq_getElem ha, Option.getD_some]
    have rb : rd b (i : Int) = b[i] := by unfold rd; rw [Int.toNat_natCast, List.getD_eq_getElem?_getD, List.getElem?_eq_getElem hb, Option.getD_some]
    rw [List.drop_eq_getElem_cons ha, List.drop_eq_getElem_cons hb]
    by_cases e : a[i] = b[i]
    · refine Ev.step (f := fun k => laws_eqIntS.l0 k a b ((i + 1 : Nat) : Int)) (fun k => ?_) (Ev.at_ (eqInts_loop a b hl hm d (i + 1) (by omega)) (decide_eq_decide.2 ⟨fun h => by rw [e, h], fun h => (List.cons.inj h).2⟩))
      simp only [laws_eqIntS.l0]
      rw [if_pos (by omega), if_pos (by omega), if_pos (by omega), ra, rb, if_pos e, w64 (by omega) (by omega)]
      rfl
    · refine Ev.step (f := fun _ => some false) (fun k => ?_) (Ev.at_ (Ev.now _) (decide_eq_false fun h => e (List.cons.inj h).1).symm)
      simp only [laws_eqIntS.l0]
      rw [if_pos (by omega), if_pos (by omega), if_pos (by omega), ra, rb, if_neg e]
theorem eqInts_ev (a b : List Int) (hm : a.length ≤ 1000000000000) : Ev (fun k => laws_eqIntS.f k a b) (decide (a = b)) := by
  unfold laws_eqIntS.f
  by_cases hl : a.length = b.length
  · exact Ev.ifp (by omega) (eqInts_loop a b hl hm a.length 0 (by omega))
  · exact Ev.ifn (by omega) (Ev.at_ (Ev.now _) (decide_eq_false fun h => hl (by rw [h])).symm)
theorem eqInts_same (a : List Int) (hm : a.length ≤ 1000000000000) : Ev (fun k => laws_eqIntS.f k a a) true := Ev.at_ (eqInts_ev a a hm) (decide_eq_true rfl)

open Go.Proofs.Ytipmgmiooanghaa.Rice in
theorem l2Numbers_loop (l : List Int) (hm : l.length ≤ 1000000000000) : ∀ (d i : Nat), i + d = l.length → Ev (fun k => spec_l2Numbers.l0 k l (i : Int)) (decide ((∀ x ∈ l.drop i, numOk x) ∧ l.length ≤ 40))
  | 0, i, h => by
    refine Ev.step (f := fun _ => some (decide ((l.length : Int) ≤ 40))) (fun k => ?_) (Ev.at_ (Ev.now _) (decide_eq_decide.2 ?_))
    · simp only [spec_l2Numbers.l0]; rw [if_neg (by omega)]
    · rw [List.drop_eq_nil_of_le (by omega)]; exact ⟨fun h => ⟨by simp, by omega⟩, fun h => by omega⟩
  | d + 1, i, h => by
    have hi : i < l.length := by omega
    have hr : rd l (i : Int) = l[i] := by unfold rd; rw [Int.toNat_natCast, List.getD_eq_getElem?_getD, List.getElem?_eq_getElem hi, Option.getD_some]
    rw [List.drop_eq_getElem_cons hi]
    by_cases e : numOk l[i]
    · refine Ev.step (f := fun k => spec_l2Numbers.l0 k l ((i + 1 : Nat) : Int)) (fun k => ?_) (Ev.at_ (l2Numbers_loop l hm d (i + 1) (by omega)) (decide_eq_decide.2 ⟨fun h => ⟨fun x hx => (List.mem_cons.1 hx).elim (fun q => q ▸ e) (h.1 x), h.2⟩, fun h => ⟨fun x hx => h.1 x (List.mem_cons_of_mem _ hx), h.2⟩⟩))
      simp only [spec_l2Numbers.l0]
      rw [if_pos (by omega), if_pos (by omega), specIn, hr, Option.bind_some, if_pos (decide_eq_true (show 0 ≤ l[i] ∧ l[i] ≤ 60000 from e)), w64 (by omega) (by omega)]
      rfl
    · refine Ev.step (f := fun _ => some false) (fun k => ?_) (Ev.at_ (Ev.now _) (decide_eq_false fun h => e (h.1 _ List.mem_cons_self)).symm)
      simp only [spec_l2Numbers.l0]
      rw [if_pos (by omega), if_pos (by omega), specIn, hr, Option.bind_some, if_neg (show ¬ decide (0 ≤ l[i] ∧ l[i] ≤ 60000) = true by rw [decide_eq_true_iff]; exact e)]
open Go.Proofs.Ytipmgmiooanghaa.Rice in
theorem specRicePut_ev (l : List Int) (b : Int) (hm : l.length ≤ 1000000000000) : Ev (fun k => spec_RicePut.f k l b) (ricePut l b) := by
  unfold spec_RicePut.f ricePut
  refine Ev.bind (l2Numbers_loop l hm l.length 0 (by omega)) ?_
  rw [List.drop_zero]
  by_cases h : (∀ x ∈ l, numOk x) ∧ l.length ≤ 40
  · refine Ev.ifp (decide_eq_true h) (Ev.b (specIn b 0 8) ?_)
    by_cases hb : 0 ≤ b ∧ b ≤ 8
    · refine Ev.ifp (decide_eq_true hb) ?_
      rw [if_pos (show l.length ≤ 40 ∧ (0 ≤ b ∧ b ≤ 8) ∧ ∀ x ∈ l, numOk x from ⟨h.2, hb, h.1⟩)]
      refine Ev.b (a := riceB b l) ?_ (Ev.now _)
      unfold spec_l2Rice.f
      rw [if_pos ⟨h.2, hb.1, hb.2, h.1⟩]
    · rw [if_neg (show ¬ (l.length ≤ 40 ∧ (0 ≤ b ∧ b ≤ 8) ∧ ∀ x ∈ l, numOk x) from fun k => hb k.2.1)]
      exact Ev.ifn (by rw [decide_eq_true_iff]; exact hb) (Ev.now _)
  · rw [if_neg (show ¬ (l.length ≤ 40 ∧ (0 ≤ b ∧ b ≤ 8) ∧ ∀ x ∈ l, numOk x) from fun k => h ⟨k.2.2, k.1⟩)]
    exact Ev.ifn (by rw [decide_eq_true_iff]; exact h) (Ev.now _)

theorem implRicePut (l : List Int) (b : Int) (hm : l.length ≤ 1000000000) : impl_RicePut.f l b = some (Go.Proofs.Ytipmgmiooanghaa.Rice.ricePut l b) := by
  unfold impl_RicePut.f; rw [if_pos hm]

theorem FnExactRicePut : laws_FnExactRicePut.Pure := by
  intro l b hl _ hx hb
  refine Ev.rounds (r := true) ?_
  unfold laws_FnExactRicePut.f
  by_cases h : (l.length : Int) > 1048576
  · exact Ev.ifp h (Ev.now _)
  · refine Ev.ifn h ?_
    refine Ev.bind (toInts_ev l (by omega)) (Ev.bind (specRicePut_ev l b (by omega)) (Ev.bind (toInts_ev l (by omega)) (Ev.b (implRicePut l b (by omega)) ?_)))
    refine Ev.ifp rfl (Ev.bind (toInts_ev l (by omega)) (Ev.bind (eqInts_same l (by omega)) (Ev.ifp rfl (Ev.now _))))

end Go.Proofs.Ytipmgmiooanghaa.Pure
