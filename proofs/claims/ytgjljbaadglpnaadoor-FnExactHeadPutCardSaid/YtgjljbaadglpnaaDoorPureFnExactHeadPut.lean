/- What FnExactHeadPut computes is true for all heads. Conditions: none beyond those that the statement tells. -/
import Derived.Test.YtgjljbaadglpnaaDoorPFnExactHeadPutx3
import Derived.Test.YtgjljbaadglpnaaDoorPd
import Derived.Test.YtgjljbaadglpnaaDoorPc
namespace Go.Proofs.YtgjljbaadglpnaaDoor.Pure
open Go Go.RowKit Go.Proofs.YtgjljbaadglpnaaDoor.PFnExactHeadPut Go.Proofs.YtgjljbaadglpnaaDoorW.PrintWords Go.Proofs.YtgjljbaadglpnaaDoorW.PrintLast Go.Proofs.YtgjljbaadglpnaaDoorW.PrintMore Go.Proofs.YtgjljbaadglpnaaDoor.Pl
set_option linter.unusedVariables false

theorem specIn (a b c : Int) : spec_l1In.f a b c = some (decide (b ≤ a ∧ a ≤ c)) := by
  unfold spec_l1In.f
  by_cases h : a ≥ b
  · rw [if_pos h]; congr 1; exact decide_eq_decide.2 ⟨fun k => ⟨h, k⟩, fun k => k.2⟩
  · rw [if_neg h]; congr 1; exact (decide_eq_false (fun k => h k.1)).symm

theorem implIn (a b c : Int) : impl_in.f a b c = some (decide (b ≤ a ∧ a ≤ c)) := by
  unfold impl_in.f
  by_cases h : a ≥ b
  · rw [if_pos h]; congr 1; exact decide_eq_decide.2 ⟨fun k => ⟨h, k⟩, fun k => k.2⟩
  · rw [if_neg h]; congr 1; exact (decide_eq_false (fun k => h k.1)).symm

/-! ### the reference's l1IsSum -/
theorem specFigure (b : Int) : spec_l1Figure.f b = some (decide (48 ≤ b ∧ b ≤ 57)) := by
  unfold spec_l1Figure.f
  by_cases h : b ≥ 48
  · rw [if_pos h]; congr 1; exact decide_eq_decide.2 ⟨fun k => ⟨h, k⟩, fun k => k.2⟩
  · rw [if_neg h]; congr 1; exact (decide_eq_false (fun k => h k.1)).symm
theorem specIsSum_loop (s : ByteArray) (hs : s.size ≤ 140737488351232) (d : Nat) : ∀ i : Nat, i + d = s.size → Ev (fun k => spec_l1IsSum.l0 k s (i : Int)) (((bytesOf s).drop i).all hexd && decide (s.size = 16)) := by
  induction d with
  | zero =>
    intro i hi
    have hlt : ¬ (i : Int) < (s.size : Int) := by omega
    have e : ((s.size : Int) == 16) = decide (s.size = 16) := by rw [Bool.eq_iff_iff, beq_iff_eq, decide_eq_true_iff]; omega
    rw [List.drop_eq_nil_of_le (by rw [bytes_len]; omega), List.all_nil, Bool.true_and]
    refine Ev.step (f := fun _ => some (decide (s.size = 16))) (fun k => ?_) (Ev.now _)
    simp only [spec_l1IsSum.l0]; rw [if_neg hlt, e]
  | succ d ih =>
    intro i hi
    have hlt : (i : Int) < (s.size : Int) := by omega
    have h0 : (0 : Int) ≤ (i : Int) := by omega
    have hi1 : ((i + 1 : Nat) : Int) = (i : Int) + 1 := by omega
    have hd : i + 1 + d = s.size := by omega
    have his : i < s.size := by omega
    have hnx := ih (i + 1) hd
    rw [hi1] at hnx
    have hn : (∀ x, x = bt s (i : Int) → hexd x = true) ∨ (∀ x, x = bt s (i : Int) → hexd x = false) := by
      cases h : hexd (bt s (i : Int))
      · exact .inr fun x hx => by rw [hx]; exact h
      · exact .inl fun x hx => by rw [hx]; exact h
    have hw : wrap64 ((i : Int) + 1) = (i : Int) + 1 := w64 (by omega) (by omega)
    rw [bt_drop s i his, List.all_cons]
    by_cases hf : 48 ≤ bt s (i : Int) ∧ bt s (i : Int) ≤ 57
    · have hx : hexd (bt s (i : Int)) = true := (hexd_iff _).2 (.inl hf)
      rw [hx, Bool.true_and]
      refine Ev.step (f := fun k => spec_l1IsSum.l0 k s ((i : Int) + 1)) (fun k => ?_) hnx
      simp only [spec_l1IsSum.l0]; rw [if_pos hlt, if_pos h0, specFigure, decide_eq_true hf, Option.bind_some, if_pos rfl, hw]
    · by_cases hl : bt s (i : Int) < 97
      · have hx : hexd (bt s (i : Int)) = false := by rw [Bool.eq_false_iff]; intro h; rw [hexd_iff] at h; clear hw; omega
        rw [hx, Bool.false_and, Bool.false_and]
        refine Ev.step (f := fun _ => some false) (fun k => ?_) (Ev.now _)
        simp only [spec_l1IsSum.l0]; rw [if_pos hlt, if_pos h0, specFigure, decide_eq_false hf, Option.bind_some, if_neg (by simp), if_pos hl]
      · by_cases hg : bt s (i : Int) > 102
        · have hx : hexd (bt s (i : Int)) = false := by rw [Bool.eq_false_iff]; intro h; rw [hexd_iff] at h; clear hw; omega
          rw [hx, Bool.false_and, Bool.false_and]
          refine Ev.step (f := fun _ => some false) (fun k => ?_) (Ev.now _)
          simp only [spec_l1IsSum.l0]; rw [if_pos hlt, if_pos h0, specFigure, decide_eq_false hf, Option.bind_some, if_neg (by simp), if_neg hl, if_pos hg]
        · have hx : hexd (bt s (i : Int)) = true := by rw [hexd_iff]; clear hw; omega
          rw [hx, Bool.true_and]
          refine Ev.step (f := fun k => spec_l1IsSum.l0 k s ((i : Int) + 1)) (fun k => ?_) hnx
          simp only [spec_l1IsSum.l0]; rw [if_pos hlt, if_pos h0, specFigure, decide_eq_false hf, Option.bind_some, if_neg (by simp), if_neg hl, if_neg hg, hw]
theorem specIsSum_ev (s : ByteArray) (hs : s.size ≤ 140737488351232) : Ev (fun k => spec_l1IsSum.f k s) (sumB (bytesOf s)) := by
  have h := specIsSum_loop s hs s.size 0 (by omega)
  rw [List.drop_zero, Int.natCast_zero] at h
  unfold spec_l1IsSum.f sumB
  rw [bytes_len]
  exact h

/-! ### the program's isSum -/
theorem implIsSum_loop (s : ByteArray) (hs : s.size ≤ 140737488351232) (d : Nat) : ∀ i : Nat, i + d = s.size → Ev (fun k => impl_isSum.l0 k s (i : Int)) (((bytesOf s).drop i).all hexd && decide (s.size = 16)) := by
  induction d with
  | zero =>
    intro i hi
    have hlt : ¬ (i : Int) < (s.size : Int) := by omega
    have e : ((s.size : Int) == 16) = decide (s.size = 16) := by rw [Bool.eq_iff_iff, beq_iff_eq, decide_eq_true_iff]; omega
    rw [List.drop_eq_nil_of_le (by rw [bytes_len]; omega), List.all_nil, Bool.true_and]
    refine Ev.step (f := fun _ => some (decide (s.size = 16))) (fun k => ?_) (Ev.now _)
    simp only [impl_isSum.l0]; rw [if_neg hlt, e]
  | succ d ih =>
    intro i hi
    have hlt : (i : Int) < (s.size : Int) := by omega
    have h0 : (0 : Int) ≤ (i : Int) := by omega
    have hi1 : ((i + 1 : Nat) : Int) = (i : Int) + 1 := by omega
    have hd : i + 1 + d = s.size := by omega
    have his : i < s.size := by omega
    have hnx := ih (i + 1) hd
    rw [hi1] at hnx
    have hr := bt_range s (i : Int)
    have hb : wrap64 (bt s (i : Int)) = bt s (i : Int) := w64 (by omega) (by omega)
    have hw : wrap64 ((i : Int) + 1) = (i : Int) + 1 := w64 (by clear hb; omega) (by clear hb; omega)
    rw [bt_drop s i his, List.all_cons]
    by_cases hf : 48 ≤ bt s (i : Int) ∧ bt s (i : Int) ≤ 57
    · have hx : hexd (bt s (i : Int)) = true := (hexd_iff _).2 (.inl hf)
      rw [hx, Bool.true_and]
      refine Ev.step (f := fun k => impl_isSum.l0 k s ((i : Int) + 1)) (fun k => ?_) hnx
      simp only [impl_isSum.l0]; rw [if_pos hlt, if_pos h0, implIn, hb, decide_eq_true hf, Option.bind_some, if_pos rfl, hw]
    · by_cases hl : 97 ≤ bt s (i : Int) ∧ bt s (i : Int) ≤ 102
      · have hx : hexd (bt s (i : Int)) = true := (hexd_iff _).2 (.inr hl)
        rw [hx, Bool.true_and]
        refine Ev.step (f := fun k => impl_isSum.l0 k s ((i : Int) + 1)) (fun k => ?_) hnx
        simp only [impl_isSum.l0]; rw [if_pos hlt, if_pos h0, implIn, hb, decide_eq_false hf, Option.bind_some, if_neg (by simp), implIn, decide_eq_true hl, Option.bind_some, if_pos rfl, hw]
      · have hx : hexd (bt s (i : Int)) = false := by rw [Bool.eq_false_iff]; intro h; rw [hexd_iff] at h; clear hw hb; omega
        rw [hx, Bool.false_and, Bool.false_and]
        refine Ev.step (f := fun _ => some false) (fun k => ?_) (Ev.now _)
        simp only [impl_isSum.l0]; rw [if_pos hlt, if_pos h0, implIn, hb, decide_eq_false hf, Option.bind_some, if_neg (by simp), implIn, decide_eq_false hl, Option.bind_some, if_neg (by simp)]
theorem implIsSum_ev (s : ByteArray) (hs : s.size ≤ 140737488351232) : Ev (fun k => impl_isSum.f k s) (sumB (bytesOf s)) := by
  have h := implIsSum_loop s hs s.size 0 (by omega)
  rw [List.drop_zero, Int.natCast_zero] at h
  unfold impl_isSum.f sumB
  rw [bytes_len]
  exact h

/-! ### heads: what both sides say of them -/
def headB (p r : ByteArray) (t d n : Int) : Bool := sumB (bytesOf p) && (sumB (bytesOf r) && (decide (0 ≤ t ∧ t ≤ 99999) && (decide (1 ≤ d ∧ d ≤ 8) && decide (0 ≤ n ∧ n ≤ 400))))
theorem headB_iff (p r : ByteArray) (t d n : Int) : headB p r t d n = true ↔ sumB (bytesOf p) = true ∧ sumB (bytesOf r) = true ∧ (0 ≤ t ∧ t ≤ 99999) ∧ (1 ≤ d ∧ d ≤ 8) ∧ (0 ≤ n ∧ n ≤ 400) := by
  unfold headB
  rw [Bool.and_eq_true, Bool.and_eq_true, Bool.and_eq_true, Bool.and_eq_true, decide_eq_true_iff, decide_eq_true_iff, decide_eq_true_iff]
theorem headB_size {p r : ByteArray} {t d n : Int} (h : headB p r t d n = true) : p.size = 16 ∧ r.size = 16 := by
  have h1 := (headB_iff p r t d n).1 h
  have h2 := ((sumB_iff _).1 h1.1).2
  have h3 := ((sumB_iff _).1 h1.2.1).2
  rw [bytes_len] at h2 h3
  exact ⟨h2, h3⟩
abbrev sp1 : ByteArray := (⟨#[32]⟩ : ByteArray)
/-- A head as it is written. -/
def headS (p r : ByteArray) (t d n : Int) : ByteArray := (((((((p ++ (⟨#[32]⟩ : ByteArray)) ++ r) ++ (⟨#[32]⟩ : ByteArray)) ++ decS t) ++ (⟨#[32]⟩ : ByteArray)) ++ decS d) ++ (⟨#[32]⟩ : ByteArray)) ++ decS n
def headPut (p r : ByteArray) (t d n : Int) : ByteArray := if headB p r t d n = true then headS p r t d n else (⟨#[]⟩ : ByteArray)
theorem headPut_pos {p r : ByteArray} {t d n : Int} (h : headB p r t d n = true) : headPut p r t d n = headS p r t d n := if_pos h
theorem headPut_neg {p r : ByteArray} {t d n : Int} (h : ¬ headB p r t d n = true) : headPut p r t d n = (⟨#[]⟩ : ByteArray) := if_neg h
theorem one_size (c : UInt8) : (⟨#[c]⟩ : ByteArray).size = 1 := rfl
theorem specOk_ev (p r : ByteArray) (t d n : Int) (hp : p.size ≤ 140737488351232) (hr : r.size ≤ 140737488351232) : Ev (fun k => spec_l3Ok.f k p r t d n) (headB p r t d n) := by
  unfold spec_l3Ok.f headB
  refine Ev.bind (specIsSum_ev p hp) ?_
  by_cases h1 : sumB (bytesOf p) = true
  · rw [h1]
    refine Ev.ifp rfl (Ev.bind (specIsSum_ev r hr) ?_)
    by_cases h2 : sumB (bytesOf r) = true
    · rw [h2]
      refine Ev.ifp rfl (Ev.b (specIn t 0 99999) ?_)
      by_cases h3 : 0 ≤ t ∧ t ≤ 99999
      · rw [decide_eq_true h3]
        refine Ev.ifp rfl (Ev.b (specIn d 1 8) ?_)
        by_cases h4 : 1 ≤ d ∧ d ≤ 8
        · rw [decide_eq_true h4]
          exact Ev.ifp rfl (Ev.b (specIn n 0 400) (Ev.now _))
        · rw [decide_eq_false h4]
          exact Ev.ifn (by simp) (Ev.now _)
      · rw [decide_eq_false h3]
        exact Ev.ifn (by simp) (Ev.now _)
    · rw [Bool.eq_false_iff.2 h2]
      exact Ev.ifn (by simp) (Ev.now _)
  · rw [Bool.eq_false_iff.2 h1]
    exact Ev.ifn (by simp) (Ev.now _)
theorem implOk_ev (p r : ByteArray) (t d n : Int) (hp : p.size ≤ 140737488351232) (hr : r.size ≤ 140737488351232) : Ev (fun k => impl_headOk.f k p r t d n) (headB p r t d n) := by
  unfold impl_headOk.f headB
  refine Ev.bind (implIsSum_ev p hp) ?_
  by_cases h1 : sumB (bytesOf p) = true
  · rw [h1]
    refine Ev.ifp rfl (Ev.bind (implIsSum_ev r hr) ?_)
    by_cases h2 : sumB (bytesOf r) = true
    · rw [h2]
      refine Ev.ifp rfl (Ev.b (implIn t 0 99999) ?_)
      by_cases h3 : 0 ≤ t ∧ t ≤ 99999
      · rw [decide_eq_true h3]
        refine Ev.ifp rfl (Ev.b (implIn d 1 8) ?_)
        by_cases h4 : 1 ≤ d ∧ d ≤ 8
        · rw [decide_eq_true h4]
          exact Ev.ifp rfl (Ev.b (implIn n 0 400) (Ev.now _))
        · rw [decide_eq_false h4]
          exact Ev.ifn (by simp) (Ev.now _)
      · rw [decide_eq_false h3]
        exact Ev.ifn (by simp) (Ev.now _)
    · rw [Bool.eq_false_iff.2 h2]
      exact Ev.ifn (by simp) (Ev.now _)
  · rw [Bool.eq_false_iff.2 h1]
    exact Ev.ifn (by simp) (Ev.now _)
theorem specDec_ev (n : Nat) : (n : Int) ≤ 1000000000000 → Ev (fun k => spec_l1Dec.f k (n : Int)) (decS (n : Int)) := by
  induction n using Nat.strongRecOn with
  | ind n ih =>
    intro hn
    by_cases h : n < 10
    · refine Ev.step (f := fun _ => some (strOfNums [(((48 + n : Nat)) : Int)])) (fun k => ?_) (Ev.at_ (Ev.now _) (by unfold decS; rw [Int.toNat_natCast, decI_lt h]))
      simp only [spec_l1Dec.f]
      rw [if_neg (by omega), if_neg (by omega), if_pos (by omega), w64 (by omega) (by omega), show ((48 : Int) + (n : Int)) % 256 = ((48 + n : Nat) : Int) by omega]
    · have hs : (decS ((n / 10 : Nat) : Int)).size ≤ 13 := decS_size 12 (by omega)
      refine Ev.step (f := fun k => (spec_l1Dec.f k ((n / 10 : Nat) : Int)).bind fun t => (some ([((48 + n % 10 : Nat) : Int)] : List Int)).bind fun y => if t.size + (strOfNums y).size ≤ 9223372036854775807 then some (t ++ strOfNums y) else none) (fun k => ?_) (Ev.bind (ih (n / 10) (by omega) (by omega)) (Ev.b rfl (Ev.ifp (by rw [str_size, List.length_singleton]; omega) (Ev.at_ (Ev.now _) (decS_ge h).symm))))
      simp only [spec_l1Dec.f]
      rw [if_neg (by omega), if_neg (by omega), if_neg (by omega), show wrap64 (Int.tdiv (n : Int) 10) = ((n / 10 : Nat) : Int) by rw [Int.tdiv_eq_ediv_of_nonneg (by omega), w64 (by omega) (by omega)]; omega,
        show (wrap64 (48 + Int.tmod (n : Int) 10)) % 256 = ((48 + n % 10 : Nat) : Int) by rw [Int.tmod_eq_emod_of_nonneg (by omega), w64 (by omega) (by omega)]; omega]
theorem specDec {n : Int} (h0 : 0 ≤ n) (h1 : n ≤ 1000000000000) : Ev (fun k => spec_l1Dec.f k n) (decS n) := by
  obtain ⟨m, rfl⟩ := Int.eq_ofNat_of_zero_le h0
  exact specDec_ev m h1
theorem dec_small {n : Int} (h : n ≤ 99999) : (decS n).size ≤ 5 := decS_size 4 (by omega)
theorem specHeadS_ev {p r : ByteArray} {t d n : Int} (h : headB p r t d n = true) : Ev (fun k => spec_l3Put.f k p r t d n) (headS p r t d n) := by
  have hs := headB_size h
  have h1 := (headB_iff p r t d n).1 h
  have ht := dec_small (n := t) (by omega)
  have hd := dec_small (n := d) (by omega)
  have hn := dec_small (n := n) (by omega)
  unfold spec_l3Put.f
  refine Ev.ifp (by omega) (Ev.ifp (by rw [ByteArray.size_append, one_size]; omega) (Ev.ifp (by simp only [ByteArray.size_append, one_size]; omega) (Ev.bind (specDec (n := t) (by omega) (by omega)) (Ev.ifp (by simp only [ByteArray.size_append, one_size]; omega) (Ev.ifp (by simp only [ByteArray.size_append, one_size]; omega) (Ev.bind (specDec (n := d) (by omega) (by omega)) (Ev.ifp (by simp only [ByteArray.size_append, one_size]; omega) (Ev.ifp (by simp only [ByteArray.size_append, one_size]; omega) (Ev.bind (specDec (n := n) (by omega) (by omega)) (Ev.ifp (by simp only [ByteArray.size_append, one_size]; omega) (Ev.now _)))))))))))

theorem specHeadPut_ev (p r : ByteArray) (t d n : Int) (hp : p.size ≤ 140737488351232) (hr : r.size ≤ 140737488351232) : Ev (fun k => spec_HeadPut.f k p r t d n) (headPut p r t d n) := by
  unfold spec_HeadPut.f
  refine Ev.bind (specOk_ev p r t d n hp hr) ?_
  by_cases h : headB p r t d n = true
  · rw [headPut_pos h]; exact Ev.ifp h (Ev.bind (specHeadS_ev h) (Ev.now _))
  · rw [headPut_neg h]; exact Ev.ifn h (Ev.now _)

theorem itoa_ev {n : Int} (h0 : 0 ≤ n) (h1 : n ≤ 1000000000000) : strconv_Itoa_46.f n = some (decS n) := by
  unfold strconv_Itoa_46.f
  rw [if_pos ⟨by omega, by omega⟩]
  exact congrArg some (itoa_dec h0)
theorem implHeadPut_ev (p r : ByteArray) (t d n : Int) (hp : p.size ≤ 140737488351232) (hr : r.size ≤ 140737488351232) : Ev (fun k => impl_HeadPut.f k p r t d n) (headPut p r t d n) := by
  unfold impl_HeadPut.f
  refine Ev.bind (implOk_ev p r t d n hp hr) ?_
  by_cases h : headB p r t d n = true
  · rw [headPut_pos h]
    have hs := headB_size h
    have h1 := (headB_iff p r t d n).1 h
    have ht := dec_small (n := t) (by omega)
    have hd := dec_small (n := d) (by omega)
    have hn := dec_small (n := n) (by omega)
    exact Ev.ifp h (Ev.ifp (by omega) (Ev.ifp (by rw [ByteArray.size_append, one_size]; omega) (Ev.ifp (by simp only [ByteArray.size_append, one_size]; omega) (Ev.b (itoa_ev (n := t) (by omega) (by omega)) (Ev.ifp (by simp only [ByteArray.size_append, one_size]; omega) (Ev.ifp (by simp only [ByteArray.size_append, one_size]; omega) (Ev.b (itoa_ev (n := d) (by omega) (by omega)) (Ev.ifp (by simp only [ByteArray.size_append, one_size]; omega) (Ev.ifp (by simp only [ByteArray.size_append, one_size]; omega) (Ev.b (itoa_ev (n := n) (by omega) (by omega)) (Ev.ifp (by simp only [ByteArray.size_append, one_size]; omega) (Ev.now _))))))))))))
  · rw [headPut_neg h]; exact Ev.ifn h (Ev.now _)

theorem szHead_ev (p r : ByteArray) (t d n : Int) (hp : p.size ≤ 9223372036854775807) (hr : r.size ≤ 9223372036854775807) : ∃ m, laws_szHead.f p r t d n 1048576 = some m ∧ (¬ m < 0 → p.size ≤ 1048576 ∧ r.size ≤ 1048576) := by
  unfold laws_szHead.f
  rw [w64 (i := 1048576 - (p.size : Int)) (by omega) (by omega)]
  by_cases h1 : (1048576 : Int) - (p.size : Int) < 0
  · rw [if_pos h1]; exact ⟨_, rfl, fun h => absurd (by decide) h⟩
  · rw [if_neg h1, w64 (i := 1048576 - (p.size : Int) - (r.size : Int)) (by omega) (by omega)]
    by_cases h2 : (1048576 : Int) - (p.size : Int) - (r.size : Int) < 0
    · rw [if_pos h2]; exact ⟨_, rfl, fun h => absurd (by decide) h⟩
    · rw [if_neg h2]; exact ⟨_, rfl, fun _ => ⟨by omega, by omega⟩⟩
theorem FnExactHeadPut (p r : ByteArray) (t d n : Int) (hp : p.size ≤ 9223372036854775807) (hr : r.size ≤ 9223372036854775807) : ∃ k, laws_FnExactHeadPut.f k p r t d n = some true := by
  refine Ev.rounds (r := true) ?_
  unfold laws_FnExactHeadPut.f
  obtain ⟨m, hm, hs⟩ := szHead_ev p r t d n hp hr
  refine Ev.b hm ?_
  by_cases c : m < 0
  · exact Ev.ifp c (Ev.now _)
  · obtain ⟨s1, s2⟩ := hs c
    exact Ev.ifn c (Ev.b rfl (Ev.bind (specHeadPut_ev p r t d n (by omega) (by omega)) (Ev.b rfl (Ev.bind (implHeadPut_ev p r t d n (by omega) (by omega)) (Ev.ifp rfl (Ev.now _))))))

end Go.Proofs.YtgjljbaadglpnaaDoor.Pure
