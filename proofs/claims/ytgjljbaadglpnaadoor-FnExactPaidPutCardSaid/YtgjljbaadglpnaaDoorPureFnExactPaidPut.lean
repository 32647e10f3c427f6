/- What FnExactPaidPut computes is true for all that is paid. Conditions: none beyond those that the statement tells. -/
import Derived.Test.YtgjljbaadglpnaaDoorPFnExactPaidPutx14
import Derived.Test.YtgjljbaadglpnaaDoorPd
import Derived.Test.YtgjljbaadglpnaaDoorPc
namespace Go.Proofs.YtgjljbaadglpnaaDoor.Pure
open Go Go.RowKit Go.Proofs.YtgjljbaadglpnaaDoor.PFnExactPaidPut Go.Proofs.YtgjljbaadglpnaaDoorW.PrintWords Go.Proofs.YtgjljbaadglpnaaDoorW.PrintLast Go.Proofs.YtgjljbaadglpnaaDoorW.PrintMore Go.Proofs.YtgjljbaadglpnaaDoor.Pl
set_option linter.unusedVariables false

theorem specIn (a b c : Int) : spec_l1In.f a b c = some (decide (b ≤ a ∧ a ≤ c)) := by
  unfold spec_l1In.f
  by_cases h : a ≥ b
  · rw [if_pos h]; congr 1; exact decide_eq_decide.2 ⟨fun k => ⟨h, k⟩, fun k => k.2⟩
  · rw [if_neg h]; congr 1; exact (decide_eq_false (fun k => h k.1)).symm

theorem implIn (a b c : Int) : impl_in.f a b c = some (decide (b ≤ a ∧ a ≤ c)) := by
  unfold impl_in.f
  by_cases h : a ≥ b
  · rw [if_pos h]; congr 1; exact decide_eq_decide.2 ⟨fun k => ⟨h, k⟩, fun k => k.2⟩
  · rw [if_neg h]; congr 1; exact (decide_eq_false (fun k => h k.1)).symm

/-! ### the reference's l1IsSum -/
theorem specFigure (b : Int) : spec_l1Figure.f b = some (decide (48 ≤ b ∧ b ≤ 57)) := by
  unfold spec_l1Figure.f
  by_cases h : b ≥ 48
  · rw [if_pos h]; congr 1; exact decide_eq_decide.2 ⟨fun k => ⟨h, k⟩, fun k => k.2⟩
  · rw [if_neg h]; congr 1; exact (decide_eq_false (fun k => h k.1)).symm
theorem specIsSum_loop (s : ByteArray) (hs : s.size ≤ 140737488351232) (d : Nat) : ∀ i : Nat, i + d = s.size → Ev (fun k => spec_l1IsSum.l0 k s (i : Int)) (((bytesOf s).drop i).all hexd && decide (s.size = 16)) := by
  induction d with
  | zero =>
    intro i hi
    have hlt : ¬ (i : Int) < (s.size : Int) := by omega
    have e : ((s.size : Int) == 16) = decide (s.size = 16) := by rw [Bool.eq_iff_iff, beq_iff_eq, decide_eq_true_iff]; omega
    rw [List.drop_eq_nil_of_le (by rw [bytes_len]; omega), List.all_nil, Bool.true_and]
    refine Ev.step (f := fun _ => some (decide (s.size = 16))) (fun k => ?_) (Ev.now _)
    simp only [spec_l1IsSum.l0]; rw [if_neg hlt, e]
  | succ d ih =>
    intro i hi
    have hlt : (i : Int) < (s.size : Int) := by omega
    have h0 : (0 : Int) ≤ (i : Int) := by omega
    have hi1 : ((i + 1 : Nat) : Int) = (i : Int) + 1 := by omega
    have hd : i + 1 + d = s.size := by omega
    have his : i < s.size := by omega
    have hnx := ih (i + 1) hd
    rw [hi1] at hnx
    have hn : (∀ x, x = bt s (i : Int) → hexd x = true) ∨ (∀ x, x = bt s (i : Int) → hexd x = false) := by
      cases h : hexd (bt s (i : Int))
      · exact .inr fun x hx => by rw [hx]; exact h
      · exact .inl fun x hx => by rw [hx]; exact h
    have hw : wrap64 ((i : Int) + 1) = (i : Int) + 1 := w64 (by omega) (by omega)
    rw [bt_drop s i his, List.all_cons]
    by_cases hf : 48 ≤ bt s (i : Int) ∧ bt s (i : Int) ≤ 57
    · have hx : hexd (bt s (i : Int)) = true := (hexd_iff _).2 (.inl hf)
      rw [hx, Bool.true_and]
      refine Ev.step (f := fun k => spec_l1IsSum.l0 k s ((i : Int) + 1)) (fun k => ?_) hnx
      simp only [spec_l1IsSum.l0]; rw [if_pos hlt, if_pos h0, specFigure, decide_eq_true hf, Option.bind_some, if_pos rfl, hw]
    · by_cases hl : bt s (i : Int) < 97
      · have hx : hexd (bt s (i : Int)) = false := by rw [Bool.eq_false_iff]; intro h; rw [hexd_iff] at h; clear hw; omega
        rw [hx, Bool.false_and, Bool.false_and]
        refine Ev.step (f := fun _ => some false) (fun k => ?_) (Ev.now _)
        simp only [spec_l1IsSum.l0]; rw [if_pos hlt, if_pos h0, specFigure, decide_eq_false hf, Option.bind_some, if_neg (by simp), if_pos hl]
      · by_cases hg : bt s (i : Int) > 102
        · have hx : hexd (bt s (i : Int)) = false := by rw [Bool.eq_false_iff]; intro h; rw [hexd_iff] at h; clear hw; omega
          rw [hx, Bool.false_and, Bool.false_and]
          refine Ev.step (f := fun _ => some false) (fun k => ?_) (Ev.now _)
          simp only [spec_l1IsSum.l0]; rw [if_pos hlt, if_pos h0, specFigure, decide_eq_false hf, Option.bind_some, if_neg (by simp), if_neg hl, if_pos hg]
        · have hx : hexd (bt s (i : Int)) = true := by rw [hexd_iff]; clear hw; omega
          rw [hx, Bool.true_and]
          refine Ev.step (f := fun k => spec_l1IsSum.l0 k s ((i : Int) + 1)) (fun k => ?_) hnx
          simp only [spec_l1IsSum.l0]; rw [if_pos hlt, if_pos h0, specFigure, decide_eq_false hf, Option.bind_some, if_neg (by simp), if_neg hl, if_neg hg, hw]
theorem specIsSum_ev (s : ByteArray) (hs : s.size ≤ 140737488351232) : Ev (fun k => spec_l1IsSum.f k s) (sumB (bytesOf s)) := by
  have h := specIsSum_loop s hs s.size 0 (by omega)
  rw [List.drop_zero, Int.natCast_zero] at h
  unfold spec_l1IsSum.f sumB
  rw [bytes_len]
  exact h

/-! ### the program's isSum -/
theorem implIsSum_loop (s : ByteArray) (hs : s.size ≤ 140737488351232) (d : Nat) : ∀ i : Nat, i + d = s.size → Ev (fun k => impl_isSum.l0 k s (i : Int)) (((bytesOf s).drop i).all hexd && decide (s.size = 16)) := by
  induction d with
  | zero =>
    intro i hi
    have hlt : ¬ (i : Int) < (s.size : Int) := by omega
    have e : ((s.size : Int) == 16) = decide (s.size = 16) := by rw [Bool.eq_iff_iff, beq_iff_eq, decide_eq_true_iff]; omega
    rw [List.drop_eq_nil_of_le (by rw [bytes_len]; omega), List.all_nil, Bool.true_and]
    refine Ev.step (f := fun _ => some (decide (s.size = 16))) (fun k => ?_) (Ev.now _)
    simp only [impl_isSum.l0]; rw [if_neg hlt, e]
  | succ d ih =>
    intro i hi
    have hlt : (i : Int) < (s.size : Int) := by omega
    have h0 : (0 : Int) ≤ (i : Int) := by omega
    have hi1 : ((i + 1 : Nat) : Int) = (i : Int) + 1 := by omega
    have hd : i + 1 + d = s.size := by omega
    have his : i < s.size := by omega
    have hnx := ih (i + 1) hd
    rw [hi1] at hnx
    have hr := bt_range s (i : Int)
    have hb : wrap64 (bt s (i : Int)) = bt s (i : Int) := w64 (by omega) (by omega)
    have hw : wrap64 ((i : Int) + 1) = (i : Int) + 1 := w64 (by clear hb; omega) (by clear hb; omega)
    rw [bt_drop s i his, List.all_cons]
    by_cases hf : 48 ≤ bt s (i : Int) ∧ bt s (i : Int) ≤ 57
    · have hx : hexd (bt s (i : Int)) = true := (hexd_iff _).2 (.inl hf)
      rw [hx, Bool.true_and]
      refine Ev.step (f := fun k => impl_isSum.l0 k s ((i : Int) + 1)) (fun k => ?_) hnx
      simp only [impl_isSum.l0]; rw [if_pos hlt, if_pos h0, implIn, hb, decide_eq_true hf, Option.bind_some, if_pos rfl, hw]
    · by_cases hl : 97 ≤ bt s (i : Int) ∧ bt s (i : Int) ≤ 102
      · have hx : hexd (bt s (i : Int)) = true := (hexd_iff _).2 (.inr hl)
        rw [hx, Bool.true_and]
        refine Ev.step (f := fun k => impl_isSum.l0 k s ((i : Int) + 1)) (fun k => ?_) hnx
        simp only [impl_isSum.l0]; rw [if_pos hlt, if_pos h0, implIn, hb, decide_eq_false hf, Option.bind_some, if_neg (by simp), implIn, decide_eq_true hl, Option.bind_some, if_pos rfl, hw]
      · have hx : hexd (bt s (i : Int)) = false := by rw [Bool.eq_false_iff]; intro h; rw [hexd_iff] at h; clear hw hb; omega
        rw [hx, Bool.false_and, Bool.false_and]
        refine Ev.step (f := fun _ => some false) (fun k => ?_) (Ev.now _)
        simp only [impl_isSum.l0]; rw [if_pos hlt, if_pos h0, implIn, hb, decide_eq_false hf, Option.bind_some, if_neg (by simp), implIn, decide_eq_false hl, Option.bind_some, if_neg (by simp)]
theorem implIsSum_ev (s : ByteArray) (hs : s.size ≤ 140737488351232) : Ev (fun k => impl_isSum.f k s) (sumB (bytesOf s)) := by
  have h := implIsSum_loop s hs s.size 0 (by omega)
  rw [List.drop_zero, Int.natCast_zero] at h
  unfold impl_isSum.f sumB
  rw [bytes_len]
  exact h

/-! ### heads: what both sides say of them -/
def headB (p r : ByteArray) (t d n : Int) : Bool := sumB (bytesOf p) && (sumB (bytesOf r) && (decide (0 ≤ t ∧ t ≤ 99999) && (decide (1 ≤ d ∧ d ≤ 8) && decide (0 ≤ n ∧ n ≤ 400))))
theorem headB_iff (p r : ByteArray) (t d n : Int) : headB p r t d n = true ↔ sumB (bytesOf p) = true ∧ sumB (bytesOf r) = true ∧ (0 ≤ t ∧ t ≤ 99999) ∧ (1 ≤ d ∧ d ≤ 8) ∧ (0 ≤ n ∧ n ≤ 400) := by
  unfold headB
  rw [Bool.and_eq_true, Bool.and_eq_true, Bool.and_eq_true, Bool.and_eq_true, decide_eq_true_iff, decide_eq_true_iff, decide_eq_true_iff]
theorem headB_size {p r : ByteArray} {t d n : Int} (h : headB p r t d n = true) : p.size = 16 ∧ r.size = 16 := by
  have h1 := (headB_iff p r t d n).1 h
  have h2 := ((sumB_iff _).1 h1.1).2
  have h3 := ((sumB_iff _).1 h1.2.1).2
  rw [bytes_len] at h2 h3
  exact ⟨h2, h3⟩
abbrev sp1 : ByteArray := (⟨#[32]⟩ : ByteArray)
/-- A head as it is written. -/
def headS (p r : ByteArray) (t d n : Int) : ByteArray := (((((((p ++ (⟨#[32]⟩ : ByteArray)) ++ r) ++ (⟨#[32]⟩ : ByteArray)) ++ decS t) ++ (⟨#[32]⟩ : ByteArray)) ++ decS d) ++ (⟨#[32]⟩ : ByteArray)) ++ decS n
def headPut (p r : ByteArray) (t d n : Int) : ByteArray := if headB p r t d n = true then headS p r t d n else (⟨#[]⟩ : ByteArray)
theorem headPut_pos {p r : ByteArray} {t d n : Int} (h : headB p r t d n = true) : headPut p r t d n = headS p r t d n := if_pos h
theorem headPut_neg {p r : ByteArray} {t d n : Int} (h : ¬ headB p r t d n = true) : headPut p r t d n = (⟨#[]⟩ : ByteArray) := if_neg h
theorem one_size (c : UInt8) : (⟨#[c]⟩ : ByteArray).size = 1 := rfl
theorem specOk_ev (p r : ByteArray) (t d n : Int) (hp : p.size ≤ 140737488351232) (hr : r.size ≤ 140737488351232) : Ev (fun k => spec_l3Ok.f k p r t d n) (headB p r t d n) := by
  unfold spec_l3Ok.f headB
  refine Ev.bind (specIsSum_ev p hp) ?_
  by_cases h1 : sumB (bytesOf p) = true
  · rw [h1]
    refine Ev.ifp rfl (Ev.bind (specIsSum_ev r hr) ?_)
    by_cases h2 : sumB (bytesOf r) = true
    · rw [h2]
      refine Ev.ifp rfl (Ev.b (specIn t 0 99999) ?_)
      by_cases h3 : 0 ≤ t ∧ t ≤ 99999
      · rw [decide_eq_true h3]
        refine Ev.ifp rfl (Ev.b (specIn d 1 8) ?_)
        by_cases h4 : 1 ≤ d ∧ d ≤ 8
        · rw [decide_eq_true h4]
          exact Ev.ifp rfl (Ev.b (specIn n 0 400) (Ev.now _))
        · rw [decide_eq_false h4]
          exact Ev.ifn (by simp) (Ev.now _)
      · rw [decide_eq_false h3]
        exact Ev.ifn (by simp) (Ev.now _)
    · rw [Bool.eq_false_iff.2 h2]
      exact Ev.ifn (by simp) (Ev.now _)
  · rw [Bool.eq_false_iff.2 h1]
    exact Ev.ifn (by simp) (Ev.now _)
theorem implOk_ev (p r : ByteArray) (t d n : Int) (hp : p.size ≤ 140737488351232) (hr : r.size ≤ 140737488351232) : Ev (fun k => impl_headOk.f k p r t d n) (headB p r t d n) := by
  unfold impl_headOk.f headB
  refine Ev.bind (implIsSum_ev p hp) ?_
  by_cases h1 : sumB (bytesOf p) = true
  · rw [h1]
    refine Ev.ifp rfl (Ev.bind (implIsSum_ev r hr) ?_)
    by_cases h2 : sumB (bytesOf r) = true
    · rw [h2]
      refine Ev.ifp rfl (Ev.b (implIn t 0 99999) ?_)
      by_cases h3 : 0 ≤ t ∧ t ≤ 99999
      · rw [decide_eq_true h3]
        refine Ev.ifp rfl (Ev.b (implIn d 1 8) ?_)
        by_cases h4 : 1 ≤ d ∧ d ≤ 8
        · rw [decide_eq_true h4]
          exact Ev.ifp rfl (Ev.b (implIn n 0 400) (Ev.now _))
        · rw [decide_eq_false h4]
          exact Ev.ifn (by simp) (Ev.now _)
      · rw [decide_eq_false h3]
        exact Ev.ifn (by simp) (Ev.now _)
    · rw [Bool.eq_false_iff.2 h2]
      exact Ev.ifn (by simp) (Ev.now _)
  · rw [Bool.eq_false_iff.2 h1]
    exact Ev.ifn (by simp) (Ev.now _)
theorem specDec_ev (n : Nat) : (n : Int) ≤ 1000000000000 → Ev (fun k => spec_l1Dec.f k (n : Int)) (decS (n : Int)) := by
  induction n using Nat.strongRecOn with
  | ind n ih =>
    intro hn
    by_cases h : n < 10
    · refine Ev.step (f := fun _ => some (strOfNums [(((48 + n : Nat)) : Int)])) (fun k => ?_) (Ev.at_ (Ev.now _) (by unfold decS; rw [Int.toNat_natCast, decI_lt h]))
      simp only [spec_l1Dec.f]
      rw [if_neg (by omega), if_neg (by omega), if_pos (by omega), w64 (by omega) (by omega), show ((48 : Int) + (n : Int)) % 256 = ((48 + n : Nat) : Int) by omega]
    · have hs : (decS ((n / 10 : Nat) : Int)).size ≤ 13 := decS_size 12 (by omega)
      refine Ev.step (f := fun k => (spec_l1Dec.f k ((n / 10 : Nat) : Int)).bind fun t => (some ([((48 + n % 10 : Nat) : Int)] : List Int)).bind fun y => if t.size + (strOfNums y).size ≤ 9223372036854775807 then some (t ++ strOfNums y) else none) (fun k => ?_) (Ev.bind (ih (n / 10) (by omega) (by omega)) (Ev.b rfl (Ev.ifp (by rw [str_size, List.length_singleton]; omega) (Ev.at_ (Ev.now _) (decS_ge h).symm))))
      simp only [spec_l1Dec.f]
      rw [if_neg (by omega), if_neg (by omega), if_neg (by omega), show wrap64 (Int.tdiv (n : Int) 10) = ((n / 10 : Nat) : Int) by rw [Int.tdiv_eq_ediv_of_nonneg (by omega), w64 (by omega) (by omega)]; omega,
        show (wrap64 (48 + Int.tmod (n : Int) 10)) % 256 = ((48 + n % 10 : Nat) : Int) by rw [Int.tmod_eq_emod_of_nonneg (by omega), w64 (by omega) (by omega)]; omega]
theorem specDec {n : Int} (h0 : 0 ≤ n) (h1 : n ≤ 1000000000000) : Ev (fun k => spec_l1Dec.f k n) (decS n) := by
  obtain ⟨m, rfl⟩ := Int.eq_ofNat_of_zero_le h0
  exact specDec_ev m h1
theorem dec_small {n : Int} (h : n ≤ 99999) : (decS n).size ≤ 5 := decS_size 4 (by omega)
theorem specHeadS_ev {p r : ByteArray} {t d n : Int} (h : headB p r t d n = true) : Ev (fun k => spec_l3Put.f k p r t d n) (headS p r t d n) := by
  have hs := headB_size h
  have h1 := (headB_iff p r t d n).1 h
  have ht := dec_small (n := t) (by omega)
  have hd := dec_small (n := d) (by omega)
  have hn := dec_small (n := n) (by omega)
  unfold spec_l3Put.f
  refine Ev.ifp (by omega) (Ev.ifp (by rw [ByteArray.size_append, one_size]; omega) (Ev.ifp (by simp only [ByteArray.size_append, one_size]; omega) (Ev.bind (specDec (n := t) (by omega) (by omega)) (Ev.ifp (by simp only [ByteArray.size_append, one_size]; omega) (Ev.ifp (by simp only [ByteArray.size_append, one_size]; omega) (Ev.bind (specDec (n := d) (by omega) (by omega)) (Ev.ifp (by simp only [ByteArray.size_append, one_size]; omega) (Ev.ifp (by simp only [ByteArray.size_append, one_size]; omega) (Ev.bind (specDec (n := n) (by omega) (by omega)) (Ev.ifp (by simp only [ByteArray.size_append, one_size]; omega) (Ev.now _)))))))))))

theorem itoa_ev {n : Int} (h0 : 0 ≤ n) (h1 : n ≤ 1000000000000) : strconv_Itoa_46.f n = some (decS n) := by
  unfold strconv_Itoa_46.f
  rw [if_pos ⟨by omega, by omega⟩]
  exact congrArg some (itoa_dec h0)
theorem implHeadPut_ev (p r : ByteArray) (t d n : Int) (hp : p.size ≤ 140737488351232) (hr : r.size ≤ 140737488351232) : Ev (fun k => impl_HeadPut.f k p r t d n) (headPut p r t d n) := by
  unfold impl_HeadPut.f
  refine Ev.bind (implOk_ev p r t d n hp hr) ?_
  by_cases h : headB p r t d n = true
  · rw [headPut_pos h]
    have hs := headB_size h
    have h1 := (headB_iff p r t d n).1 h
    have ht := dec_small (n := t) (by omega)
    have hd := dec_small (n := d) (by omega)
    have hn := dec_small (n := n) (by omega)
    exact Ev.ifp h (Ev.ifp (by omega) (Ev.ifp (by rw [ByteArray.size_append, one_size]; omega) (Ev.ifp (by simp only [ByteArray.size_append, one_size]; omega) (Ev.b (itoa_ev (n := t) (by omega) (by omega)) (Ev.ifp (by simp only [ByteArray.size_append, one_size]; omega) (Ev.ifp (by simp only [ByteArray.size_append, one_size]; omega) (Ev.b (itoa_ev (n := d) (by omega) (by omega)) (Ev.ifp (by simp only [ByteArray.size_append, one_size]; omega) (Ev.ifp (by simp only [ByteArray.size_append, one_size]; omega) (Ev.b (itoa_ev (n := n) (by omega) (by omega)) (Ev.ifp (by simp only [ByteArray.size_append, one_size]; omega) (Ev.now _))))))))))))
  · rw [headPut_neg h]; exact Ev.ifn h (Ev.now _)

/-! ### the laws' own helpers on peaks: sizes, copies, comparison -/
theorem rdLP (l : List S124) (i : Nat) (h : i < l.length) : rd_T124 l (i : Int) = l[i] := by
  unfold rd_T124
  rw [Int.toNat_natCast, List.getD_eq_getElem?_getD, List.getElem?_eq_getElem h, Option.getD_some]
theorem rdIP (l : List S93) (i : Nat) (h : i < l.length) : rd_T93 l (i : Int) = l[i] := by
  unfold rd_T93
  rw [Int.toNat_natCast, List.getD_eq_getElem?_getD, List.getElem?_eq_getElem h, Option.getD_some]
/-- A peak of the laws as one of the program. -/
def cvP (p : S124) : S93 := ⟨p.f0, p.f1, p.f2⟩
theorem szPeakS_loop (l : List S124) (hl : l.length ≤ 9223372036854775807) (hs : ∀ p ∈ l, p.f0.size ≤ 9223372036854775807) (d : Nat) : ∀ (i : Nat) (a : Int), i + d = l.length → 0 ≤ a → a ≤ 1048576 →
    ∃ v, Ev (fun k => laws_szPeakS.l0 k l a (i : Int)) v ∧ (v < 0 ∨ (v ≤ a ∧ ∀ j, i ≤ j → ∀ h : j < l.length, (l[j].f0.size : Int) ≤ 1048576)) := by
  induction d with
  | zero =>
    intro i a hi h0 h1
    refine ⟨a, Ev.step (f := fun _ => some a) (fun k => ?_) (Ev.now _), .inr ⟨Int.le_refl _, fun j hj h => absurd h (by omega)⟩⟩
    simp only [laws_szPeakS.l0]; rw [if_neg (by omega)]
  | succ d ih =>
    intro i a hi h0 h1
    have hil : i < l.length := by omega
    have hlt : (i : Int) < (l.length : Int) := by omega
    have hi0 : (0 : Int) ≤ (i : Int) := by omega
    have hi1 : ((i + 1 : Nat) : Int) = (i : Int) + 1 := by omega
    have hz := hs _ (List.getElem_mem hil)
    have w2 : wrap64 ((i : Int) + 1) = ((i + 1 : Nat) : Int) := by rw [hi1]; exact w64 (by omega) (by omega)
    have w1 : wrap64 (a - (l[i].f0.size : Int)) = a - (l[i].f0.size : Int) := by clear w2; exact w64 (by omega) (by omega)
    by_cases hn : a - (l[i].f0.size : Int) < 0
    · refine ⟨-1, Ev.step (f := fun _ => some (-1)) (fun k => ?_) (Ev.now _), .inl (by decide)⟩
      simp only [laws_szPeakS.l0, laws_szPeak.f]; rw [if_pos hlt, if_pos hi0, rdLP l i hil, w1, if_pos hn, Option.bind_some, if_pos (by decide)]
    · have hd : i + 1 + d = l.length := by omega
      obtain ⟨v, hv, hvv⟩ := ih (i + 1) (a - (l[i].f0.size : Int)) hd (by clear w1 w2; omega) (by clear w1 w2; omega)
      refine ⟨v, Ev.step (f := fun k => laws_szPeakS.l0 k l (a - (l[i].f0.size : Int)) ((i + 1 : Nat) : Int)) (fun k => ?_) hv, ?_⟩
      · simp only [laws_szPeakS.l0, laws_szPeak.f]; rw [if_pos hlt, if_pos hi0, rdLP l i hil, w1, if_neg hn, Option.bind_some, if_neg hn, w2]
      · rcases hvv with h | ⟨h2, h3⟩
        · exact .inl h
        · refine .inr ⟨by clear w1 w2; omega, fun j hj hjl => ?_⟩
          rcases Nat.eq_or_lt_of_le hj with rfl | hj
          · clear w1 w2; omega
          · exact h3 j hj hjl
/-- The sizes' sum: below 0, or all is small. -/
theorem szPeakS_ev (l : List S124) (a : Int) (h0 : 0 ≤ a) (h1 : a ≤ 1048576) (hl : l.length ≤ 9223372036854775807) (hs : ∀ p ∈ l, p.f0.size ≤ 9223372036854775807) :
    ∃ v, Ev (fun k => laws_szPeakS.f k l a) v ∧ (v < 0 ∨ (v ≤ a ∧ l.length ≤ 1048576 ∧ ∀ p ∈ l, p.f0.size ≤ 1048576)) := by
  unfold laws_szPeakS.f
  have w1 : wrap64 (a - (l.length : Int)) = a - (l.length : Int) := w64 (by omega) (by omega)
  rw [w1]
  clear w1
  by_cases hn : a - (l.length : Int) < 0
  · exact ⟨-1, Ev.ifp hn (Ev.now _), .inl (by decide)⟩
  · obtain ⟨v, hv, hvv⟩ := szPeakS_loop l hl hs l.length 0 (a - (l.length : Int)) (by omega) (by omega) (by omega)
    refine ⟨v, Ev.ifn hn ?_, ?_⟩
    · rw [Int.natCast_zero] at hv; exact hv
    · rcases hvv with h | ⟨h2, h3⟩
      · exact .inl h
      · refine .inr ⟨by omega, by omega, fun p hp => ?_⟩
        obtain ⟨j, hj, rfl⟩ := List.getElem_of_mem hp
        have := h3 j (Nat.zero_le _) hj
        omega
theorem toPeakS_loop (l : List S124) (hl : l.length ≤ 1048576) (d : Nat) : ∀ (i : Nat), i + d = l.length →
    Ev (fun k => laws_toPeakS.l0 k l ((l.take i).map cvP ++ List.replicate d z93) (i : Int)) (l.map cvP) := by
  induction d with
  | zero =>
    intro i hi
    rw [List.take_of_length_le (by omega), List.replicate_zero, List.append_nil]
    refine Ev.step (f := fun _ => some (l.map cvP)) (fun k => ?_) (Ev.now _)
    simp only [laws_toPeakS.l0]; rw [if_neg (by omega)]
  | succ d ih =>
    intro i hi
    have hil : i < l.length := by omega
    have hlt : (i : Int) < (l.length : Int) := by omega
    have hi0 : (0 : Int) ≤ (i : Int) := by omega
    have hi1 : ((i + 1 : Nat) : Int) = (i : Int) + 1 := by omega
    have w2 : wrap64 ((i : Int) + 1) = ((i + 1 : Nat) : Int) := by rw [hi1]; exact w64 (by omega) (by omega)
    have hlen : (((l.take i).map cvP ++ List.replicate (d + 1) z93).length : Int) = (l.length : Int) := by
      rw [List.length_append, List.length_map, List.length_take, List.length_replicate, Nat.min_eq_left (Nat.le_of_lt hil)]; omega
    have hset : ((l.take i).map cvP ++ List.replicate (d + 1) z93).set i (cvP l[i]) = (l.take (i + 1)).map cvP ++ List.replicate d z93 := by
      rw [List.set_append_right _ _ (by rw [List.length_map, List.length_take]; omega), List.length_map, List.length_take, Nat.min_eq_left (Nat.le_of_lt hil), Nat.sub_self, List.replicate_succ, List.set_cons_zero, List.take_succ_eq_append_getElem hil, List.map_append, List.append_assoc]
      rfl
    have hnx := ih (i + 1) (by clear w2; omega)
    rw [← hset] at hnx
    refine Ev.step (f := fun k => laws_toPeakS.l0 k l (((l.take i).map cvP ++ List.replicate (d + 1) z93).set i (cvP l[i])) ((i + 1 : Nat) : Int)) (fun k => ?_) hnx
    simp only [laws_toPeakS.l0, laws_toPeak.f]
    rw [if_pos hlt, if_pos hi0, rdLP l i hil, Option.bind_some, hlen, if_pos hlt, w2, Int.toNat_natCast]
    rfl
theorem toPeakS_ev (l : List S124) (hl : l.length ≤ 1048576) : Ev (fun k => laws_toPeakS.f k l) (l.map cvP) := by
  unfold laws_toPeakS.f
  refine Ev.ifp (by omega) (Ev.ifp (by omega) ?_)
  have h := toPeakS_loop l hl l.length 0 (by omega)
  rw [List.take_zero, List.map_nil, List.nil_append, Int.natCast_zero] at h
  rw [Int.toNat_natCast]
  exact h
theorem eqPeakS_loop (l : List S93) (hl : l.length ≤ 1048576) (d : Nat) : ∀ (i : Nat), i + d = l.length → Ev (fun k => laws_eqPeakS.l0 k l l (i : Int)) true := by
  induction d with
  | zero =>
    intro i hi
    refine Ev.step (f := fun _ => some true) (fun k => ?_) (Ev.now _)
    simp only [laws_eqPeakS.l0]; rw [if_neg (by omega)]
  | succ d ih =>
    intro i hi
    have hlt : (i : Int) < (l.length : Int) := by omega
    have hi0 : (0 : Int) ≤ (i : Int) := by omega
    have hi1 : ((i + 1 : Nat) : Int) = (i : Int) + 1 := by omega
    have w2 : wrap64 ((i : Int) + 1) = ((i + 1 : Nat) : Int) := by rw [hi1]; exact w64 (by omega) (by omega)
    refine Ev.step (f := fun k => laws_eqPeakS.l0 k l l ((i + 1 : Nat) : Int)) (fun k => ?_) (ih (i + 1) (by clear w2; omega))
    simp only [laws_eqPeakS.l0, laws_eqPeak.f]
    rw [if_pos hlt, if_pos hi0, if_pos hlt, if_pos trivial, if_pos trivial, if_pos trivial, Option.bind_some, if_pos rfl, w2]
theorem eqPeakS_ev (l : List S93) (hl : l.length ≤ 1048576) : Ev (fun k => laws_eqPeakS.f k l l) true := by
  unfold laws_eqPeakS.f
  have h := eqPeakS_loop l hl l.length 0 (by omega)
  rw [Int.natCast_zero] at h
  exact Ev.ifp rfl h
theorem cvP_size {l : List S124} (h : ∀ p ∈ l, p.f0.size ≤ 1048576) : ∀ p ∈ l.map cvP, p.f0.size ≤ 1048576 := by
  intro p hp
  obtain ⟨q, hq, rfl⟩ := List.mem_map.1 hp
  exact h q hq

/-! ### the laws' own helpers on sides: sizes, copies, comparison -/
theorem rdLD (l : List S107) (i : Nat) (h : i < l.length) : rd_T107 l (i : Int) = l[i] := by
  unfold rd_T107
  rw [Int.toNat_natCast, List.getD_eq_getElem?_getD, List.getElem?_eq_getElem h, Option.getD_some]
theorem rdID (l : List S85) (i : Nat) (h : i < l.length) : rd_T85 l (i : Int) = l[i] := by
  unfold rd_T85
  rw [Int.toNat_natCast, List.getD_eq_getElem?_getD, List.getElem?_eq_getElem h, Option.getD_some]
/-- A side of the laws as one of the program. -/
def cvS (p : S107) : S85 := ⟨p.f0, p.f1⟩
theorem szSideS_loop (l : List S107) (hl : l.length ≤ 9223372036854775807) (hs : ∀ p ∈ l, p.f0.size ≤ 9223372036854775807) (d : Nat) : ∀ (i : Nat) (a : Int), i + d = l.length → 0 ≤ a → a ≤ 1048576 →
    ∃ v, Ev (fun k => laws_szSideS.l0 k l a (i : Int)) v ∧ (v < 0 ∨ (v ≤ a ∧ ∀ j, i ≤ j → ∀ h : j < l.length, (l[j].f0.size : Int) ≤ 1048576)) := by
  induction d with
  | zero =>
    intro i a hi h0 h1
    refine ⟨a, Ev.step (f := fun _ => some a) (fun k => ?_) (Ev.now _), .inr ⟨Int.le_refl _, fun j hj h => absurd h (by omega)⟩⟩
    simp only [laws_szSideS.l0]; rw [if_neg (by omega)]
  | succ d ih =>
    intro i a hi h0 h1
    have hil : i < l.length := by omega
    have hlt : (i : Int) < (l.length : Int) := by omega
    have hi0 : (0 : Int) ≤ (i : Int) := by omega
    have hi1 : ((i + 1 : Nat) : Int) = (i : Int) + 1 := by omega
    have hz := hs _ (List.getElem_mem hil)
    have w2 : wrap64 ((i : Int) + 1) = ((i + 1 : Nat) : Int) := by rw [hi1]; exact w64 (by omega) (by omega)
    have w1 : wrap64 (a - (l[i].f0.size : Int)) = a - (l[i].f0.size : Int) := by clear w2; exact w64 (by omega) (by omega)
    by_cases hn : a - (l[i].f0.size : Int) < 0
    · refine ⟨-1, Ev.step (f := fun _ => some (-1)) (fun k => ?_) (Ev.now _), .inl (by decide)⟩
      simp only [laws_szSideS.l0, laws_szSide.f]; rw [if_pos hlt, if_pos hi0, rdLD l i hil, w1, if_pos hn, Option.bind_some, if_pos (by decide)]
    · have hd : i + 1 + d = l.length := by omega
      obtain ⟨v, hv, hvv⟩ := ih (i + 1) (a - (l[i].f0.size : Int)) hd (by clear w1 w2; omega) (by clear w1 w2; omega)
      refine ⟨v, Ev.step (f := fun k => laws_szSideS.l0 k l (a - (l[i].f0.size : Int)) ((i + 1 : Nat) : Int)) (fun k => ?_) hv, ?_⟩
      · simp only [laws_szSideS.l0, laws_szSide.f]; rw [if_pos hlt, if_pos hi0, rdLD l i hil, w1, if_neg hn, Option.bind_some, if_neg hn, w2]
      · rcases hvv with h | ⟨h2, h3⟩
        · exact .inl h
        · refine .inr ⟨by clear w1 w2; omega, fun j hj hjl => ?_⟩
          rcases Nat.eq_or_lt_of_le hj with rfl | hj
          · clear w1 w2; omega
          · exact h3 j hj hjl
/-- The sizes' sum: below 0, or all is small. -/
theorem szSideS_ev (l : List S107) (a : Int) (h0 : 0 ≤ a) (h1 : a ≤ 1048576) (hl : l.length ≤ 9223372036854775807) (hs : ∀ p ∈ l, p.f0.size ≤ 9223372036854775807) :
    ∃ v, Ev (fun k => laws_szSideS.f k l a) v ∧ (v < 0 ∨ (v ≤ a ∧ l.length ≤ 1048576 ∧ ∀ p ∈ l, p.f0.size ≤ 1048576)) := by
  unfold laws_szSideS.f
  have w1 : wrap64 (a - (l.length : Int)) = a - (l.length : Int) := w64 (by omega) (by omega)
  rw [w1]
  clear w1
  by_cases hn : a - (l.length : Int) < 0
  · exact ⟨-1, Ev.ifp hn (Ev.now _), .inl (by decide)⟩
  · obtain ⟨v, hv, hvv⟩ := szSideS_loop l hl hs l.length 0 (a - (l.length : Int)) (by omega) (by omega) (by omega)
    refine ⟨v, Ev.ifn hn ?_, ?_⟩
    · rw [Int.natCast_zero] at hv; exact hv
    · rcases hvv with h | ⟨h2, h3⟩
      · exact .inl h
      · refine .inr ⟨by omega, by omega, fun p hp => ?_⟩
        obtain ⟨j, hj, rfl⟩ := List.getElem_of_mem hp
        have := h3 j (Nat.zero_le _) hj
        omega
theorem toSideS_loop (l : List S107) (hl : l.length ≤ 1048576) (d : Nat) : ∀ (i : Nat), i + d = l.length →
    Ev (fun k => laws_toSideS.l0 k l ((l.take i).map cvS ++ List.replicate d z85) (i : Int)) (l.map cvS) := by
  induction d with
  | zero =>
    intro i hi
    rw [List.take_of_length_le (by omega), List.replicate_zero, List.append_nil]
    refine Ev.step (f := fun _ => some (l.map cvS)) (fun k => ?_) (Ev.now _)
    simp only [laws_toSideS.l0]; rw [if_neg (by omega)]
  | succ d ih =>
    intro i hi
    have hil : i < l.length := by omega
    have hlt : (i : Int) < (l.length : Int) := by omega
    have hi0 : (0 : Int) ≤ (i : Int) := by omega
    have hi1 : ((i + 1 : Nat) : Int) = (i : Int) + 1 := by omega
    have w2 : wrap64 ((i : Int) + 1) = ((i + 1 : Nat) : Int) := by rw [hi1]; exact w64 (by omega) (by omega)
    have hlen : (((l.take i).map cvS ++ List.replicate (d + 1) z85).length : Int) = (l.length : Int) := by
      rw [List.length_append, List.length_map, List.length_take, List.length_replicate, Nat.min_eq_left (Nat.le_of_lt hil)]; omega
    have hset : ((l.take i).map cvS ++ List.replicate (d + 1) z85).set i (cvS l[i]) = (l.take (i + 1)).map cvS ++ List.replicate d z85 := by
      rw [List.set_append_right _ _ (by rw [List.length_map, List.length_take]; omega), List.length_map, List.length_take, Nat.min_eq_left (Nat.le_of_lt hil), Nat.sub_self, List.replicate_succ, List.set_cons_zero, List.take_succ_eq_append_getElem hil, List.map_append, List.append_assoc]
      rfl
    have hnx := ih (i + 1) (by clear w2; omega)
    rw [← hset] at hnx
    refine Ev.step (f := fun k => laws_toSideS.l0 k l (((l.take i).map cvS ++ List.replicate (d + 1) z85).set i (cvS l[i])) ((i + 1 : Nat) : Int)) (fun k => ?_) hnx
    simp only [laws_toSideS.l0, laws_toSide.f]
    rw [if_pos hlt, if_pos hi0, rdLD l i hil, Option.bind_some, hlen, if_pos hlt, w2, Int.toNat_natCast]
    rfl
theorem toSideS_ev (l : List S107) (hl : l.length ≤ 1048576) : Ev (fun k => laws_toSideS.f k l) (l.map cvS) := by
  unfold laws_toSideS.f
  refine Ev.ifp (by omega) (Ev.ifp (by omega) ?_)
  have h := toSideS_loop l hl l.length 0 (by omega)
  rw [List.take_zero, List.map_nil, List.nil_append, Int.natCast_zero] at h
  rw [Int.toNat_natCast]
  exact h
theorem eqSideS_loop (l : List S85) (hl : l.length ≤ 1048576) (d : Nat) : ∀ (i : Nat), i + d = l.length → Ev (fun k => laws_eqSideS.l0 k l l (i : Int)) true := by
  induction d with
  | zero =>
    intro i hi
    refine Ev.step (f := fun _ => some true) (fun k => ?_) (Ev.now _)
    simp only [laws_eqSideS.l0]; rw [if_neg (by omega)]
  | succ d ih =>
    intro i hi
    have hlt : (i : Int) < (l.length : Int) := by omega
    have hi0 : (0 : Int) ≤ (i : Int) := by omega
    have hi1 : ((i + 1 : Nat) : Int) = (i : Int) + 1 := by omega
    have w2 : wrap64 ((i : Int) + 1) = ((i + 1 : Nat) : Int) := by rw [hi1]; exact w64 (by omega) (by omega)
    refine Ev.step (f := fun k => laws_eqSideS.l0 k l l ((i + 1 : Nat) : Int)) (fun k => ?_) (ih (i + 1) (by clear w2; omega))
    simp only [laws_eqSideS.l0, laws_eqSide.f]
    rw [if_pos hlt, if_pos hi0, if_pos hlt, if_pos trivial, if_neg (by simp), Option.bind_some, if_pos rfl, w2]
theorem eqSideS_ev (l : List S85) (hl : l.length ≤ 1048576) : Ev (fun k => laws_eqSideS.f k l l) true := by
  unfold laws_eqSideS.f
  have h := eqSideS_loop l hl l.length 0 (by omega)
  rw [Int.natCast_zero] at h
  exact Ev.ifp rfl h
theorem cvS_size {l : List S107} (h : ∀ p ∈ l, p.f0.size ≤ 1048576) : ∀ p ∈ l.map cvS, p.f0.size ≤ 1048576 := by
  intro p hp
  obtain ⟨q, hq, rfl⟩ := List.mem_map.1 hp
  exact h q hq

/-! ### peaks that are a range: the plain words -/
/-- A power of two, of numbers in 1..20. -/
def two (c : Int) : Bool := decide (c = 1 ∨ c = 2 ∨ c = 4 ∨ c = 8 ∨ c = 16)
/-- Whether a peak is ok. -/
def pkB (s : ByteArray) (w c : Int) : Bool := sumB (bytesOf s) && (decide (1 ≤ c ∧ c ≤ 20) && decide (c ≤ w ∧ w ≤ c * 8))
theorem pkB_count {s : ByteArray} {w c : Int} (h : pkB s w c = true) : 1 ≤ c ∧ c ≤ 20 := by
  unfold pkB at h
  rw [Bool.and_eq_true, Bool.and_eq_true, decide_eq_true_iff] at h
  exact h.2.1
theorem pkB_work {s : ByteArray} {w c : Int} (h : pkB s w c = true) : c ≤ w ∧ w ≤ c * 8 := by
  unfold pkB at h
  rw [Bool.and_eq_true, Bool.and_eq_true, decide_eq_true_iff, decide_eq_true_iff] at h
  exact h.2.2
theorem twenty {c : Int} (h : 1 ≤ c ∧ c ≤ 20) : c = 1 ∨ c = 2 ∨ c = 3 ∨ c = 4 ∨ c = 5 ∨ c = 6 ∨ c = 7 ∨ c = 8 ∨ c = 9 ∨ c = 10 ∨ c = 11 ∨ c = 12 ∨ c = 13 ∨ c = 14 ∨ c = 15 ∨ c = 16 ∨ c = 17 ∨ c = 18 ∨ c = 19 ∨ c = 20 := by omega
/-- Is the count not below that of the one ahead? -/
def notLess : Option Int → Int → Bool
  | none, _ => false
  | some q, c => decide (c ≥ q)
/-- Whether peaks are a range, the count of the one ahead and the counts so far being told. -/
def rgo : Option Int → Int → List S93 → Bool
  | _, n, [] => decide (n ≤ 20)
  | prev, n, p :: r => if pkB p.f0 p.f1 p.f2 = true then (if two p.f2 = true then (if notLess prev p.f2 = true then false else rgo (some p.f2) (n + p.f2) r) else false) else false
def rangeB (l : List S93) : Bool := rgo none 0 l
theorem rdIP_ (l : List S93) (i : Nat) (h : i < l.length) : rd_T93 l (i : Int) = l[i] := by
  unfold rd_T93
  rw [Int.toNat_natCast, List.getD_eq_getElem?_getD, List.getElem?_eq_getElem h, Option.getD_some]
/-- The count of the peak ahead. -/
def pv (l : List S93) : Nat → Option Int
  | 0 => none
  | i + 1 => some (rd_T93 l (i : Int)).f2
theorem pv_succ (l : List S93) (i : Nat) : pv l (i + 1) = some (rd_T93 l (i : Int)).f2 := rfl
theorem rgo_at (l : List S93) (i : Nat) (n : Int) (h : i < l.length) : rgo (pv l i) n (l.drop i) = if pkB l[i].f0 l[i].f1 l[i].f2 = true then (if two l[i].f2 = true then (if notLess (pv l i) l[i].f2 = true then false else rgo (pv l (i + 1)) (n + l[i].f2) (l.drop (i + 1))) else false) else false := by
  have e : pv l (i + 1) = some l[i].f2 := by rw [pv_succ, rdIP_ l i h]
  rw [List.drop_eq_getElem_cons h, e]
  rfl

/-! ### the reference's RangeOk -/
theorem specTwo_ev {c : Int} (h : 1 ≤ c ∧ c ≤ 20) : Ev (fun k => spec_l5Two.f k c) (two c) := by
  rcases twenty h with rfl | rfl | rfl | rfl | rfl | rfl | rfl | rfl | rfl | rfl | rfl | rfl | rfl | rfl | rfl | rfl | rfl | rfl | rfl | rfl <;> exact Ev.of (fun k => spec_l5Two.mono _ k) (k := 7) (by decide +kernel)
theorem specPeak_ev (s : ByteArray) (w c : Int) (hs : s.size ≤ 140737488351232) : Ev (fun k => spec_l5PeakOk.f k s w c) (pkB s w c) := by
  unfold spec_l5PeakOk.f pkB
  refine Ev.bind (specIsSum_ev s hs) ?_
  by_cases h : sumB (bytesOf s) = true
  · refine Ev.ifp h (Ev.b (specIn _ _ _) ?_)
    rw [h, Bool.true_and]
    by_cases hc : 1 ≤ c ∧ c ≤ 20
    · have hw : wrap64 (c * 8) = c * 8 := w64 (by omega) (by omega)
      rw [decide_eq_true hc, Bool.true_and, hw]
      exact Ev.ifp rfl (Ev.b (specIn _ _ _) (Ev.now _))
    · rw [decide_eq_false hc, Bool.false_and]
      exact Ev.ifn (by simp) (Ev.now _)
  · rw [Bool.eq_false_iff.2 h, Bool.false_and]
    exact Ev.ifn (by simp) (Ev.now _)
theorem specRange_loop (l : List S93) (hl : l.length ≤ 1048576) (hs : ∀ p ∈ l, p.f0.size ≤ 1048576) (d : Nat) : ∀ (i : Nat) (n : Int), i + d = l.length → 0 ≤ n → n ≤ 20 * (i : Int) →
    Ev (fun k => spec_l5Ok.l0 k l n (i : Int)) (rgo (pv l i) n (l.drop i)) := by
  induction d with
  | zero =>
    intro i n hi h0 h1
    rw [List.drop_eq_nil_of_le (by omega)]
    refine Ev.step (f := fun _ => some (decide (n ≤ 20))) (fun k => ?_) (Ev.now _)
    simp only [spec_l5Ok.l0]; rw [if_neg (by omega)]
  | succ d ih =>
    intro i n hi h0 h1
    have hil : i < l.length := by omega
    have hlt : (i : Int) < (l.length : Int) := by omega
    have hi0 : (0 : Int) ≤ (i : Int) := by omega
    have hi1 : ((i + 1 : Nat) : Int) = (i : Int) + 1 := by omega
    have hd : i + 1 + d = l.length := by omega
    have hz := hs _ (List.getElem_mem hil)
    have w2 : wrap64 ((i : Int) + 1) = ((i + 1 : Nat) : Int) := by rw [hi1]; exact w64 (by omega) (by omega)
    rw [rgo_at l i n hil]
    have hpk := specPeak_ev l[i].f0 l[i].f1 l[i].f2 (by clear w2; omega)
    refine Ev.step (f := fun k => (spec_l5PeakOk.f k l[i].f0 l[i].f1 l[i].f2).bind fun t126 => (if t126 = true then ((spec_l5Two.f k l[i].f2).bind fun t128 => (if t128 = true then (if (i : Int) > 0 then (if 0 ≤ (wrap64 ((i : Int) - 1)) then (if (wrap64 ((i : Int) - 1)) < (l.length : Int) then (if l[i].f2 ≥ ((rd_T93 l (wrap64 ((i : Int) - 1))).f2) then (some false) else (spec_l5Ok.l0 k l (wrap64 (n + l[i].f2)) (wrap64 ((i : Int) + 1)))) else (none)) else (none)) else (spec_l5Ok.l0 k l (wrap64 (n + l[i].f2)) (wrap64 ((i : Int) + 1)))) else (some false))) else (some false))) (fun k => ?_) (Ev.bind hpk ?_)
    · simp only [spec_l5Ok.l0]; rw [if_pos hlt, if_pos hi0, rdIP_ l i hil]
    by_cases hp : pkB l[i].f0 l[i].f1 l[i].f2 = true
    · rw [if_pos hp]
      have hc := pkB_count hp
      refine Ev.ifp hp (Ev.bind (specTwo_ev hc) ?_)
      by_cases ht : two l[i].f2 = true
      · rw [if_pos ht]
        refine Ev.ifp ht ?_
        have w3 : wrap64 (n + l[i].f2) = n + l[i].f2 := by clear w2; exact w64 (by omega) (by omega)
        have hnx := ih (i + 1) (n + l[i].f2) hd (by clear w2 w3; omega) (by clear w2 w3; omega)
        rw [w3, w2]
        cases i with
        | zero =>
          rw [if_neg (show ¬ notLess (pv l 0) l[0].f2 = true by unfold pv notLess; simp)]
          exact Ev.ifn (by clear w2 w3; omega) hnx
        | succ i =>
          have w4 : wrap64 (((i + 1 : Nat) : Int) - 1) = (i : Int) := by clear w2 w3; exact (w64 (by omega) (by omega)).trans (by omega)
          rw [w4]
          rw [pv_succ]
          refine Ev.ifp (by clear w2 w3 w4; omega) (Ev.ifp (by clear w2 w3 w4; omega) (Ev.ifp (by clear w2 w3 w4; omega) ?_))
          by_cases hg : l[i + 1].f2 ≥ (rd_T93 l (i : Int)).f2
          · rw [if_pos (show notLess (some (rd_T93 l (i : Int)).f2) l[i + 1].f2 = true from decide_eq_true hg)]
            exact Ev.ifp hg (Ev.now _)
          · rw [if_neg (show ¬ notLess (some (rd_T93 l (i : Int)).f2) l[i + 1].f2 = true by rw [show notLess (some (rd_T93 l (i : Int)).f2) l[i + 1].f2 = false from decide_eq_false hg]; simp)]
            exact Ev.ifn hg hnx
      · rw [if_neg ht]
        exact Ev.ifn ht (Ev.now _)
    · rw [if_neg hp]
      exact Ev.ifn hp (Ev.now _)
theorem specRange_ev (l : List S93) (hl : l.length ≤ 1048576) (hs : ∀ p ∈ l, p.f0.size ≤ 1048576) : Ev (fun k => spec_l5Ok.f k l) (rangeB l) := by
  have h := specRange_loop l hl hs l.length 0 0 (by omega) (by omega) (by omega)
  rw [List.drop_zero, Int.natCast_zero] at h
  unfold spec_l5Ok.f
  exact h

/-! ### the program's RangeOk -/
theorem implPeak_ev (s : ByteArray) (w c : Int) (hs : s.size ≤ 140737488351232) : Ev (fun k => impl_peakOk.f k s w c) (pkB s w c) := by
  unfold impl_peakOk.f pkB
  refine Ev.bind (implIsSum_ev s hs) ?_
  by_cases h : sumB (bytesOf s) = true
  · refine Ev.ifp h (Ev.b (implIn _ _ _) ?_)
    rw [h, Bool.true_and]
    by_cases hc : 1 ≤ c ∧ c ≤ 20
    · have hw : wrap64 (c * 8) = c * 8 := w64 (by omega) (by omega)
      rw [decide_eq_true hc, Bool.true_and, hw]
      exact Ev.ifp rfl (Ev.b (implIn _ _ _) (Ev.now _))
    · rw [decide_eq_false hc, Bool.false_and]
      exact Ev.ifn (by simp) (Ev.now _)
  · rw [Bool.eq_false_iff.2 h, Bool.false_and]
    exact Ev.ifn (by simp) (Ev.now _)
theorem two_and {c : Int} (h : 1 ≤ c ∧ c ≤ 20) : Go.bits .and .i64 c (wrap64 (c - 1)) = 0 ↔ two c = true := by
  rcases twenty h with rfl | rfl | rfl | rfl | rfl | rfl | rfl | rfl | rfl | rfl | rfl | rfl | rfl | rfl | rfl | rfl | rfl | rfl | rfl | rfl <;> decide +kernel
theorem implRange_loop (l : List S93) (hl : l.length ≤ 1048576) (hs : ∀ p ∈ l, p.f0.size ≤ 1048576) (d : Nat) : ∀ (i : Nat) (n : Int), i + d = l.length → 0 ≤ n → n ≤ 20 * (i : Int) →
    Ev (fun k => impl_RangeOk.l0 k l n l (l.length : Int) (i : Int)) (rgo (pv l i) n (l.drop i)) := by
  induction d with
  | zero =>
    intro i n hi h0 h1
    rw [List.drop_eq_nil_of_le (by omega)]
    refine Ev.step (f := fun _ => some (decide (n ≤ 20))) (fun k => ?_) (Ev.now _)
    simp only [impl_RangeOk.l0]; rw [if_neg (by omega)]
  | succ d ih =>
    intro i n hi h0 h1
    have hil : i < l.length := by omega
    have hlt : (i : Int) < (l.length : Int) := by omega
    have hi0 : (0 : Int) ≤ (i : Int) := by omega
    have hi1 : ((i + 1 : Nat) : Int) = (i : Int) + 1 := by omega
    have hd : i + 1 + d = l.length := by omega
    have hz := hs _ (List.getElem_mem hil)
    have w2 : wrap64 ((i : Int) + 1) = ((i + 1 : Nat) : Int) := by rw [hi1]; exact w64 (by omega) (by omega)
    rw [rgo_at l i n hil]
    have hpk := implPeak_ev l[i].f0 l[i].f1 l[i].f2 (by clear w2; omega)
    refine Ev.step (f := fun k => (impl_peakOk.f k l[i].f0 l[i].f1 l[i].f2).bind fun t146 => (if t146 = true then (if (Go.bits .and .i64 l[i].f2 (wrap64 (l[i].f2 - 1))) = 0 then (if (i : Int) > 0 then (if 0 ≤ (wrap64 ((i : Int) - 1)) then (if (wrap64 ((i : Int) - 1)) < (l.length : Int) then (if l[i].f2 ≥ ((rd_T93 l (wrap64 ((i : Int) - 1))).f2) then (some false) else (impl_RangeOk.l0 k l (wrap64 (n + l[i].f2)) l (l.length : Int) (wrap64 ((i : Int) + 1)))) else (none)) else (none)) else (impl_RangeOk.l0 k l (wrap64 (n + l[i].f2)) l (l.length : Int) (wrap64 ((i : Int) + 1)))) else (some false)) else (some false))) (fun k => ?_) (Ev.bind hpk ?_)
    · simp only [impl_RangeOk.l0]; rw [if_pos hlt, if_pos hi0, if_pos hlt, rdIP_ l i hil]
    by_cases hp : pkB l[i].f0 l[i].f1 l[i].f2 = true
    · rw [if_pos hp]
      have hc := pkB_count hp
      refine Ev.ifp hp ?_
      by_cases ht : two l[i].f2 = true
      · rw [if_pos ht]
        refine Ev.ifp ((two_and hc).2 ht) ?_
        have w3 : wrap64 (n + l[i].f2) = n + l[i].f2 := by clear w2; exact w64 (by omega) (by omega)
        have hnx := ih (i + 1) (n + l[i].f2) hd (by clear w2 w3; omega) (by clear w2 w3; omega)
        rw [w3, w2]
        cases i with
        | zero =>
          rw [if_neg (show ¬ notLess (pv l 0) l[0].f2 = true by unfold pv notLess; simp)]
          exact Ev.ifn (by clear w2 w3; omega) hnx
        | succ i =>
          have w4 : wrap64 (((i + 1 : Nat) : Int) - 1) = (i : Int) := by clear w2 w3; exact (w64 (by omega) (by omega)).trans (by omega)
          rw [w4]
          rw [pv_succ]
          refine Ev.ifp (by clear w2 w3 w4; omega) (Ev.ifp (by clear w2 w3 w4; omega) (Ev.ifp (by clear w2 w3 w4; omega) ?_))
          by_cases hg : l[i + 1].f2 ≥ (rd_T93 l (i : Int)).f2
          · rw [if_pos (show notLess (some (rd_T93 l (i : Int)).f2) l[i + 1].f2 = true from decide_eq_true hg)]
            exact Ev.ifp hg (Ev.now _)
          · rw [if_neg (show ¬ notLess (some (rd_T93 l (i : Int)).f2) l[i + 1].f2 = true by rw [show notLess (some (rd_T93 l (i : Int)).f2) l[i + 1].f2 = false from decide_eq_false hg]; simp)]
            exact Ev.ifn hg hnx
      · rw [if_neg ht]
        exact Ev.ifn (fun h => ht ((two_and hc).1 h)) (Ev.now _)
    · rw [if_neg hp]
      exact Ev.ifn hp (Ev.now _)
theorem implRange_ev (l : List S93) (hl : l.length ≤ 1048576) (hs : ∀ p ∈ l, p.f0.size ≤ 1048576) : Ev (fun k => impl_RangeOk.f k l) (rangeB l) := by
  have h := implRange_loop l hl hs l.length 0 0 (by omega) (by omega) (by omega)
  rw [List.drop_zero, Int.natCast_zero] at h
  unfold impl_RangeOk.f
  exact h

/-! ### the laws' own helpers on heads, proofs and what is paid -/
theorem szHead_some (s t : ByteArray) (x y z a : Int) (h0 : 0 ≤ a) (h1 : a ≤ 1048576) (hs : s.size ≤ 9223372036854775807) (ht : t.size ≤ 9223372036854775807) :
    ∃ v, laws_szHead.f s t x y z a = some v ∧ (v < 0 ∨ (v ≤ a ∧ s.size ≤ 1048576 ∧ t.size ≤ 1048576)) := by
  unfold laws_szHead.f
  have w1 : wrap64 (a - (s.size : Int)) = a - (s.size : Int) := w64 (by omega) (by omega)
  rw [w1]
  clear w1
  by_cases h : a - (s.size : Int) < 0
  · exact ⟨-1, if_pos h, .inl (by decide)⟩
  · rw [if_neg h]
    have w2 : wrap64 (a - (s.size : Int) - (t.size : Int)) = a - (s.size : Int) - (t.size : Int) := w64 (by omega) (by omega)
    rw [w2]
    clear w2
    by_cases h2 : a - (s.size : Int) - (t.size : Int) < 0
    · exact ⟨-1, if_pos h2, .inl (by decide)⟩
    · exact ⟨_, if_neg h2, .inr (by omega)⟩
theorem szProof_ev (l m : List S124) (a : Int) (h0 : 0 ≤ a) (h1 : a ≤ 1048576) (hl : l.length ≤ 9223372036854775807) (hs : ∀ p ∈ l, p.f0.size ≤ 9223372036854775807) (hm : m.length ≤ 9223372036854775807) (hsm : ∀ p ∈ m, p.f0.size ≤ 9223372036854775807) :
    ∃ v, Ev (fun k => laws_szProof.f k l m a) v ∧ (v < 0 ∨ (v ≤ a ∧ (l.length ≤ 1048576 ∧ ∀ p ∈ l, p.f0.size ≤ 1048576) ∧ (m.length ≤ 1048576 ∧ ∀ p ∈ m, p.f0.size ≤ 1048576))) := by
  unfold laws_szProof.f
  obtain ⟨v, hv, hvv⟩ := szPeakS_ev l a h0 h1 hl hs
  by_cases h : v < 0
  · exact ⟨-1, Ev.bind hv (Ev.ifp h (Ev.now _)), .inl (by decide)⟩
  · obtain ⟨va, hn, hz⟩ := hvv.resolve_left h
    obtain ⟨u, hu, huu⟩ := szPeakS_ev m v (by omega) (by omega) hm hsm
    by_cases h2 : u < 0
    · exact ⟨-1, Ev.bind hv (Ev.ifn h (Ev.bind hu (Ev.ifp h2 (Ev.now _)))), .inl (by decide)⟩
    · obtain ⟨ua, hn2, hz2⟩ := huu.resolve_left h2
      exact ⟨u, Ev.bind hv (Ev.ifn h (Ev.bind hu (Ev.ifn h2 (Ev.now _)))), .inr ⟨by omega, ⟨hn, hz⟩, ⟨hn2, hz2⟩⟩⟩
/-- What is paid, of the laws: its strings can be read. -/
def PaidIn (s t : ByteArray) (l m : List S124) (q : List S107) : Prop :=
  s.size ≤ 9223372036854775807 ∧ t.size ≤ 9223372036854775807 ∧ (l.length ≤ 9223372036854775807 ∧ ∀ p ∈ l, p.f0.size ≤ 9223372036854775807) ∧ (m.length ≤ 9223372036854775807 ∧ ∀ p ∈ m, p.f0.size ≤ 9223372036854775807) ∧ (q.length ≤ 9223372036854775807 ∧ ∀ p ∈ q, p.f0.size ≤ 9223372036854775807)
/-- What is paid, of the laws: all is small. -/
def PaidSmall (s t : ByteArray) (l m : List S124) (q : List S107) : Prop :=
  s.size ≤ 1048576 ∧ t.size ≤ 1048576 ∧ (l.length ≤ 1048576 ∧ ∀ p ∈ l, p.f0.size ≤ 1048576) ∧ (m.length ≤ 1048576 ∧ ∀ p ∈ m, p.f0.size ≤ 1048576) ∧ (q.length ≤ 1048576 ∧ ∀ p ∈ q, p.f0.size ≤ 1048576)
theorem szPaid_ev (at_ : Int) (s t : ByteArray) (x y z : Int) (l m : List S124) (q : List S107) (h : PaidIn s t l m q) :
    ∃ v, Ev (fun k => laws_szPaid.f k at_ s t x y z l m q 1048576) v ∧ (v < 0 ∨ PaidSmall s t l m q) := by
  obtain ⟨hs, ht, hl, hm, hq⟩ := h
  unfold laws_szPaid.f
  obtain ⟨v, hv, hvv⟩ := szHead_some s t x y z 1048576 (by omega) (by omega) hs ht
  by_cases h : v < 0
  · exact ⟨-1, Ev.b hv (Ev.ifp h (Ev.now _)), .inl (by decide)⟩
  obtain ⟨va, hs2, ht2⟩ := hvv.resolve_left h
  obtain ⟨u, hu, huu⟩ := szProof_ev l m v (by omega) va hl.1 hl.2 hm.1 hm.2
  by_cases h2 : u < 0
  · exact ⟨-1, Ev.b hv (Ev.ifn h (Ev.bind hu (Ev.ifp h2 (Ev.now _)))), .inl (by decide)⟩
  obtain ⟨ua, hl2, hm2⟩ := huu.resolve_left h2
  obtain ⟨r, hr, hrr⟩ := szSideS_ev q u (by omega) (by omega) hq.1 hq.2
  by_cases h3 : r < 0
  · exact ⟨-1, Ev.b hv (Ev.ifn h (Ev.bind hu (Ev.ifn h2 (Ev.bind hr (Ev.ifp h3 (Ev.now _)))))), .inl (by decide)⟩
  obtain ⟨_, hq1, hq2⟩ := hrr.resolve_left h3
  exact ⟨r, Ev.b hv (Ev.ifn h (Ev.bind hu (Ev.ifn h2 (Ev.bind hr (Ev.ifn h3 (Ev.now _)))))), .inr ⟨hs2, ht2, hl2, hm2, hq1, hq2⟩⟩
theorem toPaid_ev (at_ : Int) (s t : ByteArray) (x y z : Int) (l m : List S124) (q : List S107) (h : PaidSmall s t l m q) :
    Ev (fun k => laws_toPaid.f k at_ s t x y z l m q) (at_, s, t, x, y, z, l.map cvP, m.map cvP, q.map cvS) := by
  obtain ⟨_, _, hl, hm, hq⟩ := h
  unfold laws_toPaid.f laws_toHead.f laws_toProof.f
  simp only [Option.bind_some]
  exact Ev.bind (Ev.bind (toPeakS_ev l hl.1) (Ev.bind (toPeakS_ev m hm.1) (Ev.now _))) (Ev.bind (toSideS_ev q hq.1) (Ev.now _))
theorem eqPaid_ev (at_ : Int) (s t : ByteArray) (x y z : Int) (l m : List S93) (q : List S85) (hl : l.length ≤ 1048576) (hm : m.length ≤ 1048576) (hq : q.length ≤ 1048576) :
    Ev (fun k => laws_eqPaid.f k at_ s t x y z l m q at_ s t x y z l m q) true := by
  unfold laws_eqPaid.f laws_eqProof.f
  have hh : laws_eqHead.f s t x y z s t x y z = some true := by unfold laws_eqHead.f; simp
  exact Ev.ifp rfl (Ev.b hh (Ev.ifp rfl (Ev.bind (Ev.bind (eqPeakS_ev l hl) (Ev.ifp rfl (Ev.bind (eqPeakS_ev m hm) (Ev.ifp rfl (Ev.now _))))) (Ev.ifp rfl (Ev.bind (eqSideS_ev q hq) (Ev.ifp rfl (Ev.now _)))))))

/-! ### proofs as they are written -/
def pkS (p : S93) : Bool := pkB p.f0 p.f1 p.f2
def sideB (p : S85) : Bool := sumB (bytesOf p.f0)
/-- Whether a proof can be written. -/
def paidB (at_ : Int) (s t : ByteArray) (x y z : Int) (l m : List S93) (q : List S85) : Bool :=
  decide (0 ≤ at_ ∧ at_ ≤ 19) && (headB s t x y z && (rangeB l && (decide (m.length ≤ 8) && (decide (q.length ≤ 8) && (m.all pkS && q.all sideB)))))
theorem paidB_iff (at_ : Int) (s t : ByteArray) (x y z : Int) (l m : List S93) (q : List S85) : paidB at_ s t x y z l m q = true ↔
    (0 ≤ at_ ∧ at_ ≤ 19) ∧ headB s t x y z = true ∧ rangeB l = true ∧ m.length ≤ 8 ∧ q.length ≤ 8 ∧ m.all pkS = true ∧ q.all sideB = true := by
  unfold paidB
  rw [Bool.and_eq_true, Bool.and_eq_true, Bool.and_eq_true, Bool.and_eq_true, Bool.and_eq_true, Bool.and_eq_true, decide_eq_true_iff, decide_eq_true_iff, decide_eq_true_iff]
theorem rgo_pk : ∀ (l : List S93) (prev : Option Int) (n : Int), rgo prev n l = true → ∀ p ∈ l, pkS p = true
  | [], _, _, _, p, hp => absurd hp List.not_mem_nil
  | a :: r, prev, n, h, p, hp => by
    unfold rgo at h
    by_cases h1 : pkB a.f0 a.f1 a.f2 = true
    · rw [if_pos h1] at h
      by_cases h2 : two a.f2 = true
      · rw [if_pos h2] at h
        by_cases h3 : notLess prev a.f2 = true
        · rw [if_pos h3] at h; cases h
        · rw [if_neg h3] at h
          rcases List.mem_cons.1 hp with rfl | hp
          · exact h1
          · exact rgo_pk r _ _ h p hp
      · rw [if_neg h2] at h; cases h
    · rw [if_neg h1] at h; cases h
theorem range_pk {l : List S93} (h : rangeB l = true) : ∀ p ∈ l, pkS p = true := rgo_pk l none 0 h
theorem pkS_facts {p : S93} (h : pkS p = true) : p.f0.size = 16 ∧ (0 ≤ p.f1 ∧ p.f1 ≤ 160) ∧ (0 ≤ p.f2 ∧ p.f2 ≤ 20) := by
  have h1 := pkB_count h
  have h2 := pkB_work h
  have h3 : sumB (bytesOf p.f0) = true := by
    unfold pkS pkB at h
    rw [Bool.and_eq_true] at h
    exact h.1
  have h4 := ((sumB_iff _).1 h3).2
  rw [bytes_len] at h4
  exact ⟨h4, by omega, by omega⟩
def peaksL : List S93 → List Int
  | [] => []
  | p :: r => 32 :: (bytesOf p.f0 ++ 58 :: (decI p.f1.toNat ++ 58 :: (decI p.f2.toNat ++ peaksL r)))
def sidesL : List S85 → List Int
  | [] => []
  | p :: r => 32 :: (if p.f1 = true then 108 else 114) :: (bytesOf p.f0 ++ sidesL r)
def paidL (at_ : Int) (s t : ByteArray) (x y z : Int) (l m : List S93) (q : List S85) : List Int :=
  decI at_.toNat ++ 32 :: (bytesOf (headS s t x y z) ++ ([10, 112, 101, 97, 107, 115] ++ (peaksL l ++ ([10, 115, 116, 101, 112, 115] ++ (peaksL m ++ ([10, 115, 105, 100, 101, 115] ++ (sidesL q ++ [10])))))))
/-- A proof as it is written. -/
def paidPut (at_ : Int) (s t : ByteArray) (x y z : Int) (l m : List S93) (q : List S85) : ByteArray :=
  if paidB at_ s t x y z l m q = true then strOfNums (paidL at_ s t x y z l m q) else (⟨#[]⟩ : ByteArray)
theorem paidPut_pos {at_ : Int} {s t : ByteArray} {x y z : Int} {l m : List S93} {q : List S85} (h : paidB at_ s t x y z l m q = true) : paidPut at_ s t x y z l m q = strOfNums (paidL at_ s t x y z l m q) := if_pos h
theorem paidPut_neg {at_ : Int} {s t : ByteArray} {x y z : Int} {l m : List S93} {q : List S85} (h : ¬ paidB at_ s t x y z l m q = true) : paidPut at_ s t x y z l m q = (⟨#[]⟩ : ByteArray) := if_neg h
theorem str_of {r : ByteArray} {l : List Int} (h : bytesOf r = l) : r = strOfNums l := by rw [← h, str_bytes]
theorem headS_size {s t : ByteArray} {x y z : Int} (h : headB s t x y z = true) : (headS s t x y z).size ≤ 100 := by
  have hs := headB_size h
  have h1 := (headB_iff s t x y z).1 h
  have ht := dec_small (n := x) (by omega)
  have hd := dec_small (n := y) (by omega)
  have hn := dec_small (n := z) (by omega)
  unfold headS
  simp only [ByteArray.size_append, one_size]
  omega
theorem six_size (a b c d e f : UInt8) : (⟨#[a, b, c, d, e, f]⟩ : ByteArray).size = 6 := rfl
theorem five_size (a b c d e : UInt8) : (⟨#[a, b, c, d, e]⟩ : ByteArray).size = 5 := rfl
theorem two_size (a b : UInt8) : (⟨#[a, b]⟩ : ByteArray).size = 2 := rfl

theorem specPeaks_loop (l : List S93) (hl : l.length ≤ 1048576) (hp : ∀ p ∈ l, pkS p = true) : ∀ (d i : Nat) (x : ByteArray), i + d = l.length → x.size ≤ 1000000 + 1000 * i →
    ∃ r, Ev (fun k => spec_l9Peaks.l0 k l x (i : Int)) r ∧ bytesOf r = bytesOf x ++ peaksL (l.drop i) ∧ r.size ≤ 1000000 + 1000 * l.length
  | 0, i, x, h, hx => by
    refine ⟨x, Ev.step (f := fun _ => some x) (fun k => ?_) (Ev.now _), ?_, by omega⟩
    · simp only [spec_l9Peaks.l0]
      rw [if_neg (by omega)]
    · rw [List.drop_eq_nil_of_le (by omega), peaksL, List.append_nil]
  | d + 1, i, x, h, hx => by
    have hi : i < l.length := by omega
    have hf := pkS_facts (hp _ (List.getElem_mem hi))
    have e1 := dec_small (n := l[i].f1) (by omega)
    have e2 := dec_small (n := l[i].f2) (by omega)
    obtain ⟨r, hr, hb, hs⟩ := specPeaks_loop l hl hp d (i + 1) ((((((x ++ (⟨#[32]⟩ : ByteArray)) ++ l[i].f0) ++ (⟨#[58]⟩ : ByteArray)) ++ decS l[i].f1) ++ (⟨#[58]⟩ : ByteArray)) ++ decS l[i].f2) (by omega) (by simp only [ByteArray.size_append, one_size]; omega)
    have hw : wrap64 ((i : Int) + 1) = ((i + 1 : Nat) : Int) := by rw [w64 (by omega) (by omega)]; omega
    refine ⟨r, Ev.step (f := fun k => (spec_l1Dec.f k l[i].f1).bind fun t177 => (if (((x ++ (⟨#[32]⟩ : ByteArray)) ++ l[i].f0) ++ (⟨#[58]⟩ : ByteArray)).size + t177.size ≤ 9223372036854775807 then (if ((((x ++ (⟨#[32]⟩ : ByteArray)) ++ l[i].f0) ++ (⟨#[58]⟩ : ByteArray)) ++ t177).size + 1 ≤ 9223372036854775807 then ((spec_l1Dec.f k l[i].f2).bind fun t179 => (if (((((x ++ (⟨#[32]⟩ : ByteArray)) ++ l[i].f0) ++ (⟨#[58]⟩ : ByteArray)) ++ t177) ++ (⟨#[58]⟩ : ByteArray)).size + t179.size ≤ 9223372036854775807 then (spec_l9Peaks.l0 k l ((((((x ++ (⟨#[32]⟩ : ByteArray)) ++ l[i].f0) ++ (⟨#[58]⟩ : ByteArray)) ++ t177) ++ (⟨#[58]⟩ : ByteArray)) ++ t179) ((i + 1 : Nat) : Int)) else (none))) else (none)) else (none))) (fun k => ?_) ?_, ?_, hs⟩
    · simp only [spec_l9Peaks.l0]
      rw [rdIP l i hi, hw]
      clear hw
      rw [if_pos (by omega), if_pos (by omega), if_pos (by omega), if_pos (by rw [ByteArray.size_append, one_size]; omega), if_pos (by simp only [ByteArray.size_append, one_size]; omega)]
    · clear hw
      exact Ev.bind (specDec (n := l[i].f1) (by omega) (by omega)) (Ev.ifp (by simp only [ByteArray.size_append, one_size]; omega) (Ev.ifp (by simp only [ByteArray.size_append, one_size]; omega) (Ev.bind (specDec (n := l[i].f2) (by omega) (by omega)) (Ev.ifp (by simp only [ByteArray.size_append, one_size]; omega) hr))))
    · clear hw
      rw [hb, List.drop_eq_getElem_cons hi, peaksL]
      simp only [bytes_append, decS_bytes, List.append_assoc]
      rfl
theorem specSides_loop (l : List S85) (hl : l.length ≤ 1048576) (hp : ∀ p ∈ l, sideB p = true) : ∀ (d i : Nat) (x : ByteArray), i + d = l.length → x.size ≤ 1000000 + 1000 * i →
    ∃ r, Ev (fun k => spec_l9Sides.l0 k l x (i : Int)) r ∧ bytesOf r = bytesOf x ++ sidesL (l.drop i) ∧ r.size ≤ 1000000 + 1000 * l.length
  | 0, i, x, h, hx => by
    refine ⟨x, Ev.step (f := fun _ => some x) (fun k => ?_) (Ev.now _), ?_, by omega⟩
    · simp only [spec_l9Sides.l0]
      rw [if_neg (by omega)]
    · rw [List.drop_eq_nil_of_le (by omega), sidesL, List.append_nil]
  | d + 1, i, x, h, hx => by
    have hi : i < l.length := by omega
    have hf : l[i].f0.size = 16 := by
      have := ((sumB_iff _).1 (hp _ (List.getElem_mem hi))).2
      rw [bytes_len] at this; exact this
    by_cases c : l[i].f1 = true
    · obtain ⟨r, hr, hb, hs⟩ := specSides_loop l hl hp d (i + 1) (((x ++ (⟨#[32]⟩ : ByteArray)) ++ (⟨#[108]⟩ : ByteArray)) ++ l[i].f0) (by omega) (by simp only [ByteArray.size_append, one_size]; omega)
      refine ⟨r, Ev.step (f := fun k => spec_l9Sides.l0 k l (((x ++ (⟨#[32]⟩ : ByteArray)) ++ (⟨#[108]⟩ : ByteArray)) ++ l[i].f0) ((i + 1 : Nat) : Int)) (fun k => ?_) hr, ?_, hs⟩
      · simp only [spec_l9Sides.l0]
        rw [rdID l i hi, if_pos (by omega), if_pos (by omega), if_pos c, if_pos (by omega), if_pos (by rw [ByteArray.size_append, one_size]; omega), if_pos (by simp only [ByteArray.size_append, one_size]; omega), w64 (by omega) (by omega)]
        rfl
      · rw [hb, List.drop_eq_getElem_cons hi, sidesL, if_pos c]
        simp only [bytes_append, List.append_assoc]
        rfl
    · obtain ⟨r, hr, hb, hs⟩ := specSides_loop l hl hp d (i + 1) (((x ++ (⟨#[32]⟩ : ByteArray)) ++ (⟨#[114]⟩ : ByteArray)) ++ l[i].f0) (by omega) (by simp only [ByteArray.size_append, one_size]; omega)
      refine ⟨r, Ev.step (f := fun k => spec_l9Sides.l0 k l (((x ++ (⟨#[32]⟩ : ByteArray)) ++ (⟨#[114]⟩ : ByteArray)) ++ l[i].f0) ((i + 1 : Nat) : Int)) (fun k => ?_) hr, ?_, hs⟩
      · simp only [spec_l9Sides.l0]
        rw [rdID l i hi, if_pos (by omega), if_pos (by omega), if_neg c, if_pos (by omega), if_pos (by rw [ByteArray.size_append, one_size]; omega), if_pos (by simp only [ByteArray.size_append, one_size]; omega), w64 (by omega) (by omega)]
        rfl
      · rw [hb, List.drop_eq_getElem_cons hi, sidesL, if_neg c]
        simp only [bytes_append, List.append_assoc]
        rfl
theorem specPeaks_ev (l : List S93) (hl : l.length ≤ 1048576) (hp : ∀ p ∈ l, pkS p = true) : ∃ r, Ev (fun k => spec_l9Peaks.f k l) r ∧ bytesOf r = peaksL l ∧ r.size ≤ 1000000 + 1000 * l.length := by
  obtain ⟨r, hr, hb, hs⟩ := specPeaks_loop l hl hp l.length 0 (⟨#[]⟩ : ByteArray) (by omega) (Nat.zero_le _)
  exact ⟨r, hr, hb, hs⟩
theorem specSides_ev (l : List S85) (hl : l.length ≤ 1048576) (hp : ∀ p ∈ l, sideB p = true) : ∃ r, Ev (fun k => spec_l9Sides.f k l) r ∧ bytesOf r = sidesL l ∧ r.size ≤ 1000000 + 1000 * l.length := by
  obtain ⟨r, hr, hb, hs⟩ := specSides_loop l hl hp l.length 0 (⟨#[]⟩ : ByteArray) (by omega) (Nat.zero_le _)
  exact ⟨r, hr, hb, hs⟩
theorem specPaidL_ev {at_ : Int} {s t : ByteArray} {x y z : Int} {l m : List S93} {q : List S85} (hl : l.length ≤ 1048576) (h : paidB at_ s t x y z l m q = true) : Ev (fun k => spec_l9Put.f k at_ s t x y z l m q) (strOfNums (paidL at_ s t x y z l m q)) := by
  obtain ⟨h1, h2, h3, h4, h5, h6, h7⟩ := (paidB_iff at_ s t x y z l m q).1 h
  have hd := dec_small (n := at_) (by omega)
  have hh := headS_size h2
  obtain ⟨r1, k1, b1, s1⟩ := specPeaks_ev l hl (range_pk h3)
  obtain ⟨r2, k2, b2, s2⟩ := specPeaks_ev m (by omega) (List.all_eq_true.1 h6)
  obtain ⟨r3, k3, b3, s3⟩ := specSides_ev q (by omega) (List.all_eq_true.1 h7)
  unfold spec_l9Put.f
  refine Ev.at_ (Ev.bind (specDec (n := at_) (by omega) (by omega)) (Ev.ifp (by omega) (Ev.bind (specHeadS_ev h2) (Ev.ifp (by rw [ByteArray.size_append, one_size]; omega) (Ev.ifp (by simp only [ByteArray.size_append, one_size]; omega) (Ev.bind k1 (Ev.ifp (by simp only [ByteArray.size_append, one_size, six_size]; omega) (Ev.ifp (by simp only [ByteArray.size_append, one_size, six_size]; omega) (Ev.bind k2 (Ev.ifp (by simp only [ByteArray.size_append, one_size, six_size]; omega) (Ev.ifp (by simp only [ByteArray.size_append, one_size, six_size]; omega) (Ev.bind k3 (Ev.ifp (by simp only [ByteArray.size_append, one_size, six_size]; omega) (Ev.ifp (by simp only [ByteArray.size_append, one_size, six_size]; omega) (Ev.now _))))))))))))))) ?_
  apply str_of
  simp only [bytes_append, decS_bytes, b1, b2, b3, List.append_assoc]
  rfl
theorem specOk_l1 (at_ : Int) (s t : ByteArray) (x y z : Int) (l m : List S93) (q : List S85) (hm : m.length ≤ 1048576) (hs : ∀ p ∈ m, p.f0.size ≤ 1048576) {r2 : Bool}
    (h2 : Ev (fun k => (spec_l1In.f at_ 0 19).bind fun t160 => (if t160 = true then ((spec_l3Ok.f k s t x y z).bind fun t161 => (if t161 = true then ((spec_l5Ok.f k l).bind fun t162 => (if t162 = true then (if (q.length : Int) ≤ 8 then (some (decide ((m.length : Int) ≤ 8))) else (some false)) else (some false))) else (some false))) else (some false))) r2) :
    ∀ (d i : Nat), i + d = m.length → Ev (fun k => spec_l9Ok.l1 k (i : Int) at_ s t x y z l m q) ((m.drop i).all pkS && r2)
  | 0, i, h => by
    refine Ev.step (fun k => ?_) (Ev.at_ h2 (by rw [List.drop_eq_nil_of_le (by omega)]; rfl))
    simp only [spec_l9Ok.l1]
    rw [if_neg (by omega)]
  | d + 1, i, h => by
    have hi : i < m.length := by omega
    have hw : wrap64 ((i : Int) + 1) = ((i + 1 : Nat) : Int) := by rw [w64 (by omega) (by omega)]; omega
    have hz := hs _ (List.getElem_mem hi)
    have hp : Ev (fun k => spec_l5PeakOk.f k m[i].f0 m[i].f1 m[i].f2) (pkS m[i]) := specPeak_ev _ _ _ (by clear hw; omega)
    rw [List.drop_eq_getElem_cons hi, List.all_cons]
    refine Ev.step (f := fun k => (spec_l5PeakOk.f k m[i].f0 m[i].f1 m[i].f2).bind fun t159 => (if t159 = true then (spec_l9Ok.l1 k ((i + 1 : Nat) : Int) at_ s t x y z l m q) else (some false))) (fun k => ?_) (Ev.bind hp ?_)
    · simp only [spec_l9Ok.l1]
      rw [rdIP m i hi, hw]
      clear hw
      rw [if_pos (by omega), if_pos (by omega)]
    · by_cases c : pkS m[i] = true
      · rw [c]; exact Ev.ifp rfl (specOk_l1 at_ s t x y z l m q hm hs h2 d (i + 1) (by clear hw; omega))
      · rw [Bool.eq_false_iff.2 c]; exact Ev.ifn (by simp) (Ev.now _)
theorem specOk_l0 (at_ : Int) (s t : ByteArray) (x y z : Int) (l m : List S93) (q : List S85) (hq : q.length ≤ 1048576) (hs : ∀ p ∈ q, p.f0.size ≤ 1048576) {r1 : Bool}
    (h1 : Ev (fun k => spec_l9Ok.l1 k 0 at_ s t x y z l m q) r1) : ∀ (d i : Nat), i + d = q.length → Ev (fun k => spec_l9Ok.l0 k (i : Int) at_ s t x y z l m q) ((q.drop i).all sideB && r1)
  | 0, i, h => by
    refine Ev.step (fun k => ?_) (Ev.at_ h1 (by rw [List.drop_eq_nil_of_le (by omega)]; rfl))
    simp only [spec_l9Ok.l0]
    rw [if_neg (by omega)]
  | d + 1, i, h => by
    have hi : i < q.length := by omega
    have hw : wrap64 ((i : Int) + 1) = ((i + 1 : Nat) : Int) := by rw [w64 (by omega) (by omega)]; omega
    have hz := hs _ (List.getElem_mem hi)
    have hp : Ev (fun k => spec_l1IsSum.f k q[i].f0) (sideB q[i]) := specIsSum_ev _ (by clear hw; omega)
    rw [List.drop_eq_getElem_cons hi, List.all_cons]
    refine Ev.step (f := fun k => (spec_l1IsSum.f k q[i].f0).bind fun t157 => (if t157 = true then (spec_l9Ok.l0 k ((i + 1 : Nat) : Int) at_ s t x y z l m q) else (some false))) (fun k => ?_) (Ev.bind hp ?_)
    · simp only [spec_l9Ok.l0]
      rw [rdID q i hi, hw]
      clear hw
      rw [if_pos (by omega), if_pos (by omega)]
    · by_cases c : sideB q[i] = true
      · rw [c]; exact Ev.ifp rfl (specOk_l0 at_ s t x y z l m q hq hs h1 d (i + 1) (by clear hw; omega))
      · rw [Bool.eq_false_iff.2 c]; exact Ev.ifn (by simp) (Ev.now _)
theorem specPaidOk_ev (at_ : Int) (s t : ByteArray) (x y z : Int) (l m : List S93) (q : List S85) (hst : s.size ≤ 1048576 ∧ t.size ≤ 1048576) (hl : l.length ≤ 1048576 ∧ ∀ p ∈ l, p.f0.size ≤ 1048576) (hm : m.length ≤ 1048576 ∧ ∀ p ∈ m, p.f0.size ≤ 1048576) (hq : q.length ≤ 1048576 ∧ ∀ p ∈ q, p.f0.size ≤ 1048576) :
    Ev (fun k => spec_l9Ok.f k at_ s t x y z l m q) (paidB at_ s t x y z l m q) := by
  have e2 : Ev (fun k => (spec_l1In.f at_ 0 19).bind fun t160 => (if t160 = true then ((spec_l3Ok.f k s t x y z).bind fun t161 => (if t161 = true then ((spec_l5Ok.f k l).bind fun t162 => (if t162 = true then (if (q.length : Int) ≤ 8 then (some (decide ((m.length : Int) ≤ 8))) else (some false)) else (some false))) else (some false))) else (some false)))
      (decide (0 ≤ at_ ∧ at_ ≤ 19) && (headB s t x y z && (rangeB l && (decide (q.length ≤ 8) && decide (m.length ≤ 8))))) := by
    refine Ev.b (specIn _ _ _) ?_
    by_cases c1 : 0 ≤ at_ ∧ at_ ≤ 19
    · rw [decide_eq_true c1]
      refine Ev.ifp rfl (Ev.bind (specOk_ev s t x y z (by omega) (by omega)) ?_)
      by_cases c2 : headB s t x y z = true
      · rw [c2]
        refine Ev.ifp rfl (Ev.bind (specRange_ev l hl.1 hl.2) ?_)
        by_cases c3 : rangeB l = true
        · rw [c3]
          refine Ev.ifp rfl ?_
          by_cases c4 : q.length ≤ 8
          · rw [decide_eq_true c4]
            exact Ev.ifp (by omega) (Ev.at_ (Ev.now _) (decide_eq_decide.2 (by omega)))
          · rw [decide_eq_false c4]
            exact Ev.ifn (by omega) (Ev.now _)
        · rw [Bool.eq_false_iff.2 c3]; exact Ev.ifn (by simp) (Ev.now _)
      · rw [Bool.eq_false_iff.2 c2]; exact Ev.ifn (by simp) (Ev.now _)
    · rw [decide_eq_false c1]; exact Ev.ifn (by simp) (Ev.now _)
  have e1 := specOk_l1 at_ s t x y z l m q hm.1 hm.2 e2 m.length 0 (by omega)
  have e0 := specOk_l0 at_ s t x y z l m q hq.1 hq.2 e1 q.length 0 (by omega)
  unfold spec_l9Ok.f
  refine Ev.at_ e0 ?_
  rw [List.drop_zero, List.drop_zero]
  unfold paidB
  generalize decide (0 ≤ at_ ∧ at_ ≤ 19) = a
  generalize headB s t x y z = b
  generalize rangeB l = c
  generalize decide (m.length ≤ 8) = d
  generalize decide (q.length ≤ 8) = e
  generalize m.all pkS = f
  generalize q.all sideB = g
  revert a b c d e f g
  decide
theorem specPaidPut_ev (at_ : Int) (s t : ByteArray) (x y z : Int) (l m : List S93) (q : List S85) (hst : s.size ≤ 1048576 ∧ t.size ≤ 1048576) (hl : l.length ≤ 1048576 ∧ ∀ p ∈ l, p.f0.size ≤ 1048576) (hm : m.length ≤ 1048576 ∧ ∀ p ∈ m, p.f0.size ≤ 1048576) (hq : q.length ≤ 1048576 ∧ ∀ p ∈ q, p.f0.size ≤ 1048576) :
    Ev (fun k => spec_PaidPut.f k at_ s t x y z l m q) (paidPut at_ s t x y z l m q) := by
  unfold spec_PaidPut.f
  refine Ev.bind (specPaidOk_ev at_ s t x y z l m q hst hl hm hq) ?_
  by_cases h : paidB at_ s t x y z l m q = true
  · rw [paidPut_pos h]; exact Ev.ifp h (Ev.bind (specPaidL_ev hl.1 h) (Ev.now _))
  · rw [paidPut_neg h]; exact Ev.ifn h (Ev.now _)

theorem implPeaks_loop (l : List S93) (hl : l.length ≤ 1048576) (hp : ∀ p ∈ l, pkS p = true) : ∀ (d i : Nat) (x : ByteArray), i + d = l.length → x.size ≤ 1000000 + 1000 * i →
    ∃ r, Ev (fun k => impl_peaksPut.l0 k x l (l.length : Int) (i : Int)) r ∧ bytesOf r = bytesOf x ++ (peaksL (l.drop i) ++ [10]) ∧ r.size ≤ 1000001 + 1000 * l.length
  | 0, i, x, h, hx => by
    refine ⟨x ++ (⟨#[10]⟩ : ByteArray), Ev.step (f := fun _ => some (x ++ (⟨#[10]⟩ : ByteArray))) (fun k => ?_) (Ev.now _), ?_, by rw [ByteArray.size_append, one_size]; omega⟩
    · simp only [impl_peaksPut.l0]
      rw [if_neg (by omega), if_pos (by omega)]
    · rw [List.drop_eq_nil_of_le (by omega), peaksL, bytes_append]; rfl
  | d + 1, i, x, h, hx => by
    have hi : i < l.length := by omega
    have hf := pkS_facts (hp _ (List.getElem_mem hi))
    have e1 := dec_small (n := l[i].f1) (by omega)
    have e2 := dec_small (n := l[i].f2) (by omega)
    obtain ⟨r, hr, hb, hs⟩ := implPeaks_loop l hl hp d (i + 1) (x ++ ((((((⟨#[32]⟩ : ByteArray) ++ l[i].f0) ++ (⟨#[58]⟩ : ByteArray)) ++ decS l[i].f1) ++ (⟨#[58]⟩ : ByteArray)) ++ decS l[i].f2)) (by omega) (by simp only [ByteArray.size_append, one_size]; omega)
    refine ⟨r, Ev.step (f := fun k => impl_peaksPut.l0 k (x ++ ((((((⟨#[32]⟩ : ByteArray) ++ l[i].f0) ++ (⟨#[58]⟩ : ByteArray)) ++ decS l[i].f1) ++ (⟨#[58]⟩ : ByteArray)) ++ decS l[i].f2)) l (l.length : Int) ((i + 1 : Nat) : Int)) (fun k => ?_) hr, ?_, hs⟩
    · simp only [impl_peaksPut.l0]
      rw [rdIP l i hi, if_pos (by omega), if_pos (by omega), if_pos (by omega), if_pos (by omega), if_pos (by rw [ByteArray.size_append, one_size]; omega), itoa_ev (n := l[i].f1) (by omega) (by omega), Option.bind_some, if_pos (by simp only [ByteArray.size_append, one_size]; omega), if_pos (by simp only [ByteArray.size_append, one_size]; omega), itoa_ev (n := l[i].f2) (by omega) (by omega), Option.bind_some, if_pos (by simp only [ByteArray.size_append, one_size]; omega), if_pos (by simp only [ByteArray.size_append, one_size]; omega), w64 (by omega) (by omega)]
      rfl
    · rw [hb, List.drop_eq_getElem_cons hi, peaksL]
      simp only [bytes_append, decS_bytes, List.append_assoc, List.cons_append]
      rfl
theorem implPeaks_ev (w : ByteArray) (hw : w.size ≤ 100) (l : List S93) (hl : l.length ≤ 1048576) (hp : ∀ p ∈ l, pkS p = true) : ∃ r, Ev (fun k => impl_peaksPut.f k w l) r ∧ bytesOf r = bytesOf w ++ (peaksL l ++ [10]) ∧ r.size ≤ 1000001 + 1000 * l.length := by
  obtain ⟨r, hr, hb, hs⟩ := implPeaks_loop l hl hp l.length 0 w (by omega) (by omega)
  exact ⟨r, hr, hb, hs⟩
theorem implSides_loop (l : List S85) (hl : l.length ≤ 8) (hp : ∀ p ∈ l, sideB p = true) : ∀ (d i : Nat) (x : ByteArray), i + d = l.length → x.size ≤ 10000000000 + 1000 * i →
    ∃ r, Ev (fun k => impl_PaidPut.l0 k x l (l.length : Int) (i : Int)) r ∧ bytesOf r = bytesOf x ++ (sidesL (l.drop i) ++ [10])
  | 0, i, x, h, hx => by
    refine ⟨x ++ (⟨#[10]⟩ : ByteArray), Ev.step (f := fun _ => some (x ++ (⟨#[10]⟩ : ByteArray))) (fun k => ?_) (Ev.now _), ?_⟩
    · simp only [impl_PaidPut.l0]
      rw [if_neg (by omega), if_pos (by omega)]
    · rw [List.drop_eq_nil_of_le (by omega), sidesL, bytes_append]; rfl
  | d + 1, i, x, h, hx => by
    have hi : i < l.length := by omega
    have hf : l[i].f0.size = 16 := by
      have := ((sumB_iff _).1 (hp _ (List.getElem_mem hi))).2
      rw [bytes_len] at this; exact this
    by_cases c : l[i].f1 = true
    · obtain ⟨r, hr, hb⟩ := implSides_loop l hl hp d (i + 1) (x ++ ((⟨#[32, 108]⟩ : ByteArray) ++ l[i].f0)) (by omega) (by simp only [ByteArray.size_append, two_size]; omega)
      refine ⟨r, Ev.step (f := fun k => impl_PaidPut.l0 k (x ++ ((⟨#[32, 108]⟩ : ByteArray) ++ l[i].f0)) l (l.length : Int) ((i + 1 : Nat) : Int)) (fun k => ?_) hr, ?_⟩
      · simp only [impl_PaidPut.l0]
        rw [rdID l i hi, if_pos (by omega), if_pos (by omega), if_pos (by omega), if_pos c, if_pos (by omega), if_pos (by simp only [ByteArray.size_append, two_size]; omega), w64 (by omega) (by omega)]
        rfl
      · rw [hb, List.drop_eq_getElem_cons hi, sidesL, if_pos c]
        simp only [bytes_append, List.append_assoc, List.cons_append]
        rfl
    · obtain ⟨r, hr, hb⟩ := implSides_loop l hl hp d (i + 1) (x ++ ((⟨#[32, 114]⟩ : ByteArray) ++ l[i].f0)) (by omega) (by simp only [ByteArray.size_append, two_size]; omega)
      refine ⟨r, Ev.step (f := fun k => impl_PaidPut.l0 k (x ++ ((⟨#[32, 114]⟩ : ByteArray) ++ l[i].f0)) l (l.length : Int) ((i + 1 : Nat) : Int)) (fun k => ?_) hr, ?_⟩
      · simp only [impl_PaidPut.l0]
        rw [rdID l i hi, if_pos (by omega), if_pos (by omega), if_pos (by omega), if_neg c, if_pos (by omega), if_pos (by simp only [ByteArray.size_append, two_size]; omega), w64 (by omega) (by omega)]
        rfl
      · rw [hb, List.drop_eq_getElem_cons hi, sidesL, if_neg c]
        simp only [bytes_append, List.append_assoc, List.cons_append]
        rfl
theorem implOk_l1 (q : List S85) (hq : q.length ≤ 1048576) (hs : ∀ p ∈ q, p.f0.size ≤ 1048576) : ∀ (d i : Nat), i + d = q.length → Ev (fun k => impl_paidOk.l1 k q (q.length : Int) (i : Int)) ((q.drop i).all sideB)
  | 0, i, h => by
    refine Ev.step (f := fun _ => some true) (fun k => ?_) (Ev.at_ (Ev.now _) (by rw [List.drop_eq_nil_of_le (by omega)]; rfl))
    simp only [impl_paidOk.l1]
    rw [if_neg (by omega)]
  | d + 1, i, h => by
    have hi : i < q.length := by omega
    have hw : wrap64 ((i : Int) + 1) = ((i + 1 : Nat) : Int) := by rw [w64 (by omega) (by omega)]; omega
    have hz := hs _ (List.getElem_mem hi)
    have hp : Ev (fun k => impl_isSum.f k q[i].f0) (sideB q[i]) := implIsSum_ev _ (by clear hw; omega)
    rw [List.drop_eq_getElem_cons hi, List.all_cons]
    refine Ev.step (f := fun k => (impl_isSum.f k q[i].f0).bind fun t272 => (if t272 = true then (impl_paidOk.l1 k q (q.length : Int) ((i + 1 : Nat) : Int)) else (some false))) (fun k => ?_) (Ev.bind hp ?_)
    · simp only [impl_paidOk.l1]
      rw [rdID q i hi, hw]
      clear hw
      rw [if_pos (by omega), if_pos (by omega), if_pos (by omega)]
    · by_cases c : sideB q[i] = true
      · rw [c]; exact Ev.ifp rfl (implOk_l1 q hq hs d (i + 1) (by clear hw; omega))
      · rw [Bool.eq_false_iff.2 c]; exact Ev.ifn (by simp) (Ev.now _)
theorem implOk_l0 (at_ : Int) (s t : ByteArray) (x y z : Int) (l m : List S93) (q : List S85) (hm : m.length ≤ 1048576) (hs : ∀ p ∈ m, p.f0.size ≤ 1048576) {r1 : Bool}
    (h1 : Ev (fun k => impl_paidOk.l1 k q (q.length : Int) 0) r1) : ∀ (d i : Nat), i + d = m.length → Ev (fun k => impl_paidOk.l0 k m (m.length : Int) (i : Int) at_ s t x y z l m q) ((m.drop i).all pkS && r1)
  | 0, i, h => by
    refine Ev.step (fun k => ?_) (Ev.at_ h1 (by rw [List.drop_eq_nil_of_le (by omega)]; rfl))
    simp only [impl_paidOk.l0]
    rw [if_neg (by omega)]
  | d + 1, i, h => by
    have hi : i < m.length := by omega
    have hw : wrap64 ((i : Int) + 1) = ((i + 1 : Nat) : Int) := by rw [w64 (by omega) (by omega)]; omega
    have hz := hs _ (List.getElem_mem hi)
    have hp : Ev (fun k => impl_peakOk.f k m[i].f0 m[i].f1 m[i].f2) (pkS m[i]) := implPeak_ev _ _ _ (by clear hw; omega)
    rw [List.drop_eq_getElem_cons hi, List.all_cons]
    refine Ev.step (f := fun k => (impl_peakOk.f k m[i].f0 m[i].f1 m[i].f2).bind fun t269 => (if t269 = true then (impl_paidOk.l0 k m (m.length : Int) ((i + 1 : Nat) : Int) at_ s t x y z l m q) else (some false))) (fun k => ?_) (Ev.bind hp ?_)
    · simp only [impl_paidOk.l0]
      rw [rdIP m i hi, hw]
      clear hw
      rw [if_pos (by omega), if_pos (by omega), if_pos (by omega)]
    · by_cases c : pkS m[i] = true
      · rw [c]; exact Ev.ifp rfl (implOk_l0 at_ s t x y z l m q hm hs h1 d (i + 1) (by clear hw; omega))
      · rw [Bool.eq_false_iff.2 c]; exact Ev.ifn (by simp) (Ev.now _)
theorem implPaidOk_ev (at_ : Int) (s t : ByteArray) (x y z : Int) (l m : List S93) (q : List S85) (hst : s.size ≤ 1048576 ∧ t.size ≤ 1048576) (hl : l.length ≤ 1048576 ∧ ∀ p ∈ l, p.f0.size ≤ 1048576) (hm : m.length ≤ 1048576 ∧ ∀ p ∈ m, p.f0.size ≤ 1048576) (hq : q.length ≤ 1048576 ∧ ∀ p ∈ q, p.f0.size ≤ 1048576) :
    Ev (fun k => impl_paidOk.f k at_ s t x y z l m q) (paidB at_ s t x y z l m q) := by
  have e1 := implOk_l1 q hq.1 hq.2 q.length 0 (by omega)
  have e0 := implOk_l0 at_ s t x y z l m q hm.1 hm.2 e1 m.length 0 (by omega)
  rw [List.drop_zero, List.drop_zero] at e0
  have bad : Ev (fun k => impl_paidOk.j0 k true at_ s t x y z l m q) false := by
    refine Ev.step (f := fun _ => some false) (fun k => ?_) (Ev.now _)
    simp only [impl_paidOk.j0]; rw [if_pos trivial]
  have good : Ev (fun k => impl_paidOk.j0 k false at_ s t x y z l m q) (m.all pkS && q.all sideB) := by
    refine Ev.step (f := fun k => impl_paidOk.l0 k m (m.length : Int) 0 at_ s t x y z l m q) (fun k => ?_) e0
    simp only [impl_paidOk.j0]; rw [if_neg (by simp)]
  unfold impl_paidOk.f paidB
  refine Ev.b (implIn _ _ _) ?_
  by_cases c1 : 0 ≤ at_ ∧ at_ ≤ 19
  · rw [decide_eq_true c1]
    refine Ev.ifp rfl (Ev.bind (implOk_ev s t x y z (by omega) (by omega)) ?_)
    by_cases c2 : headB s t x y z = true
    · rw [c2]
      refine Ev.ifp rfl (Ev.bind (implRange_ev l hl.1 hl.2) ?_)
      by_cases c3 : rangeB l = true
      · rw [c3]
        refine Ev.ifp rfl ?_
        by_cases c4 : m.length ≤ 8
        · rw [decide_eq_true c4]
          refine Ev.ifn (by omega) ?_
          by_cases c5 : q.length ≤ 8
          · rw [decide_eq_true c5, decide_eq_false (show ¬ (q.length : Int) > 8 by omega)]
            exact good
          · rw [decide_eq_false c5, decide_eq_true (show (q.length : Int) > 8 by omega)]
            exact bad
        · rw [decide_eq_false c4]
          exact Ev.ifp (by omega) bad
      · rw [Bool.eq_false_iff.2 c3]; exact Ev.ifn (by simp) bad
    · rw [Bool.eq_false_iff.2 c2]; exact Ev.ifn (by simp) bad
  · rw [decide_eq_false c1]; exact Ev.ifn (by simp) bad
theorem implPaidPut_ev (at_ : Int) (s t : ByteArray) (x y z : Int) (l m : List S93) (q : List S85) (hst : s.size ≤ 1048576 ∧ t.size ≤ 1048576) (hl : l.length ≤ 1048576 ∧ ∀ p ∈ l, p.f0.size ≤ 1048576) (hm : m.length ≤ 1048576 ∧ ∀ p ∈ m, p.f0.size ≤ 1048576) (hq : q.length ≤ 1048576 ∧ ∀ p ∈ q, p.f0.size ≤ 1048576) :
    Ev (fun k => impl_PaidPut.f k at_ s t x y z l m q) (paidPut at_ s t x y z l m q) := by
  unfold impl_PaidPut.f
  refine Ev.bind (implPaidOk_ev at_ s t x y z l m q hst hl hm hq) ?_
  by_cases h : paidB at_ s t x y z l m q = true
  · rw [paidPut_pos h]
    obtain ⟨h1, h2, h3, h4, h5, h6, h7⟩ := (paidB_iff at_ s t x y z l m q).1 h
    have hd := dec_small (n := at_) (by omega)
    have hh := headS_size h2
    have hp := implHeadPut_ev s t x y z (by omega) (by omega)
    rw [headPut_pos h2] at hp
    obtain ⟨r1, k1, b1, s1⟩ := implPeaks_ev (⟨#[112, 101, 97, 107, 115]⟩ : ByteArray) (by rw [five_size]; omega) l hl.1 (range_pk h3)
    obtain ⟨r2, k2, b2, s2⟩ := implPeaks_ev (⟨#[115, 116, 101, 112, 115]⟩ : ByteArray) (by rw [five_size]; omega) m (by omega) (List.all_eq_true.1 h6)
    obtain ⟨r3, k3, b3⟩ := implSides_loop q h5 (List.all_eq_true.1 h7) q.length 0 ((((((decS at_ ++ (⟨#[32]⟩ : ByteArray)) ++ headS s t x y z) ++ (⟨#[10]⟩ : ByteArray)) ++ r1) ++ r2) ++ (⟨#[115, 105, 100, 101, 115]⟩ : ByteArray)) (by omega) (by simp only [ByteArray.size_append, one_size, five_size]; omega)
    refine Ev.ifp h (Ev.b (itoa_ev (n := at_) (by omega) (by omega)) (Ev.ifp (by omega) (Ev.bind hp (Ev.ifp (by rw [ByteArray.size_append, one_size]; omega) (Ev.ifp (by simp only [ByteArray.size_append, one_size]; omega) (Ev.bind k1 (Ev.ifp (by simp only [ByteArray.size_append, one_size]; omega) (Ev.bind k2 (Ev.ifp (by simp only [ByteArray.size_append, one_size]; omega) (Ev.ifp (by simp only [ByteArray.size_append, one_size]; omega) (Ev.at_ k3 ?_)))))))))))
    apply str_of
    rw [b3, List.drop_zero]
    simp only [bytes_append, decS_bytes, b1, b2, List.append_assoc]
    rfl
  · rw [paidPut_neg h]; exact Ev.ifn h (Ev.now _)

/-- The law's own function answers true, of all that is paid. -/
theorem FnExactPaidPut (at_ : Int) (s t : ByteArray) (x y z : Int) (l m : List S124) (q : List S107) (h : PaidIn s t l m q) : ∃ k, laws_FnExactPaidPut.f k at_ s t x y z l m q = some true := by
  refine Ev.rounds (g := fun k => laws_FnExactPaidPut.f k at_ s t x y z l m q) (r := true) ?_
  unfold laws_FnExactPaidPut.f
  obtain ⟨v, hv, hvv⟩ := szPaid_ev at_ s t x y z l m q h
  refine Ev.bind hv ?_
  by_cases hn : v < 0
  · exact Ev.ifp hn (Ev.now _)
  have hp := hvv.resolve_left hn
  have hl2 : (l.map cvP).length ≤ 1048576 := by rw [List.length_map]; exact hp.2.2.1.1
  have hm2 : (m.map cvP).length ≤ 1048576 := by rw [List.length_map]; exact hp.2.2.2.1.1
  have hq2 : (q.map cvS).length ≤ 1048576 := by rw [List.length_map]; exact hp.2.2.2.2.1
  have hl := And.intro hl2 (cvP_size hp.2.2.1.2)
  have hm := And.intro hm2 (cvP_size hp.2.2.2.1.2)
  have hq := And.intro hq2 (cvS_size hp.2.2.2.2.2)
  have hst := And.intro hp.1 hp.2.1
  have ht := toPaid_ev at_ s t x y z l m q hp
  refine Ev.ifn hn (Ev.bind ht (Ev.bind (specPaidPut_ev at_ s t x y z _ _ _ hst hl hm hq) (Ev.bind ht (Ev.bind (implPaidPut_ev at_ s t x y z _ _ _ hst hl hm hq) (Ev.ifp rfl (Ev.bind ht (Ev.bind (eqPaid_ev at_ s t x y z _ _ _ hl2 hm2 hq2) (Ev.ifp rfl (Ev.now _)))))))))

end Go.Proofs.YtgjljbaadglpnaaDoor.Pure
