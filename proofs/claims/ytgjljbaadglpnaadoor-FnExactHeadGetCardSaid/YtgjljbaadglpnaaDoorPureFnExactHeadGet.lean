/- What FnExactHeadGet computes is true for all texts. Conditions: none beyond those that the statement tells. -/
import Derived.Test.YtgjljbaadglpnaaDoorPFnExactHeadGetx6
import Derived.Test.YtgjljbaadglpnaaDoorPd
import Derived.Test.YtgjljbaadglpnaaDoorPc
namespace Go.Proofs.YtgjljbaadglpnaaDoor.Pure
open Go Go.RowKit Go.Proofs.YtgjljbaadglpnaaDoor.PFnExactHeadGet Go.Proofs.YtgjljbaadglpnaaDoorW.PrintWords Go.Proofs.YtgjljbaadglpnaaDoorW.PrintLast Go.Proofs.YtgjljbaadglpnaaDoorW.PrintMore Go.Proofs.YtgjljbaadglpnaaDoor.Pl
set_option linter.unusedVariables false

theorem specIn (a b c : Int) : spec_l1In.f a b c = some (decide (b ≤ a ∧ a ≤ c)) := by
  unfold spec_l1In.f
  by_cases h : a ≥ b
  · rw [if_pos h]; congr 1; exact decide_eq_decide.2 ⟨fun k => ⟨h, k⟩, fun k => k.2⟩
  · rw [if_neg h]; congr 1; exact (decide_eq_false (fun k => h k.1)).symm

theorem implIn (a b c : Int) : impl_in.f a b c = some (decide (b ≤ a ∧ a ≤ c)) := by
  unfold impl_in.f
  by_cases h : a ≥ b
  · rw [if_pos h]; congr 1; exact decide_eq_decide.2 ⟨fun k => ⟨h, k⟩, fun k => k.2⟩
  · rw [if_neg h]; congr 1; exact (decide_eq_false (fun k => h k.1)).symm

/-! ### the reference's l1IsSum -/
theorem specFigure (b : Int) : spec_l1Figure.f b = some (decide (48 ≤ b ∧ b ≤ 57)) := by
  unfold spec_l1Figure.f
  by_cases h : b ≥ 48
  · rw [if_pos h]; congr 1; exact decide_eq_decide.2 ⟨fun k => ⟨h, k⟩, fun k => k.2⟩
  · rw [if_neg h]; congr 1; exact (decide_eq_false (fun k => h k.1)).symm
theorem specIsSum_loop (s : ByteArray) (hs : s.size ≤ 140737488351232) (d : Nat) : ∀ i : Nat, i + d = s.size → Ev (fun k => spec_l1IsSum.l0 k s (i : Int)) (((bytesOf s).drop i).all hexd && decide (s.size = 16)) := by
  induction d with
  | zero =>
    intro i hi
    have hlt : ¬ (i : Int) < (s.size : Int) := by omega
    have e : ((s.size : Int) == 16) = decide (s.size = 16) := by rw [Bool.eq_iff_iff, beq_iff_eq, decide_eq_true_iff]; omega
    rw [List.drop_eq_nil_of_le (by rw [bytes_len]; omega), List.all_nil, Bool.true_and]
    refine Ev.step (f := fun _ => some (decide (s.size = 16))) (fun k => ?_) (Ev.now _)
    simp only [spec_l1IsSum.l0]; rw [if_neg hlt, e]
  | succ d ih =>
    intro i hi
    have hlt : (i : Int) < (s.size : Int) := by omega
    have h0 : (0 : Int) ≤ (i : Int) := by omega
    have hi1 : ((i + 1 : Nat) : Int) = (i : Int) + 1 := by omega
    have hd : i + 1 + d = s.size := by omega
    have his : i < s.size := by omega
    have hnx := ih (i + 1) hd
    rw [hi1] at hnx
    have hn : (∀ x, x = bt s (i : Int) → hexd x = true) ∨ (∀ x, x = bt s (i : Int) → hexd x = false) := by
      cases h : hexd (bt s (i : Int))
      · exact .inr fun x hx => by rw [hx]; exact h
      · exact .inl fun x hx => by rw [hx]; exact h
    have hw : wrap64 ((i : Int) + 1) = (i : Int) + 1 := w64 (by omega) (by omega)
    rw [bt_drop s i his, List.all_cons]
    by_cases hf : 48 ≤ bt s (i : Int) ∧ bt s (i : Int) ≤ 57
    · have hx : hexd (bt s (i : Int)) = true := (hexd_iff _).2 (.inl hf)
      rw [hx, Bool.true_and]
      refine Ev.step (f := fun k => spec_l1IsSum.l0 k s ((i : Int) + 1)) (fun k => ?_) hnx
      simp only [spec_l1IsSum.l0]; rw [if_pos hlt, if_pos h0, specFigure, decide_eq_true hf, Option.bind_some, if_pos rfl, hw]
    · by_cases hl : bt s (i : Int) < 97
      · have hx : hexd (bt s (i : Int)) = false := by rw [Bool.eq_false_iff]; intro h; rw [hexd_iff] at h; clear hw; omega
        rw [hx, Bool.false_and, Bool.false_and]
        refine Ev.step (f := fun _ => some false) (fun k => ?_) (Ev.now _)
        simp only [spec_l1IsSum.l0]; rw [if_pos hlt, if_pos h0, specFigure, decide_eq_false hf, Option.bind_some, if_neg (by simp), if_pos hl]
      · by_cases hg : bt s (i : Int) > 102
        · have hx : hexd (bt s (i : Int)) = false := by rw [Bool.eq_false_iff]; intro h; rw [hexd_iff] at h; clear hw; omega
          rw [hx, Bool.false_and, Bool.false_and]
          refine Ev.step (f := fun _ => some false) (fun k => ?_) (Ev.now _)
          simp only [spec_l1IsSum.l0]; rw [if_pos hlt, if_pos h0, specFigure, decide_eq_false hf, Option.bind_some, if_neg (by simp), if_neg hl, if_pos hg]
        · have hx : hexd (bt s (i : Int)) = true := by rw [hexd_iff]; clear hw; omega
          rw [hx, Bool.true_and]
          refine Ev.step (f := fun k => spec_l1IsSum.l0 k s ((i : Int) + 1)) (fun k => ?_) hnx
          simp only [spec_l1IsSum.l0]; rw [if_pos hlt, if_pos h0, specFigure, decide_eq_false hf, Option.bind_some, if_neg (by simp), if_neg hl, if_neg hg, hw]
theorem specIsSum_ev (s : ByteArray) (hs : s.size ≤ 140737488351232) : Ev (fun k => spec_l1IsSum.f k s) (sumB (bytesOf s)) := by
  have h := specIsSum_loop s hs s.size 0 (by omega)
  rw [List.drop_zero, Int.natCast_zero] at h
  unfold spec_l1IsSum.f sumB
  rw [bytes_len]
  exact h

/-! ### the program's isSum -/
theorem implIsSum_loop (s : ByteArray) (hs : s.size ≤ 140737488351232) (d : Nat) : ∀ i : Nat, i + d = s.size → Ev (fun k => impl_isSum.l0 k s (i : Int)) (((bytesOf s).drop i).all hexd && decide (s.size = 16)) := by
  induction d with
  | zero =>
    intro i hi
    have hlt : ¬ (i : Int) < (s.size : Int) := by omega
    have e : ((s.size : Int) == 16) = decide (s.size = 16) := by rw [Bool.eq_iff_iff, beq_iff_eq, decide_eq_true_iff]; omega
    rw [List.drop_eq_nil_of_le (by rw [bytes_len]; omega), List.all_nil, Bool.true_and]
    refine Ev.step (f := fun _ => some (decide (s.size = 16))) (fun k => ?_) (Ev.now _)
    simp only [impl_isSum.l0]; rw [if_neg hlt, e]
  | succ d ih =>
    intro i hi
    have hlt : (i : Int) < (s.size : Int) := by omega
    have h0 : (0 : Int) ≤ (i : Int) := by omega
    have hi1 : ((i + 1 : Nat) : Int) = (i : Int) + 1 := by omega
    have hd : i + 1 + d = s.size := by omega
    have his : i < s.size := by omega
    have hnx := ih (i + 1) hd
    rw [hi1] at hnx
    have hr := bt_range s (i : Int)
    have hb : wrap64 (bt s (i : Int)) = bt s (i : Int) := w64 (by omega) (by omega)
    have hw : wrap64 ((i : Int) + 1) = (i : Int) + 1 := w64 (by clear hb; omega) (by clear hb; omega)
    rw [bt_drop s i his, List.all_cons]
    by_cases hf : 48 ≤ bt s (i : Int) ∧ bt s (i : Int) ≤ 57
    · have hx : hexd (bt s (i : Int)) = true := (hexd_iff _).2 (.inl hf)
      rw [hx, Bool.true_and]
      refine Ev.step (f := fun k => impl_isSum.l0 k s ((i : Int) + 1)) (fun k => ?_) hnx
      simp only [impl_isSum.l0]; rw [if_pos hlt, if_pos h0, implIn, hb, decide_eq_true hf, Option.bind_some, if_pos rfl, hw]
    · by_cases hl : 97 ≤ bt s (i : Int) ∧ bt s (i : Int) ≤ 102
      · have hx : hexd (bt s (i : Int)) = true := (hexd_iff _).2 (.inr hl)
        rw [hx, Bool.true_and]
        refine Ev.step (f := fun k => impl_isSum.l0 k s ((i : Int) + 1)) (fun k => ?_) hnx
        simp only [impl_isSum.l0]; rw [if_pos hlt, if_pos h0, implIn, hb, decide_eq_false hf, Option.bind_some, if_neg (by simp), implIn, decide_eq_true hl, Option.bind_some, if_pos rfl, hw]
      · have hx : hexd (bt s (i : Int)) = false := by rw [Bool.eq_false_iff]; intro h; rw [hexd_iff] at h; clear hw hb; omega
        rw [hx, Bool.false_and, Bool.false_and]
        refine Ev.step (f := fun _ => some false) (fun k => ?_) (Ev.now _)
        simp only [impl_isSum.l0]; rw [if_pos hlt, if_pos h0, implIn, hb, decide_eq_false hf, Option.bind_some, if_neg (by simp), implIn, decide_eq_false hl, Option.bind_some, if_neg (by simp)]
theorem implIsSum_ev (s : ByteArray) (hs : s.size ≤ 140737488351232) : Ev (fun k => impl_isSum.f k s) (sumB (bytesOf s)) := by
  have h := implIsSum_loop s hs s.size 0 (by omega)
  rw [List.drop_zero, Int.natCast_zero] at h
  unfold impl_isSum.f sumB
  rw [bytes_len]
  exact h

/-! ### heads: what both sides say of them -/
def headB (p r : ByteArray) (t d n : Int) : Bool := sumB (bytesOf p) && (sumB (bytesOf r) && (decide (0 ≤ t ∧ t ≤ 99999) && (decide (1 ≤ d ∧ d ≤ 8) && decide (0 ≤ n ∧ n ≤ 400))))
theorem headB_iff (p r : ByteArray) (t d n : Int) : headB p r t d n = true ↔ sumB (bytesOf p) = true ∧ sumB (bytesOf r) = true ∧ (0 ≤ t ∧ t ≤ 99999) ∧ (1 ≤ d ∧ d ≤ 8) ∧ (0 ≤ n ∧ n ≤ 400) := by
  unfold headB
  rw [Bool.and_eq_true, Bool.and_eq_true, Bool.and_eq_true, Bool.and_eq_true, decide_eq_true_iff, decide_eq_true_iff, decide_eq_true_iff]
theorem headB_size {p r : ByteArray} {t d n : Int} (h : headB p r t d n = true) : p.size = 16 ∧ r.size = 16 := by
  have h1 := (headB_iff p r t d n).1 h
  have h2 := ((sumB_iff _).1 h1.1).2
  have h3 := ((sumB_iff _).1 h1.2.1).2
  rw [bytes_len] at h2 h3
  exact ⟨h2, h3⟩
abbrev sp1 : ByteArray := (⟨#[32]⟩ : ByteArray)
/-- A head as it is written. -/
def headS (p r : ByteArray) (t d n : Int) : ByteArray := (((((((p ++ (⟨#[32]⟩ : ByteArray)) ++ r) ++ (⟨#[32]⟩ : ByteArray)) ++ decS t) ++ (⟨#[32]⟩ : ByteArray)) ++ decS d) ++ (⟨#[32]⟩ : ByteArray)) ++ decS n
def headPut (p r : ByteArray) (t d n : Int) : ByteArray := if headB p r t d n = true then headS p r t d n else (⟨#[]⟩ : ByteArray)
theorem headPut_pos {p r : ByteArray} {t d n : Int} (h : headB p r t d n = true) : headPut p r t d n = headS p r t d n := if_pos h
theorem headPut_neg {p r : ByteArray} {t d n : Int} (h : ¬ headB p r t d n = true) : headPut p r t d n = (⟨#[]⟩ : ByteArray) := if_neg h
theorem one_size (c : UInt8) : (⟨#[c]⟩ : ByteArray).size = 1 := rfl
theorem specOk_ev (p r : ByteArray) (t d n : Int) (hp : p.size ≤ 140737488351232) (hr : r.size ≤ 140737488351232) : Ev (fun k => spec_l3Ok.f k p r t d n) (headB p r t d n) := by
  unfold spec_l3Ok.f headB
  refine Ev.bind (specIsSum_ev p hp) ?_
  by_cases h1 : sumB (bytesOf p) = true
  · rw [h1]
    refine Ev.ifp rfl (Ev.bind (specIsSum_ev r hr) ?_)
    by_cases h2 : sumB (bytesOf r) = true
    · rw [h2]
      refine Ev.ifp rfl (Ev.b (specIn t 0 99999) ?_)
      by_cases h3 : 0 ≤ t ∧ t ≤ 99999
      · rw [decide_eq_true h3]
        refine Ev.ifp rfl (Ev.b (specIn d 1 8) ?_)
        by_cases h4 : 1 ≤ d ∧ d ≤ 8
        · rw [decide_eq_true h4]
          exact Ev.ifp rfl (Ev.b (specIn n 0 400) (Ev.now _))
        · rw [decide_eq_false h4]
          exact Ev.ifn (by simp) (Ev.now _)
      · rw [decide_eq_false h3]
        exact Ev.ifn (by simp) (Ev.now _)
    · rw [Bool.eq_false_iff.2 h2]
      exact Ev.ifn (by simp) (Ev.now _)
  · rw [Bool.eq_false_iff.2 h1]
    exact Ev.ifn (by simp) (Ev.now _)
theorem implOk_ev (p r : ByteArray) (t d n : Int) (hp : p.size ≤ 140737488351232) (hr : r.size ≤ 140737488351232) : Ev (fun k => impl_headOk.f k p r t d n) (headB p r t d n) := by
  unfold impl_headOk.f headB
  refine Ev.bind (implIsSum_ev p hp) ?_
  by_cases h1 : sumB (bytesOf p) = true
  · rw [h1]
    refine Ev.ifp rfl (Ev.bind (implIsSum_ev r hr) ?_)
    by_cases h2 : sumB (bytesOf r) = true
    · rw [h2]
      refine Ev.ifp rfl (Ev.b (implIn t 0 99999) ?_)
      by_cases h3 : 0 ≤ t ∧ t ≤ 99999
      · rw [decide_eq_true h3]
        refine Ev.ifp rfl (Ev.b (implIn d 1 8) ?_)
        by_cases h4 : 1 ≤ d ∧ d ≤ 8
        · rw [decide_eq_true h4]
          exact Ev.ifp rfl (Ev.b (implIn n 0 400) (Ev.now _))
        · rw [decide_eq_false h4]
          exact Ev.ifn (by simp) (Ev.now _)
      · rw [decide_eq_false h3]
        exact Ev.ifn (by simp) (Ev.now _)
    · rw [Bool.eq_false_iff.2 h2]
      exact Ev.ifn (by simp) (Ev.now _)
  · rw [Bool.eq_false_iff.2 h1]
    exact Ev.ifn (by simp) (Ev.now _)
theorem specDec_ev (n : Nat) : (n : Int) ≤ 1000000000000 → Ev (fun k => spec_l1Dec.f k (n : Int)) (decS (n : Int)) := by
  induction n using Nat.strongRecOn with
  | ind n ih =>
    intro hn
    by_cases h : n < 10
    · refine Ev.step (f := fun _ => some (strOfNums [(((48 + n : Nat)) : Int)])) (fun k => ?_) (Ev.at_ (Ev.now _) (by unfold decS; rw [Int.toNat_natCast, decI_lt h]))
      simp only [spec_l1Dec.f]
      rw [if_neg (by omega), if_neg (by omega), if_pos (by omega), w64 (by omega) (by omega), show ((48 : Int) + (n : Int)) % 256 = ((48 + n : Nat) : Int) by omega]
    · have hs : (decS ((n / 10 : Nat) : Int)).size ≤ 13 := decS_size 12 (by omega)
      refine Ev.step (f := fun k => (spec_l1Dec.f k ((n / 10 : Nat) : Int)).bind fun t => (some ([((48 + n % 10 : Nat) : Int)] : List Int)).bind fun y => if t.size + (strOfNums y).size ≤ 9223372036854775807 then some (t ++ strOfNums y) else none) (fun k => ?_) (Ev.bind (ih (n / 10) (by omega) (by omega)) (Ev.b rfl (Ev.ifp (by rw [str_size, List.length_singleton]; omega) (Ev.at_ (Ev.now _) (decS_ge h).symm))))
      simp only [spec_l1Dec.f]
      rw [if_neg (by omega), if_neg (by omega), if_neg (by omega), show wrap64 (Int.tdiv (n : Int) 10) = ((n / 10 : Nat) : Int) by rw [Int.tdiv_eq_ediv_of_nonneg (by omega), w64 (by omega) (by omega)]; omega,
        show (wrap64 (48 + Int.tmod (n : Int) 10)) % 256 = ((48 + n % 10 : Nat) : Int) by rw [Int.tmod_eq_emod_of_nonneg (by omega), w64 (by omega) (by omega)]; omega]
theorem specDec {n : Int} (h0 : 0 ≤ n) (h1 : n ≤ 1000000000000) : Ev (fun k => spec_l1Dec.f k n) (decS n) := by
  obtain ⟨m, rfl⟩ := Int.eq_ofNat_of_zero_le h0
  exact specDec_ev m h1
theorem dec_small {n : Int} (h : n ≤ 99999) : (decS n).size ≤ 5 := decS_size 4 (by omega)
theorem specHeadS_ev {p r : ByteArray} {t d n : Int} (h : headB p r t d n = true) : Ev (fun k => spec_l3Put.f k p r t d n) (headS p r t d n) := by
  have hs := headB_size h
  have h1 := (headB_iff p r t d n).1 h
  have ht := dec_small (n := t) (by omega)
  have hd := dec_small (n := d) (by omega)
  have hn := dec_small (n := n) (by omega)
  unfold spec_l3Put.f
  refine Ev.ifp (by omega) (Ev.ifp (by rw [ByteArray.size_append, one_size]; omega) (Ev.ifp (by simp only [ByteArray.size_append, one_size]; omega) (Ev.bind (specDec (n := t) (by omega) (by omega)) (Ev.ifp (by simp only [ByteArray.size_append, one_size]; omega) (Ev.ifp (by simp only [ByteArray.size_append, one_size]; omega) (Ev.bind (specDec (n := d) (by omega) (by omega)) (Ev.ifp (by simp only [ByteArray.size_append, one_size]; omega) (Ev.ifp (by simp only [ByteArray.size_append, one_size]; omega) (Ev.bind (specDec (n := n) (by omega) (by omega)) (Ev.ifp (by simp only [ByteArray.size_append, one_size]; omega) (Ev.now _)))))))))))

/-! ### texts cut at a byte, on both sides; numerals -/
theorem cutN_mem (b : Int) : ∀ (xs : List Int) (m : Nat), ∀ p ∈ cutN b xs m, ∀ x ∈ p, x ∈ xs
  | [], m, p, hp, x, hx => by
    rw [cutN, List.mem_singleton] at hp
    rw [hp] at hx; exact hx
  | y :: xs, 0, p, hp, x, hx => by
    rw [cutN, List.mem_singleton] at hp
    rw [hp] at hx; exact hx
  | y :: xs, m + 1, p, hp, x, hx => by
    rw [cutN] at hp
    by_cases h : y = b
    · rw [if_pos h] at hp
      rcases List.mem_cons.1 hp with rfl | hp
      · cases hx
      · exact List.mem_cons_of_mem _ (cutN_mem b xs m p hp x hx)
    · rw [if_neg h] at hp
      have ih := cutN_mem b xs (m + 1)
      revert hp ih
      rcases hc : cutN b xs (m + 1) with _ | ⟨q, qs⟩
      · exact absurd hc (cutN_ne b xs (m + 1))
      · intro hp ih
        rw [addH] at hp
        rcases List.mem_cons.1 hp with rfl | hp
        · rcases List.mem_cons.1 hx with rfl | hx
          · exact List.mem_cons_self
          · exact List.mem_cons_of_mem _ (ih q List.mem_cons_self x hx)
        · exact List.mem_cons_of_mem _ (ih p (List.mem_cons_of_mem _ hp) x hx)
theorem cutN_le (b : Int) : ∀ (xs : List Int) (m : Nat), ∀ p ∈ cutN b xs m, p.length ≤ xs.length
  | [], m, p, hp => by
    rw [cutN, List.mem_singleton] at hp
    rw [hp]; exact Nat.le_refl _
  | y :: xs, 0, p, hp => by
    rw [cutN, List.mem_singleton] at hp
    rw [hp]; exact Nat.le_refl _
  | y :: xs, m + 1, p, hp => by
    rw [cutN] at hp
    rw [List.length_cons]
    by_cases h : y = b
    · rw [if_pos h] at hp
      rcases List.mem_cons.1 hp with rfl | hp
      · exact Nat.zero_le _
      · have := cutN_le b xs m p hp; omega
    · rw [if_neg h] at hp
      have ih := cutN_le b xs (m + 1)
      revert hp ih
      rcases hc : cutN b xs (m + 1) with _ | ⟨q, qs⟩
      · exact absurd hc (cutN_ne b xs (m + 1))
      · intro hp ih
        rw [addH] at hp
        rcases List.mem_cons.1 hp with rfl | hp
        · have := ih q List.mem_cons_self; rw [List.length_cons]; omega
        · have := ih p (List.mem_cons_of_mem _ hp); omega
/-- The pieces of a text. -/
def cutS (c : Int) (s : ByteArray) (m : Nat) : List ByteArray := (cutN c (bytesOf s) m).map strOfNums
theorem cutS_len (c : Int) (s : ByteArray) (m : Nat) : (cutS c s m).length = min m (cntB c (bytesOf s)) + 1 := by
  unfold cutS; rw [List.length_map, cutN_len]
theorem cutS_size (c : Int) (s : ByteArray) (m : Nat) : ∀ p ∈ cutS c s m, p.size ≤ s.size := by
  intro p hp
  obtain ⟨q, hq, rfl⟩ := List.mem_map.1 hp
  rw [str_size, ← bytes_len]
  exact cutN_le c _ m q hq
theorem cutS_bytes (c : Int) (s : ByteArray) (m : Nat) : (cutS c s m).map bytesOf = cutN c (bytesOf s) m := by
  unfold cutS
  rw [List.map_map]
  conv => rhs; rw [← List.map_id (cutN c (bytesOf s) m)]
  refine List.map_congr_left fun p hp => ?_
  exact bytes_str _ (fun x hx => bytes_nn s x (cutN_mem c _ m p hp x hx))
theorem rdOf_size (l : List ByteArray) (n : Nat) (h : ∀ p ∈ l, p.size ≤ n) (i : Int) : (rdOf ByteArray.empty l i).size ≤ n := by
  unfold rdOf
  rw [List.getD_eq_getElem?_getD]
  rcases hc : l[i.toNat]? with _ | p
  · exact Nat.zero_le _
  · exact h p (List.mem_of_getElem? hc)
theorem extract_seg (s : ByteArray) (a b : Nat) : s.extract a b = strOfNums (((bytesOf s).drop a).take (b - a)) := by
  rw [str_extract, List.drop_take]
theorem specCut_end (s : ByteArray) (hs : s.size ≤ 1000000000) (b most : Int) (out : List ByteArray) (f i : Nat) (hf : f ≤ s.size) (ho : out.length ≤ s.size) : Ev (fun k => spec_l1Cut.j1 k s b most out (f : Int) (i : Int) false) (out ++ [strOfNums ((bytesOf s).drop f)]) := by
  have e : s.extract ((f : Int)).toNat s.size = strOfNums ((bytesOf s).drop f) := by
    rw [Int.toNat_natCast, extract_seg, List.take_of_length_le (by rw [List.length_drop, bytes_len]; exact Nat.le_refl _)]
  refine Ev.step (f := fun _ => some (out ++ [strOfNums ((bytesOf s).drop f)])) (fun k => ?_) (Ev.now _)
  simp only [spec_l1Cut.j1]
  rw [if_neg (by simp), if_pos (by omega), if_pos (by omega), if_pos (by omega), e]
theorem specCut_loop (s : ByteArray) (hs : s.size ≤ 1000000000) (b most : Int) : ∀ (d i f : Nat) (out : List ByteArray), i + d = s.size → f ≤ i → out.length ≤ f →
    Ev (fun k => spec_l1Cut.l0 k s b most out (f : Int) (i : Int)) (out ++ (addL (((bytesOf s).drop f).take (i - f)) (cutN b ((bytesOf s).drop i) (most - (out.length : Int)).toNat)).map strOfNums)
  | 0, i, f, out, h, hf, ho => by
    refine Ev.step (f := fun k => spec_l1Cut.j1 k s b most out (f : Int) (i : Int) false) (fun k => by simp only [spec_l1Cut.l0]; rw [if_neg (by omega)]) (Ev.at_ (specCut_end s hs b most out f i (by omega) (by omega)) ?_)
    have e0 : (bytesOf s).drop i = [] := List.drop_eq_nil_of_le (by rw [bytes_len]; omega)
    rw [e0, List.take_of_length_le (by rw [List.length_drop, bytes_len]; omega), cutN, addL, List.append_nil, List.map_cons, List.map_nil]
  | d + 1, i, f, out, h, hf, ho => by
    have hi : i < s.size := by omega
    have hd := bt_drop s i hi
    have hseg : ((bytesOf s).drop f).take (i - f) ++ (bytesOf s).drop i = (bytesOf s).drop f := by
      conv => rhs; rw [← List.take_append_drop (i - f) ((bytesOf s).drop f)]
      rw [List.drop_drop, show f + (i - f) = i by omega]
    have e1 : ((i + 1 : Nat) : Int) = (i : Int) + 1 := by omega
    by_cases hm : (out.length : Int) < most
    · obtain ⟨m, hm1⟩ : ∃ m, (most - (out.length : Int)).toNat = m + 1 := ⟨(most - (out.length : Int)).toNat - 1, by omega⟩
      have hm2 : (most - ((out.length + 1 : Nat) : Int)).toNat = m := by omega
      refine Ev.step (f := fun k => spec_l1Cut.j1 k s b most out (f : Int) (i : Int) true) (fun k => by simp only [spec_l1Cut.l0]; rw [if_pos (by omega), decide_eq_true hm]) ?_
      rw [hd, hm1, cutN]
      by_cases hb : bt s (i : Int) = b
      · rw [if_pos hb]
        have ih := specCut_loop s hs b most d (i + 1) (i + 1) (out ++ [s.extract f i]) (by omega) (Nat.le_refl _) (by rw [List.length_append, List.length_singleton]; omega)
        rw [List.length_append, List.length_singleton, hm2, Nat.sub_self, List.take_zero, addL_nil _ (cutN_ne _ _ _), e1] at ih
        refine Ev.step (f := fun k => spec_l1Cut.l0 k s b most (out ++ [s.extract f i]) ((i : Int) + 1) ((i : Int) + 1)) (fun k => ?_) (Ev.at_ ih ?_)
        · simp only [spec_l1Cut.j1]
          rw [if_pos trivial, if_pos (by omega), if_pos (by omega), if_pos hb, if_pos (by omega), if_pos (by omega), if_pos (by omega), if_pos (by omega), w64 (by omega) (by omega), Int.toNat_natCast, Int.toNat_natCast]
        · rw [addL, List.append_nil, List.map_cons, extract_seg, List.append_assoc]; rfl
      · rw [if_neg hb]
        have ih := specCut_loop s hs b most d (i + 1) f out (by omega) (by omega) ho
        rw [hm1, e1] at ih
        refine Ev.step (f := fun k => spec_l1Cut.l0 k s b most out (f : Int) ((i : Int) + 1)) (fun k => ?_) (Ev.at_ ih ?_)
        · simp only [spec_l1Cut.j1]
          rw [if_pos trivial, if_pos (by omega), if_pos (by omega), if_neg hb, w64 (by omega) (by omega)]
        · rw [addL_addH]
          congr 3
          rw [show i + 1 - f = (i - f) + 1 by omega, List.take_add_one, List.getElem?_drop, show f + (i - f) = i by omega]
          congr 1
          have := congrArg (fun l => l[0]?) hd
          simp only [List.getElem?_drop, Nat.add_zero, List.getElem?_cons_zero] at this
          rw [this]; rfl
    · refine Ev.step (f := fun k => spec_l1Cut.j1 k s b most out (f : Int) (i : Int) false) (fun k => by simp only [spec_l1Cut.l0]; rw [if_pos (by omega), decide_eq_false hm]) (Ev.at_ (specCut_end s hs b most out f i (by omega) (by omega)) ?_)
      rw [show (most - (out.length : Int)).toNat = 0 by omega, hd, cutN, addL, List.map_cons, List.map_nil, ← hd, hseg]
theorem specCut_ev (s : ByteArray) (hs : s.size ≤ 1000000000) (b : Int) (m : Nat) : Ev (fun k => spec_l1Cut.f k s b (m : Int)) (cutS b s m) := by
  have h := specCut_loop s hs b (m : Int) s.size 0 0 [] (by omega) (Nat.le_refl _) (Nat.zero_le _)
  rw [List.drop_zero, Nat.sub_self, List.take_zero, addL_nil _ (cutN_ne _ _ _), List.nil_append, List.length_nil, Int.natCast_zero, Int.sub_zero, Int.toNat_natCast] at h
  unfold spec_l1Cut.f
  exact h
theorem figs {s : ByteArray} {i : Nat} (hi : i < s.size) {q : Int → Prop} (h : ∀ x ∈ (bytesOf s).take i, q x) (h1 : q (bt s (i : Int))) : ∀ x ∈ (bytesOf s).take (i + 1), q x := by
  rw [bt_take s i hi]
  intro x hx
  rcases List.mem_append.1 hx with hx | hx
  · exact h x hx
  · rw [List.mem_singleton.1 hx]; exact h1
theorem numS_not {s : ByteArray} (h : ¬ numB (bytesOf s) = true) : numS s = -1 := if_neg h
theorem numS_is {s : ByteArray} (h : numB (bytesOf s) = true) : numS s = nval 0 (bytesOf s) := if_pos h
theorem bt_mem {s : ByteArray} {i : Nat} (hi : i < s.size) : bt s (i : Int) ∈ bytesOf s := by
  rw [bt_nat s i hi]; exact List.getElem_mem _
theorem num_step {s : ByteArray} {i : Nat} (hi : i < s.size) (h9 : i ≤ 9) {n : Int} (hn : n = nval 0 ((bytesOf s).take i)) (hd : ∀ x ∈ (bytesOf s).take i, 48 ≤ x ∧ x ≤ 57) (hb : 48 ≤ bt s (i : Int) ∧ bt s (i : Int) ≤ 57) :
    10 * n + (bt s (i : Int) - 48) = nval 0 ((bytesOf s).take (i + 1)) ∧ 0 ≤ n ∧ n < 1000000000 := by
  have h2 := nval_lt ((bytesOf s).take i) 0 0 hd (by omega) (by omega)
  have h3 := pow10_9 (0 + ((bytesOf s).take i).length) (by rw [List.length_take]; omega)
  rw [bt_take s i hi, nval_app, hn]
  exact ⟨rfl, h2.1, by omega⟩
theorem specNum_loop (s : ByteArray) (hs : s.size ≤ 1000000000) : ∀ (d i : Nat) (n : Int), i + d = s.size → i ≤ 9 → (∀ x ∈ (bytesOf s).take i, 48 ≤ x ∧ x ≤ 57) → n = nval 0 ((bytesOf s).take i) → Ev (fun k => spec_l1Num.l0 k s n (i : Int)) (numS s)
  | 0, i, n, h, h9, hd, hn => by
    have ht : (bytesOf s).take i = bytesOf s := List.take_of_length_le (by rw [bytes_len]; omega)
    rw [ht] at hd hn
    by_cases h0 : s.size = 0
    · rw [numS_not (fun c => by have := ((numB_iff _).1 c).1; rw [bytes_len] at this; omega)]
      refine Ev.step (f := fun _ => some (-1)) (fun k => ?_) (Ev.now _)
      simp only [spec_l1Num.l0]
      rw [if_neg (by omega), if_pos (by omega)]
    · have hg : bt s 0 = (bytesOf s).getD 0 0 := bt_get s 0
      by_cases h1 : s.size > 1
      · by_cases h2 : bt s 0 = 48
        · rw [numS_not (fun c => by have := ((numB_iff _).1 c).2.2; rw [bytes_len] at this; rcases this with h | h; omega; exact h (hg ▸ h2))]
          refine Ev.step (f := fun _ => some (-1)) (fun k => ?_) (Ev.now _)
          simp only [spec_l1Num.l0]
          rw [if_neg (by omega), if_neg (by omega), if_pos (by omega), if_pos (by omega), if_pos h2]
        · rw [numS_is ((numB_iff _).2 ⟨by rw [bytes_len]; omega, hd, .inr (hg ▸ h2)⟩), ← hn]
          refine Ev.step (f := fun _ => some n) (fun k => ?_) (Ev.now _)
          simp only [spec_l1Num.l0]
          rw [if_neg (by omega), if_neg (by omega), if_pos (by omega), if_pos (by omega), if_neg h2]
      · rw [numS_is ((numB_iff _).2 ⟨by rw [bytes_len]; omega, hd, .inl (by rw [bytes_len]; omega)⟩), ← hn]
        refine Ev.step (f := fun _ => some n) (fun k => ?_) (Ev.now _)
        simp only [spec_l1Num.l0]
        rw [if_neg (by omega), if_neg (by omega), if_neg (by omega)]
  | d + 1, i, n, h, h9, hd, hn => by
    have hi : i < s.size := by omega
    by_cases hb : 48 ≤ bt s (i : Int) ∧ bt s (i : Int) ≤ 57
    · by_cases h8 : i ≥ 9
      · rw [numS_not (fun c => by have := ((numB_iff _).1 c).1; rw [bytes_len] at this; omega)]
        refine Ev.step (f := fun _ => some (-1)) (fun k => ?_) (Ev.now _)
        simp only [spec_l1Num.l0]
        rw [if_pos (by omega), if_pos (by omega), specFigure, Option.bind_some, if_pos (decide_eq_true hb), if_pos (by omega)]
      · obtain ⟨s1, s2, s3⟩ := num_step hi h9 hn hd hb
        refine Ev.step (f := fun k => spec_l1Num.l0 k s (10 * n + (bt s (i : Int) - 48)) ((i + 1 : Nat) : Int)) (fun k => ?_) (specNum_loop s hs d (i + 1) _ (by omega) (by omega) (figs hi hd hb) s1)
        simp only [spec_l1Num.l0]
        rw [if_pos (by omega), if_pos (by omega), specFigure, Option.bind_some, if_pos (decide_eq_true hb), if_neg (by omega), w64 (i := n * 10) (by omega) (by omega), show (bt s (i : Int) - 48) % 256 = bt s (i : Int) - 48 by omega, w64 (by omega) (by omega), w64 (by omega) (by omega), Int.mul_comm n 10]
        rfl
    · rw [numS_not (fun c => hb (((numB_iff _).1 c).2.1 _ (bt_mem hi)))]
      refine Ev.step (f := fun _ => some (-1)) (fun k => ?_) (Ev.now _)
      simp only [spec_l1Num.l0]
      rw [if_pos (by omega), if_pos (by omega), specFigure, Option.bind_some, if_neg (by rw [decide_eq_true_iff]; exact hb)]
theorem specNum_ev (s : ByteArray) (hs : s.size ≤ 1000000000) : Ev (fun k => spec_l1Num.f k s) (numS s) := by
  unfold spec_l1Num.f
  exact specNum_loop s hs s.size 0 0 (by omega) (by omega) (fun x hx => by rw [List.take_zero] at hx; cases hx) rfl
/-- A number, and whether it is one. -/
def numP (s : ByteArray) : Int × Bool := if numB (bytesOf s) = true then (nval 0 (bytesOf s), true) else (0, false)
theorem implNum_loop (s : ByteArray) (h1 : s.size ≤ 9) (hp : 1 ≤ s.size) (hz : s.size ≤ 1 ∨ (bytesOf s).getD 0 0 ≠ 48) : ∀ (d i : Nat) (n : Int), i + d = s.size → (∀ x ∈ (bytesOf s).take i, 48 ≤ x ∧ x ≤ 57) → n = nval 0 ((bytesOf s).take i) → Ev (fun k => impl_number.l0 k s n (i : Int)) (numP s)
  | 0, i, n, h, hd, hn => by
    have ht : (bytesOf s).take i = bytesOf s := List.take_of_length_le (by rw [bytes_len]; omega)
    rw [ht] at hd hn
    unfold numP
    rw [if_pos ((numB_iff _).2 ⟨by rw [bytes_len]; omega, hd, by rw [bytes_len]; exact hz⟩), ← hn]
    refine Ev.step (f := fun _ => some (n, true)) (fun k => ?_) (Ev.now _)
    simp only [impl_number.l0]
    rw [if_neg (by omega)]
  | d + 1, i, n, h, hd, hn => by
    have hi : i < s.size := by omega
    have hr := bt_range s (i : Int)
    by_cases hb : 48 ≤ bt s (i : Int) ∧ bt s (i : Int) ≤ 57
    · obtain ⟨s1, s2, s3⟩ := num_step hi (by omega) hn hd hb
      refine Ev.step (f := fun k => impl_number.l0 k s (10 * n + (bt s (i : Int) - 48)) ((i + 1 : Nat) : Int)) (fun k => ?_) (implNum_loop s h1 hp hz d (i + 1) _ (by omega) (figs hi hd hb) s1)
      simp only [impl_number.l0]
      rw [if_pos (by omega), if_pos (by omega), w64 (i := bt s (i : Int)) (by omega) (by omega), implIn, Option.bind_some, if_pos (decide_eq_true hb), w64 (i := 10 * n) (by omega) (by omega), show (bt s (i : Int) - 48) % 256 = bt s (i : Int) - 48 by omega, w64 (by omega) (by omega), w64 (by omega) (by omega)]
      rfl
    · unfold numP
      rw [if_neg (fun c => hb (((numB_iff _).1 c).2.1 _ (bt_mem hi)))]
      refine Ev.step (f := fun _ => some (0, false)) (fun k => ?_) (Ev.now _)
      simp only [impl_number.l0]
      rw [if_pos (by omega), if_pos (by omega), w64 (i := bt s (i : Int)) (by omega) (by omega), implIn, Option.bind_some, if_neg (by rw [decide_eq_true_iff]; exact hb)]
theorem implNum_ev (s : ByteArray) (hs : s.size ≤ 1000000000) : Ev (fun k => impl_number.f k s) (numP s) := by
  have bad : ¬ numB (bytesOf s) = true → Ev (fun k => impl_number.j0 k s true) (numP s) := fun c => by
    unfold numP
    rw [if_neg c]
    refine Ev.step (f := fun _ => some (0, false)) (fun k => ?_) (Ev.now _)
    simp only [impl_number.j0]
    rw [if_pos trivial]
  have hg : bt s 0 = (bytesOf s).getD 0 0 := bt_get s 0
  unfold impl_number.f
  refine Ev.b (implIn _ _ _) ?_
  by_cases h1 : 1 ≤ (s.size : Int) ∧ (s.size : Int) ≤ 9
  · refine Ev.ifp (decide_eq_true h1) (Ev.ifp (by omega) ?_)
    have go : (s.size ≤ 1 ∨ (bytesOf s).getD 0 0 ≠ 48) → Ev (fun k => impl_number.j0 k s false) (numP s) := fun hz => by
      refine Ev.step (f := fun k => impl_number.l0 k s 0 0) (fun k => ?_) (implNum_loop s (by omega) (by omega) hz s.size 0 0 (by omega) (fun x hx => by rw [List.take_zero] at hx; cases hx) rfl)
      simp only [impl_number.j0]
      rw [if_neg (by simp)]
    by_cases h2 : bt s 0 = 48
    · refine Ev.ifp h2 ?_
      by_cases h3 : (s.size : Int) > 1
      · rw [decide_eq_true h3]
        exact bad (fun c => by have := ((numB_iff _).1 c).2.2; rw [bytes_len] at this; rcases this with h | h; omega; exact h (hg ▸ h2))
      · rw [decide_eq_false h3]
        exact go (.inl (by omega))
    · exact Ev.ifn h2 (go (.inr (hg ▸ h2)))
  · exact Ev.ifn (by rw [decide_eq_true_iff]; exact h1) (bad (fun c => by have := ((numB_iff _).1 c).1; rw [bytes_len] at this; omega))
theorem numP_true {s : ByteArray} (h : (numP s).2 = true) : (numP s).1 = numS s := by
  unfold numP numS at *
  by_cases c : numB (bytesOf s) = true
  · rw [if_pos c, if_pos c]
  · rw [if_neg c] at h; cases h
theorem numP_false {s : ByteArray} (h : ¬ (numP s).2 = true) : numS s = -1 := by
  unfold numP at h
  by_cases c : numB (bytesOf s) = true
  · rw [if_pos c] at h; exact absurd rfl h
  · exact if_neg c

/-! ### a head that is read -/
def wd (s : ByteArray) (i : Int) : ByteArray := rdOf ByteArray.empty (cutS 32 s 5) i
def headGood (s : ByteArray) : Prop := (cutS 32 s 5).length = 5 ∧ headB (wd s 0) (wd s 1) (numS (wd s 2)) (numS (wd s 3)) (numS (wd s 4)) = true
instance (s : ByteArray) : Decidable (headGood s) := by unfold headGood; infer_instance
def headGet (s : ByteArray) : ByteArray × ByteArray × Int × Int × Int × Bool :=
  if headGood s then (wd s 0, wd s 1, numS (wd s 2), numS (wd s 3), numS (wd s 4), true) else ((⟨#[]⟩ : ByteArray), (⟨#[]⟩ : ByteArray), 0, 0, 0, false)
theorem wd_size (s : ByteArray) (i : Int) : (wd s i).size ≤ s.size := rdOf_size _ _ (cutS_size 32 s 5) i
theorem head_join {s : ByteArray} (h : (cutS 32 s 5).length = 5) : (((((((wd s 0 ++ (⟨#[32]⟩ : ByteArray)) ++ wd s 1) ++ (⟨#[32]⟩ : ByteArray)) ++ wd s 2) ++ (⟨#[32]⟩ : ByteArray)) ++ wd s 3) ++ (⟨#[32]⟩ : ByteArray)) ++ wd s 4 = s := by
  have hb := cutS_bytes 32 s 5
  have hj := joinB_cutN 32 (bytesOf s) 5
  rw [← hb] at hj
  unfold wd
  generalize cutS 32 s 5 = l at *
  obtain ⟨a, b, c, d, e, rfl⟩ : ∃ a b c d e, l = [a, b, c, d, e] := by
    match l, h with
    | [a, b, c, d, e], _ => exact ⟨a, b, c, d, e, rfl⟩
  apply bytes_inj
  rw [← hj]
  simp only [bytes_append]
  simp only [rdOf, List.map_cons, List.map_nil, joinB, List.append_assoc]
  rfl
theorem headS_back {s : ByteArray} (h : headGood s) : headS (wd s 0) (wd s 1) (numS (wd s 2)) (numS (wd s 3)) (numS (wd s 4)) = s := by
  have h1 := (headB_iff _ _ _ _ _).1 h.2
  unfold headS
  rw [numS_dec (s := wd s 2) (by omega), numS_dec (s := wd s 3) (by omega), numS_dec (s := wd s 4) (by omega)]
  exact head_join h.1
theorem specHeadGet_ev (s : ByteArray) (hs : s.size ≤ 100000000) : Ev (fun k => spec_HeadGet.f k s) (headGet s) := by
  have h0 := wd_size s 0
  have h1 := wd_size s 1
  have h2 := wd_size s 2
  have h3 := wd_size s 3
  have h4 := wd_size s 4
  unfold spec_HeadGet.f
  refine Ev.bind (specCut_ev s (by omega) 32 5) ?_
  by_cases hl : (cutS 32 s 5).length = 5
  · refine Ev.ifp (by omega) (Ev.ifp (by omega) (Ev.ifp (by omega) (Ev.ifp (by omega) (Ev.bind (specNum_ev (wd s 2) (by omega)) (Ev.ifp (by omega) (Ev.bind (specNum_ev (wd s 3) (by omega)) (Ev.ifp (by omega) (Ev.bind (specNum_ev (wd s 4) (by omega)) (Ev.bind (specOk_ev (wd s 0) (wd s 1) _ _ _ (by omega) (by omega)) ?_)))))))))
    by_cases hb : headB (wd s 0) (wd s 1) (numS (wd s 2)) (numS (wd s 3)) (numS (wd s 4)) = true
    · have hg : headGood s := ⟨hl, hb⟩
      refine Ev.ifp hb (Ev.bind (specHeadS_ev hb) (Ev.ifp (congrArg ByteArray.toList (headS_back hg)) (Ev.at_ (Ev.now _) (if_pos hg).symm)))
    · exact Ev.ifn hb (Ev.at_ (Ev.now _) (if_neg (fun h => hb h.2)).symm)
  · exact Ev.ifn (by omega) (Ev.at_ (Ev.now _) (if_neg (fun h => hl h.1)).symm)

theorem split_eq (s : ByteArray) (c : UInt8) (hs : s.size < 4294967281) : strings_Split.f s (⟨#[c]⟩ : ByteArray) = some (cutS ((c.toNat : Nat) : Int) s s.size) := by
  unfold strings_Split.f
  rw [if_pos ⟨hs, Nat.le_refl _⟩]
  exact congrArg some (split_cut c s.size s (Nat.le_refl _))
/-- Cut often enough is cut at all. -/
theorem cutS_all {c : Int} {s : ByteArray} {m : Nat} (h : (cutS c s m).length ≤ m) : cutS c s s.size = cutS c s m := by
  have hc := cntB_le c (bytesOf s)
  rw [bytes_len] at hc
  rw [cutS_len] at h
  unfold cutS
  rw [cutN_same c (bytesOf s) s.size m hc (by omega)]
theorem cutS_all' {c : Int} {s : ByteArray} {m n : Nat} (hn : n ≤ m) (h : (cutS c s s.size).length = n) : cutS c s s.size = cutS c s m := by
  have hc := cntB_le c (bytesOf s)
  rw [bytes_len] at hc
  rw [cutS_len] at h
  unfold cutS
  rw [cutN_same c (bytesOf s) s.size m hc (by omega)]
theorem implHeadGet_ev (s : ByteArray) (hs : s.size ≤ 100000000) : Ev (fun k => impl_HeadGet.f k s) (headGet s) := by
  have h0 := wd_size s 0
  have h1 := wd_size s 1
  have h2 := wd_size s 2
  have h3 := wd_size s 3
  have h4 := wd_size s 4
  unfold impl_HeadGet.f
  have e : strings_Split.f s (⟨#[32]⟩ : ByteArray) = some (cutS 32 s s.size) := split_eq s 32 (by omega)
  refine Ev.b e ?_
  by_cases hl : (cutS 32 s 5).length = 5
  · rw [cutS_all (Nat.le_of_eq hl)]
    have no : ¬ headB (wd s 0) (wd s 1) (numS (wd s 2)) (numS (wd s 3)) (numS (wd s 4)) = true → headGet s = ((⟨#[]⟩ : ByteArray), (⟨#[]⟩ : ByteArray), 0, 0, 0, false) := fun hb => if_neg (fun h => hb h.2)
    refine Ev.ifp (by omega) (Ev.ifp (by omega) (Ev.bind (implNum_ev (wd s 2) (by omega)) (Ev.ifp (by omega) (Ev.bind (implNum_ev (wd s 3) (by omega)) (Ev.ifp (by omega) (Ev.bind (implNum_ev (wd s 4) (by omega)) (Ev.ifp (by omega) (Ev.ifp (by omega) ?_))))))))
    by_cases a2 : (numP (wd s 2)).2 = true
    · by_cases a3 : (numP (wd s 3)).2 = true
      · by_cases a4 : (numP (wd s 4)).2 = true
        · have e2 := numP_true a2
          have e3 := numP_true a3
          have e4 := numP_true a4
          refine Ev.ifp a2 (Ev.ifp a3 (Ev.ifp a4 ?_))
          rw [e2, e3, e4]
          refine Ev.bind (implOk_ev (wd s 0) (wd s 1) _ _ _ (by omega) (by omega)) ?_
          by_cases hb : headB (wd s 0) (wd s 1) (numS (wd s 2)) (numS (wd s 3)) (numS (wd s 4)) = true
          · exact Ev.ifp hb (Ev.at_ (Ev.now _) (if_pos (show headGood s from ⟨hl, hb⟩)).symm)
          · exact Ev.ifn hb (Ev.at_ (Ev.now _) (no hb).symm)
        · exact Ev.ifp a2 (Ev.ifp a3 (Ev.ifn a4 (Ev.at_ (Ev.now _) (no (fun h => by have := (headB_iff _ _ _ _ _).1 h; rw [numP_false a4] at this; omega)).symm)))
      · exact Ev.ifp a2 (Ev.ifn a3 (Ev.at_ (Ev.now _) (no (fun h => by have := (headB_iff _ _ _ _ _).1 h; rw [numP_false a3] at this; omega)).symm))
    · exact Ev.ifn a2 (Ev.at_ (Ev.now _) (no (fun h => by have := (headB_iff _ _ _ _ _).1 h; rw [numP_false a2] at this; omega)).symm)
  · exact Ev.ifn (fun h => hl (by rw [← cutS_all' (m := 5) (Nat.le_refl 5) (by omega)]; omega)) (Ev.at_ (Ev.now _) (if_neg (fun h => hl h.1)).symm)

theorem eqHead_same (p r : ByteArray) (t d n : Int) : laws_eqHead.f p r t d n p r t d n = some true := by
  unfold laws_eqHead.f
  rw [if_pos rfl, if_pos rfl, if_pos rfl, if_pos rfl, if_pos rfl]
theorem FnExactHeadGet : laws_FnExactHeadGet.Pure := by
  intro s _
  refine Ev.rounds (r := true) ?_
  unfold laws_FnExactHeadGet.f
  by_cases h : (s.size : Int) > 1048576
  · exact Ev.ifp h (Ev.now _)
  · refine Ev.ifn h (Ev.bind (specHeadGet_ev s (by omega)) (Ev.bind (implHeadGet_ev s (by omega)) ?_))
    generalize headGet s = r
    exact Ev.b (eqHead_same _ _ _ _ _) (Ev.ifp rfl (Ev.ifn (by simp) (Ev.now _)))

end Go.Proofs.YtgjljbaadglpnaaDoor.Pure
