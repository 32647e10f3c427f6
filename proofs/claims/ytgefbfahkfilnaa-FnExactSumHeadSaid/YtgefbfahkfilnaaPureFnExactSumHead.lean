/- FnExactSumHead: at each text the program's SumHead returns what the reference's returns. Conditions: none beyond those that the statement tells. -/
import Derived.Test.YtgefbfahkfilnaaPFnExactSumHeadx1
import Derived.Test.YtgefbfahkfilnaaPs
namespace Go.Proofs.Ytgefbfahkfilnaa.Pure
open Go Go.RowKit Go.Proofs.Ytgefbfahkfilnaa.PFnExactSumHead Go.Proofs.YtgefbfahkfilnaaW.PrintWords Go.Proofs.YtgefbfahkfilnaaW.PrintLast Go.Proofs.YtgefbfahkfilnaaW.PrintMore Go.Proofs.Ytgefbfahkfilnaa.Pl
set_option linter.unusedVariables false

/-! ### the reference's l1IsSum -/
theorem specFigure (b : Int) : spec_l1Figure.f b = some (decide (48 ≤ b ∧ b ≤ 57)) := by
  unfold spec_l1Figure.f
  by_cases h : b ≥ 48
  · rw [if_pos h]; congr 1; exact decide_eq_decide.2 ⟨fun k => ⟨h, k⟩, fun k => k.2⟩
  · rw [if_neg h]; congr 1; exact (decide_eq_false (fun k => h k.1)).symm
theorem specIsSum_loop (s : ByteArray) (hs : s.size ≤ 140737488351232) (d : Nat) : ∀ i : Nat, i + d = s.size → Ev (fun k => spec_l1IsSum.l0 k s (i : Int)) (((bytesOf s).drop i).all hexd && decide (s.size = 16)) := by
  induction d with
  | zero =>
    intro i hi
    have hlt : ¬ (i : Int) < (s.size : Int) := by omega
    have e : ((s.size : Int) == 16) = decide (s.size = 16) := by rw [Bool.eq_iff_iff, beq_iff_eq, decide_eq_true_iff]; omega
    rw [List.drop_eq_nil_of_le (by rw [bytes_len]; omega), List.all_nil, Bool.true_and]
    refine Ev.step (f := fun _ => some (decide (s.size = 16))) (fun k => ?_) (Ev.now _)
    simp only [spec_l1IsSum.l0]; rw [if_neg hlt, e]
  | succ d ih =>
    intro i hi
    have hlt : (i : Int) < (s.size : Int) := by omega
    have h0 : (0 : Int) ≤ (i : Int) := by omega
    have hi1 : ((i + 1 : Nat) : Int) = (i : Int) + 1 := by omega
    have hd : i + 1 + d = s.size := by omega
    have his : i < s.size := by omega
    have hnx := ih (i + 1) hd
    rw [hi1] at hnx
    have hn : (∀ x, x = bt s (i : Int) → hexd x = true) ∨ (∀ x, x = bt s (i : Int) → hexd x = false) := by
      cases h : hexd (bt s (i : Int))
      · exact .inr fun x hx => by rw [hx]; exact h
      · exact .inl fun x hx => by rw [hx]; exact h
    have hw : wrap64 ((i : Int) + 1) = (i : Int) + 1 := w64 (by omega) (by omega)
    rw [bt_drop s i his, List.all_cons]
    by_cases hf : 48 ≤ bt s (i : Int) ∧ bt s (i : Int) ≤ 57
    · have hx : hexd (bt s (i : Int)) = true := (hexd_iff _).2 (.inl hf)
      rw [hx, Bool.true_and]
      refine Ev.step (f := fun k => spec_l1IsSum.l0 k s ((i : Int) + 1)) (fun k => ?_) hnx
      simp only [spec_l1IsSum.l0]; rw [if_pos hlt, if_pos h0, specFigure, decide_eq_true hf, Option.bind_some, if_pos rfl, hw]
    · by_cases hl : bt s (i : Int) < 97
      · have hx : hexd (bt s (i : Int)) = false := by rw [Bool.eq_false_iff]; intro h; rw [hexd_iff] at h; clear hw; omega
        rw [hx, Bool.false_and, Bool.false_and]
        refine Ev.step (f := fun _ => some false) (fun k => ?_) (Ev.now _)
        simp only [spec_l1IsSum.l0]; rw [if_pos hlt, if_pos h0, specFigure, decide_eq_false hf, Option.bind_some, if_neg (by simp), if_pos hl]
      · by_cases hg : bt s (i : Int) > 102
        · have hx : hexd (bt s (i : Int)) = false := by rw [Bool.eq_false_iff]; intro h; rw [hexd_iff] at h; clear hw; omega
          rw [hx, Bool.false_and, Bool.false_and]
          refine Ev.step (f := fun _ => some false) (fun k => ?_) (Ev.now _)
          simp only [spec_l1IsSum.l0]; rw [if_pos hlt, if_pos h0, specFigure, decide_eq_false hf, Option.bind_some, if_neg (by simp), if_neg hl, if_pos hg]
        · have hx : hexd (bt s (i : Int)) = true := by rw [hexd_iff]; clear hw; omega
          rw [hx, Bool.true_and]
          refine Ev.step (f := fun k => spec_l1IsSum.l0 k s ((i : Int) + 1)) (fun k => ?_) hnx
          simp only [spec_l1IsSum.l0]; rw [if_pos hlt, if_pos h0, specFigure, decide_eq_false hf, Option.bind_some, if_neg (by simp), if_neg hl, if_neg hg, hw]
theorem specIsSum_ev (s : ByteArray) (hs : s.size ≤ 140737488351232) : Ev (fun k => spec_l1IsSum.f k s) (sumB (bytesOf s)) := by
  have h := specIsSum_loop s hs s.size 0 (by omega)
  rw [List.drop_zero, Int.natCast_zero] at h
  unfold spec_l1IsSum.f sumB
  rw [bytes_len]
  exact h

theorem implIn (a b c : Int) : impl_in.f a b c = some (decide (b ≤ a ∧ a ≤ c)) := by
  unfold impl_in.f
  by_cases h : a ≥ b
  · rw [if_pos h]; congr 1; exact decide_eq_decide.2 ⟨fun k => ⟨h, k⟩, fun k => k.2⟩
  · rw [if_neg h]; congr 1; exact (decide_eq_false (fun k => h k.1)).symm

/-! ### the program's isSum -/
theorem implIsSum_loop (s : ByteArray) (hs : s.size ≤ 140737488351232) (d : Nat) : ∀ i : Nat, i + d = s.size → Ev (fun k => impl_isSum.l0 k s (i : Int)) (((bytesOf s).drop i).all hexd && decide (s.size = 16)) := by
  induction d with
  | zero =>
    intro i hi
    have hlt : ¬ (i : Int) < (s.size : Int) := by omega
    have e : ((s.size : Int) == 16) = decide (s.size = 16) := by rw [Bool.eq_iff_iff, beq_iff_eq, decide_eq_true_iff]; omega
    rw [List.drop_eq_nil_of_le (by rw [bytes_len]; omega), List.all_nil, Bool.true_and]
    refine Ev.step (f := fun _ => some (decide (s.size = 16))) (fun k => ?_) (Ev.now _)
    simp only [impl_isSum.l0]; rw [if_neg hlt, e]
  | succ d ih =>
    intro i hi
    have hlt : (i : Int) < (s.size : Int) := by omega
    have h0 : (0 : Int) ≤ (i : Int) := by omega
    have hi1 : ((i + 1 : Nat) : Int) = (i : Int) + 1 := by omega
    have hd : i + 1 + d = s.size := by omega
    have his : i < s.size := by omega
    have hnx := ih (i + 1) hd
    rw [hi1] at hnx
    have hr := bt_range s (i : Int)
    have hb : wrap64 (bt s (i : Int)) = bt s (i : Int) := w64 (by omega) (by omega)
    have hw : wrap64 ((i : Int) + 1) = (i : Int) + 1 := w64 (by clear hb; omega) (by clear hb; omega)
    rw [bt_drop s i his, List.all_cons]
    by_cases hf : 48 ≤ bt s (i : Int) ∧ bt s (i : Int) ≤ 57
    · have hx : hexd (bt s (i : Int)) = true := (hexd_iff _).2 (.inl hf)
      rw [hx, Bool.true_and]
      refine Ev.step (f := fun k => impl_isSum.l0 k s ((i : Int) + 1)) (fun k => ?_) hnx
      simp only [impl_isSum.l0]; rw [if_pos hlt, if_pos h0, implIn, hb, decide_eq_true hf, Option.bind_some, if_pos rfl, hw]
    · by_cases hl : 97 ≤ bt s (i : Int) ∧ bt s (i : Int) ≤ 102
      · have hx : hexd (bt s (i : Int)) = true := (hexd_iff _).2 (.inr hl)
        rw [hx, Bool.true_and]
        refine Ev.step (f := fun k => impl_isSum.l0 k s ((i : Int) + 1)) (fun k => ?_) hnx
        simp only [impl_isSum.l0]; rw [if_pos hlt, if_pos h0, implIn, hb, decide_eq_false hf, Option.bind_some, if_neg (by simp), implIn, decide_eq_true hl, Option.bind_some, if_pos rfl, hw]
      · have hx : hexd (bt s (i : Int)) = false := by rw [Bool.eq_false_iff]; intro h; rw [hexd_iff] at h; clear hw hb; omega
        rw [hx, Bool.false_and, Bool.false_and]
        refine Ev.step (f := fun _ => some false) (fun k => ?_) (Ev.now _)
        simp only [impl_isSum.l0]; rw [if_pos hlt, if_pos h0, implIn, hb, decide_eq_false hf, Option.bind_some, if_neg (by simp), implIn, decide_eq_false hl, Option.bind_some, if_neg (by simp)]
theorem implIsSum_ev (s : ByteArray) (hs : s.size ≤ 140737488351232) : Ev (fun k => impl_isSum.f k s) (sumB (bytesOf s)) := by
  have h := implIsSum_loop s hs s.size 0 (by omega)
  rw [List.drop_zero, Int.natCast_zero] at h
  unfold impl_isSum.f sumB
  rw [bytes_len]
  exact h

/-! ### the reference's SumHead -/
theorem fig_mod {b : Int} (h : hexd b = true) (h0 : 0 ≤ b) (h1 : b ≤ 255) (hg : b ≥ 97) : (b - 97) % 256 + 10 = hx b := by
  unfold hx; rw [if_pos hg]; omega
theorem fig_mod' {b : Int} (h : hexd b = true) (h0 : 0 ≤ b) (h1 : b ≤ 255) (hg : ¬ b ≥ 97) : (b - 48) % 256 = hx b := by
  rw [hexd_iff] at h; unfold hx; rw [if_neg hg]; omega
theorem specHead_loop (s : ByteArray) (hs : s.size ≤ 140737488351232) (h8 : 8 ≤ s.size) (hx_ : ∀ x ∈ bytesOf s, hexd x = true) (d : Nat) : ∀ (i : Nat) (n : Int), i + d = 8 → 0 ≤ n → n < 16 ^ i →
    Ev (fun k => spec_l1Head.l0 k s n (i : Int)) (hgo (((bytesOf s).take 8).drop i) n / 2) := by
  induction d with
  | zero =>
    intro i n hi h0 h1
    have hlt : ¬ (i : Int) < 8 := by omega
    obtain rfl : i = 8 := by omega
    have hp := pow16 8 (by omega)
    have e : wrap64 (Int.tdiv n 2) = n / 2 := by rw [Int.tdiv_eq_ediv_of_nonneg h0]; exact w64 (by omega) (by omega)
    rw [List.drop_eq_nil_of_le (by rw [List.length_take]; omega)]
    refine Ev.step (f := fun _ => some (n / 2)) (fun k => ?_) (Ev.now _)
    simp only [spec_l1Head.l0]; rw [if_neg hlt, e]
  | succ d ih =>
    intro i n hi h0 h1
    have hlt : (i : Int) < 8 := by omega
    have hi0 : (0 : Int) ≤ (i : Int) := by omega
    have his : (i : Int) < (s.size : Int) := by omega
    have hisn : i < s.size := by omega
    have hi1 : ((i + 1 : Nat) : Int) = (i : Int) + 1 := by omega
    have hd : i + 1 + d = 8 := by omega
    have hp := pow16 i (by omega)
    have hr := bt_range s (i : Int)
    have hxb : hexd (bt s (i : Int)) = true := hx_ _ (by rw [bt_nat s i hisn]; exact List.getElem_mem _)
    have hxr := hx_range hxb
    have hst := hgo_step h0 h1 hxr.1 hxr.2
    have hnx := ih (i + 1) _ hd hst.1 hst.2
    rw [hi1] at hnx
    have e : ((bytesOf s).take 8).drop i = bt s (i : Int) :: ((bytesOf s).take 8).drop (i + 1) := by
      have hl : i < ((bytesOf s).take 8).length := by rw [List.length_take, bytes_len]; omega
      rw [List.drop_eq_getElem_cons hl, List.getElem_take, bt_nat s i hisn]
    have w1 : wrap64 (n * 16) = 16 * n := by rw [Int.mul_comm]; exact w64 (by omega) (by omega)
    have w2 : wrap64 (16 * n + hx (bt s (i : Int))) = 16 * n + hx (bt s (i : Int)) := by clear w1; exact w64 (by omega) (by omega)
    have hw : wrap64 ((i : Int) + 1) = (i : Int) + 1 := by clear w1 w2; exact w64 (by omega) (by omega)
    rw [e]
    unfold hgo
    refine Ev.step (f := fun k => spec_l1Head.l0 k s (16 * n + hx (bt s (i : Int))) ((i : Int) + 1)) (fun k => ?_) hnx
    simp only [spec_l1Head.l0]
    rw [if_pos hlt, if_pos hi0, if_pos his]
    by_cases hg : bt s (i : Int) ≥ 97
    · rw [if_pos hg, fig_mod hxb hr.1 hr.2 hg, w1, w2, hw]
    · rw [if_neg hg, fig_mod' hxb hr.1 hr.2 hg, w1, w2, hw]
theorem specHead_ev (s : ByteArray) (hs : s.size ≤ 140737488351232) (h8 : 8 ≤ s.size) (hx_ : ∀ x ∈ bytesOf s, hexd x = true) : Ev (fun k => spec_l1Head.f k s) (head31 (bytesOf s)) := by
  have h := specHead_loop s hs h8 hx_ 8 0 0 (by omega) (by omega) (by omega)
  rw [List.drop_zero, Int.natCast_zero] at h
  unfold spec_l1Head.f head31
  exact h
theorem specSumHead_ev (s : ByteArray) (hs : s.size ≤ 140737488351232) : Ev (fun k => spec_SumHead.f k s) (shead (bytesOf s)) := by
  unfold spec_SumHead.f shead
  refine Ev.bind (specIsSum_ev s hs) ?_
  by_cases h : sumB (bytesOf s) = true
  · rw [if_pos h]
    have h2 := (sumB_iff _).1 h
    have h3 := h2.2
    rw [bytes_len] at h3
    exact Ev.ifp h (Ev.bind (specHead_ev s hs (by omega) h2.1) (Ev.now _))
  · rw [if_neg h]
    exact Ev.ifn h (Ev.now _)

/-! ### the program's SumHead -/
theorem implHead_loop (s : ByteArray) (hs : s.size ≤ 140737488351232) (h8 : 8 ≤ s.size) (hx_ : ∀ x ∈ bytesOf s, hexd x = true) (d : Nat) : ∀ (i : Nat) (n : Int), i + d = 8 → 0 ≤ n → n < 16 ^ i →
    Ev (fun k => impl_SumHead.l0 k s n (i : Int)) (hgo (((bytesOf s).take 8).drop i) n / 2) := by
  induction d with
  | zero =>
    intro i n hi h0 h1
    have hlt : ¬ (i : Int) < 8 := by omega
    obtain rfl : i = 8 := by omega
    have hp := pow16 8 (by omega)
    have e : wrap64 (Int.tdiv n 2) = n / 2 := by rw [Int.tdiv_eq_ediv_of_nonneg h0]; exact w64 (by omega) (by omega)
    rw [List.drop_eq_nil_of_le (by rw [List.length_take]; omega)]
    refine Ev.step (f := fun _ => some (n / 2)) (fun k => ?_) (Ev.now _)
    simp only [impl_SumHead.l0]; rw [if_neg hlt, e]
  | succ d ih =>
    intro i n hi h0 h1
    have hlt : (i : Int) < 8 := by omega
    have hi0 : (0 : Int) ≤ (i : Int) := by omega
    have his : (i : Int) < (s.size : Int) := by omega
    have hisn : i < s.size := by omega
    have hi1 : ((i + 1 : Nat) : Int) = (i : Int) + 1 := by omega
    have hd : i + 1 + d = 8 := by omega
    have hp := pow16 i (by omega)
    have hr := bt_range s (i : Int)
    have hxb : hexd (bt s (i : Int)) = true := hx_ _ (by rw [bt_nat s i hisn]; exact List.getElem_mem _)
    have hxr := hx_range hxb
    have hst := hgo_step h0 h1 hxr.1 hxr.2
    have hnx := ih (i + 1) _ hd hst.1 hst.2
    rw [hi1] at hnx
    have e : ((bytesOf s).take 8).drop i = bt s (i : Int) :: ((bytesOf s).take 8).drop (i + 1) := by
      have hl : i < ((bytesOf s).take 8).length := by rw [List.length_take, bytes_len]; omega
      rw [List.drop_eq_getElem_cons hl, List.getElem_take, bt_nat s i hisn]
    have wb : wrap64 (bt s (i : Int)) = bt s (i : Int) := w64 (by omega) (by omega)
    have d1 : wrap64 (bt s (i : Int) + (-87)) = bt s (i : Int) + (-87) := by clear wb; exact w64 (by omega) (by omega)
    have d2 : wrap64 (bt s (i : Int) - 48) = bt s (i : Int) - 48 := by clear wb d1; exact w64 (by omega) (by omega)
    have w1 : wrap64 (16 * n) = 16 * n := by clear wb d1 d2; exact w64 (by omega) (by omega)
    have w2 : wrap64 (16 * n + hx (bt s (i : Int))) = 16 * n + hx (bt s (i : Int)) := by clear wb d1 d2 w1; exact w64 (by omega) (by omega)
    have hw : wrap64 ((i : Int) + 1) = (i : Int) + 1 := by clear wb d1 d2 w1 w2; exact w64 (by omega) (by omega)
    rw [e]
    unfold hgo
    refine Ev.step (f := fun k => impl_SumHead.l0 k s (16 * n + hx (bt s (i : Int))) ((i : Int) + 1)) (fun k => ?_) hnx
    simp only [impl_SumHead.l0]
    rw [if_pos hlt, if_pos hi0, if_pos his, wb]
    by_cases hg : bt s (i : Int) ≥ 97
    · have hh : bt s (i : Int) + (-87) = hx (bt s (i : Int)) := by unfold hx; rw [if_pos hg]; rfl
      rw [if_pos hg, d1, hh, w1, w2, hw]
    · have hh : bt s (i : Int) - 48 = hx (bt s (i : Int)) := by unfold hx; rw [if_neg hg]
      rw [if_neg hg, d2, hh, w1, w2, hw]
theorem implSumHead_ev (s : ByteArray) (hs : s.size ≤ 140737488351232) : Ev (fun k => impl_SumHead.f k s) (shead (bytesOf s)) := by
  unfold impl_SumHead.f shead
  refine Ev.bind (implIsSum_ev s hs) ?_
  by_cases h : sumB (bytesOf s) = true
  · rw [if_pos h]
    have h2 := (sumB_iff _).1 h
    have h3 := h2.2
    rw [bytes_len] at h3
    have h := implHead_loop s hs (by omega) h2.1 8 0 0 (by omega) (by omega) (by omega)
    rw [List.drop_zero, Int.natCast_zero] at h
    unfold head31
    exact Ev.ifp ‹_› h
  · rw [if_neg h]
    exact Ev.ifn h (Ev.now _)

theorem FnExactSumHead : laws_FnExactSumHead.Pure := by
  intro s hs
  refine Ev.rounds (r := true) ?_
  unfold laws_FnExactSumHead.f
  by_cases h : (s.size : Int) > 1048576
  · exact Ev.ifp h (Ev.now _)
  · refine Ev.ifn h ?_
    refine Ev.bind (specSumHead_ev s hs) (Ev.bind (implSumHead_ev s hs) ?_)
    exact Ev.ifp rfl (Ev.now _)

end Go.Proofs.Ytgefbfahkfilnaa.Pure
