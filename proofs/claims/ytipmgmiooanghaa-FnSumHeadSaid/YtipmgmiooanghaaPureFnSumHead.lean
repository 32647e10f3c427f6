/- FnSumHead (P2): the first bits of a sum are a number of 31 bits, its other half does not matter. Conditions: none beyond those that the statement tells. -/
import Derived.Test.YtipmgmiooanghaaPFnSumHeadx5
import Derived.Test.YtipmgmiooanghaaPd
namespace Go.Proofs.Ytipmgmiooanghaa.Pure
open Go Go.RowKit Go.Proofs.Ytipmgmiooanghaa.PFnSumHead Go.Proofs.YtipmgmiooanghaaW.PrintWords Go.Proofs.YtipmgmiooanghaaW.PrintLast Go.Proofs.YtipmgmiooanghaaW.PrintMore Go.Proofs.Ytipmgmiooanghaa.Pl
set_option linter.unusedVariables false

theorem implIn (a b c : Int) : impl_in.f a b c = some (decide (b ≤ a ∧ a ≤ c)) := by
  unfold impl_in.f
  by_cases h : a ≥ b
  · rw [if_pos h]; congr 1; exact decide_eq_decide.2 ⟨fun k => ⟨h, k⟩, fun k => k.2⟩
  · rw [if_neg h]; congr 1; exact (decide_eq_false (fun k => h k.1)).symm

/-! ### the reference's l1IsSum -/
theorem specFigure (b : Int) : spec_l1Figure.f b = some (decide (48 ≤ b ∧ b ≤ 57)) := by
  unfold spec_l1Figure.f
  by_cases h : b ≥ 48
  · rw [if_pos h]; congr 1; exact decide_eq_decide.2 ⟨fun k => ⟨h, k⟩, fun k => k.2⟩
  · rw [if_neg h]; congr 1; exact (decide_eq_false (fun k => h k.1)).symm
theorem specIsSum_loop (s : ByteArray) (hs : s.size ≤ 140737488351232) (d : Nat) : ∀ i : Nat, i + d = s.size → Ev (fun k => spec_l1IsSum.l0 k s (i : Int)) (((bytesOf s).drop i).all hexd && decide (s.size = 16)) := by
  induction d with
  | zero =>
    intro i hi
    have hlt : ¬ (i : Int) < (s.size : Int) := by omega
    have e : ((s.size : Int) == 16) = decide (s.size = 16) := by rw [Bool.eq_iff_iff, beq_iff_eq, decide_eq_true_iff]; omega
    rw [List.drop_eq_nil_of_le (by rw [bytes_len]; omega), List.all_nil, Bool.true_and]
    refine Ev.step (f := fun _ => some (decide (s.size = 16))) (fun k => ?_) (Ev.now _)
    simp only [spec_l1IsSum.l0]; rw [if_neg hlt, e]
  | succ d ih =>
    intro i hi
    have hlt : (i : Int) < (s.size : Int) := by omega
    have h0 : (0 : Int) ≤ (i : Int) := by omega
    have hi1 : ((i + 1 : Nat) : Int) = (i : Int) + 1 := by omega
    have hd : i + 1 + d = s.size := by omega
    have his : i < s.size := by omega
    have hnx := ih (i + 1) hd
    rw [hi1] at hnx
    have hn : (∀ x, x = bt s (i : Int) → hexd x = true) ∨ (∀ x, x = bt s (i : Int) → hexd x = false) := by
      cases h : hexd (bt s (i : Int))
      · exact .inr fun x hx => by rw [hx]; exact h
      · exact .inl fun x hx => by rw [hx]; exact h
    have hw : wrap64 ((i : Int) + 1) = (i : Int) + 1 := w64 (by omega) (by omega)
    rw [bt_drop s i his, List.all_cons]
    by_cases hf : 48 ≤ bt s (i : Int) ∧ bt s (i : Int) ≤ 57
    · have hx : hexd (bt s (i : Int)) = true := (hexd_iff _).2 (.inl hf)
      rw [hx, Bool.true_and]
      refine Ev.step (f := fun k => spec_l1IsSum.l0 k s ((i : Int) + 1)) (fun k => ?_) hnx
      simp only [spec_l1IsSum.l0]; rw [if_pos hlt, if_pos h0, specFigure, decide_eq_true hf, Option.bind_some, if_pos rfl, hw]
    · by_cases hl : bt s (i : Int) < 97
      · have hx : hexd (bt s (i : Int)) = false := by rw [Bool.eq_false_iff]; intro h; rw [hexd_iff] at h; clear hw; omega
        rw [hx, Bool.false_and, Bool.false_and]
        refine Ev.step (f := fun _ => some false) (fun k => ?_) (Ev.now _)
        simp only [spec_l1IsSum.l0]; rw [if_pos hlt, if_pos h0, specFigure, decide_eq_false hf, Option.bind_some, if_neg (by simp), if_pos hl]
      · by_cases hg : bt s (i : Int) > 102
        · have hx : hexd (bt s (i : Int)) = false := by rw [Bool.eq_false_iff]; intro h; rw [hexd_iff] at h; clear hw; omega
          rw [hx, Bool.false_and, Bool.false_and]
          refine Ev.step (f := fun _ => some false) (fun k => ?_) (Ev.now _)
          simp only [spec_l1IsSum.l0]; rw [if_pos hlt, if_pos h0, specFigure, decide_eq_false hf, Option.bind_some, if_neg (by simp), if_neg hl, if_pos hg]
        · have hx : hexd (bt s (i : Int)) = true := by rw [hexd_iff]; clear hw; omega
          rw [hx, Bool.true_and]
          refine Ev.step (f := fun k => spec_l1IsSum.l0 k s ((i : Int) + 1)) (fun k => ?_) hnx
          simp only [spec_l1IsSum.l0]; rw [if_pos hlt, if_pos h0, specFigure, decide_eq_false hf, Option.bind_some, if_neg (by simp), if_neg hl, if_neg hg, hw]
theorem specIsSum_ev (s : ByteArray) (hs : s.size ≤ 140737488351232) : Ev (fun k => spec_l1IsSum.f k s) (sumB (bytesOf s)) := by
  have h := specIsSum_loop s hs s.size 0 (by omega)
  rw [List.drop_zero, Int.natCast_zero] at h
  unfold spec_l1IsSum.f sumB
  rw [bytes_len]
  exact h

/-! ### the program's isSum -/
theorem implIsSum_loop (s : ByteArray) (hs : s.size ≤ 140737488351232) (d : Nat) : ∀ i : Nat, i + d = s.size → Ev (fun k => impl_isSum.l0 k s (i : Int)) (((bytesOf s).drop i).all hexd && decide (s.size = 16)) := by
  induction d with
  | zero =>
    intro i hi
    have hlt : ¬ (i : Int) < (s.size : Int) := by omega
    have e : ((s.size : Int) == 16) = decide (s.size = 16) := by rw [Bool.eq_iff_iff, beq_iff_eq, decide_eq_true_iff]; omega
    rw [List.drop_eq_nil_of_le (by rw [bytes_len]; omega), List.all_nil, Bool.true_and]
    refine Ev.step (f := fun _ => some (decide (s.size = 16))) (fun k => ?_) (Ev.now _)
    simp only [impl_isSum.l0]; rw [if_neg hlt, e]
  | succ d ih =>
    intro i hi
    have hlt : (i : Int) < (s.size : Int) := by omega
    have h0 : (0 : Int) ≤ (i : Int) := by omega
    have hi1 : ((i + 1 : Nat) : Int) = (i : Int) + 1 := by omega
    have hd : i + 1 + d = s.size := by omega
    have his : i < s.size := by omega
    have hnx := ih (i + 1) hd
    rw [hi1] at hnx
    have hr := bt_range s (i : Int)
    have hb : wrap64 (bt s (i : Int)) = bt s (i : Int) := w64 (by omega) (by omega)
    have hw : wrap64 ((i : Int) + 1) = (i : Int) + 1 := w64 (by clear hb; omega) (by clear hb; omega)
    rw [bt_drop s i his, List.all_cons]
    by_cases hf : 48 ≤ bt s (i : Int) ∧ bt s (i : Int) ≤ 57
    · have hx : hexd (bt s (i : Int)) = true := (hexd_iff _).2 (.inl hf)
      rw [hx, Bool.true_and]
      refine Ev.step (f := fun k => impl_isSum.l0 k s ((i : Int) + 1)) (fun k => ?_) hnx
      simp only [impl_isSum.l0]; rw [if_pos hlt, if_pos h0, implIn, hb, decide_eq_true hf, Option.bind_some, if_pos rfl, hw]
    · by_cases hl : 97 ≤ bt s (i : Int) ∧ bt s (i : Int) ≤ 102
      · have hx : hexd (bt s (i : Int)) = true := (hexd_iff _).2 (.inr hl)
        rw [hx, Bool.true_and]
        refine Ev.step (f := fun k => impl_isSum.l0 k s ((i : Int) + 1)) (fun k => ?_) hnx
        simp only [impl_isSum.l0]; rw [if_pos hlt, if_pos h0, implIn, hb, decide_eq_false hf, Option.bind_some, if_neg (by simp), implIn, decide_eq_true hl, Option.bind_some, if_pos rfl, hw]
      · have hx : hexd (bt s (i : Int)) = false := by rw [Bool.eq_false_iff]; intro h; rw [hexd_iff] at h; clear hw hb; omega
        rw [hx, Bool.false_and, Bool.false_and]
        refine Ev.step (f := fun _ => some false) (fun k => ?_) (Ev.now _)
        simp only [impl_isSum.l0]; rw [if_pos hlt, if_pos h0, implIn, hb, decide_eq_false hf, Option.bind_some, if_neg (by simp), implIn, decide_eq_false hl, Option.bind_some, if_neg (by simp)]
theorem implIsSum_ev (s : ByteArray) (hs : s.size ≤ 140737488351232) : Ev (fun k => impl_isSum.f k s) (sumB (bytesOf s)) := by
  have h := implIsSum_loop s hs s.size 0 (by omega)
  rw [List.drop_zero, Int.natCast_zero] at h
  unfold impl_isSum.f sumB
  rw [bytes_len]
  exact h

/-! ### the reference's SumHead -/
theorem fig_mod {b : Int} (h : hexd b = true) (h0 : 0 ≤ b) (h1 : b ≤ 255) (hg : b ≥ 97) : (b - 97) % 256 + 10 = hx b := by
  unfold hx; rw [if_pos hg]; omega
theorem fig_mod' {b : Int} (h : hexd b = true) (h0 : 0 ≤ b) (h1 : b ≤ 255) (hg : ¬ b ≥ 97) : (b - 48) % 256 = hx b := by
  rw [hexd_iff] at h; unfold hx; rw [if_neg hg]; omega
theorem specHead_loop (s : ByteArray) (hs : s.size ≤ 140737488351232) (h8 : 8 ≤ s.size) (hx_ : ∀ x ∈ bytesOf s, hexd x = true) (d : Nat) : ∀ (i : Nat) (n : Int), i + d = 8 → 0 ≤ n → n < 16 ^ i →
    Ev (fun k => spec_l1Head.l0 k s n (i : Int)) (hgo (((bytesOf s).take 8).drop i) n / 2) := by
  induction d with
  | zero =>
    intro i n hi h0 h1
    have hlt : ¬ (i : Int) < 8 := by omega
    obtain rfl : i = 8 := by omega
    have hp := pow16 8 (by omega)
    have e : wrap64 (Int.tdiv n 2) = n / 2 := by rw [Int.tdiv_eq_ediv_of_nonneg h0]; exact w64 (by omega) (by omega)
    rw [List.drop_eq_nil_of_le (by rw [List.length_take]; omega)]
    refine Ev.step (f := fun _ => some (n / 2)) (fun k => ?_) (Ev.now _)
    simp only [spec_l1Head.l0]; rw [if_neg hlt, e]
  | succ d ih =>
    intro i n hi h0 h1
    have hlt : (i : Int) < 8 := by omega
    have hi0 : (0 : Int) ≤ (i : Int) := by omega
    have his : (i : Int) < (s.size : Int) := by omega
    have hisn : i < s.size := by omega
    have hi1 : ((i + 1 : Nat) : Int) = (i : Int) + 1 := by omega
    have hd : i + 1 + d = 8 := by omega
    have hp := pow16 i (by omega)
    have hr := bt_range s (i : Int)
    have hxb : hexd (bt s (i : Int)) = true := hx_ _ (by rw [bt_nat s i hisn]; exact List.getElem_mem _)
    have hxr := hx_range hxb
    have hst := hgo_step h0 h1 hxr.1 hxr.2
    have hnx := ih (i + 1) _ hd hst.1 hst.2
    rw [hi1] at hnx
    have e : ((bytesOf s).take 8).drop i = bt s (i : Int) :: ((bytesOf s).take 8).drop (i + 1) := by
      have hl : i < ((bytesOf s).take 8).length := by rw [List.length_take, bytes_len]; omega
      rw [List.drop_eq_getElem_cons hl, List.getElem_take, bt_nat s i hisn]
    have w1 : wrap64 (n * 16) = 16 * n := by rw [Int.mul_comm]; exact w64 (by omega) (by omega)
    have w2 : wrap64 (16 * n + hx (bt s (i : Int))) = 16 * n + hx (bt s (i : Int)) := by clear w1; exact w64 (by omega) (by omega)
    have hw : wrap64 ((i : Int) + 1) = (i : Int) + 1 := by clear w1 w2; exact w64 (by omega) (by omega)
    rw [e]
    unfold hgo
    refine Ev.step (f := fun k => spec_l1Head.l0 k s (16 * n + hx (bt s (i : Int))) ((i : Int) + 1)) (fun k => ?_) hnx
    simp only [spec_l1Head.l0]
    rw [if_pos hlt, if_pos hi0, if_pos his]
    by_cases hg : bt s (i : Int) ≥ 97
    · rw [if_pos hg, fig_mod hxb hr.1 hr.2 hg, w1, w2, hw]
    · rw [if_neg hg, fig_mod' hxb hr.1 hr.2 hg, w1, w2, hw]
theorem specHead_ev (s : ByteArray) (hs : s.size ≤ 140737488351232) (h8 : 8 ≤ s.size) (hx_ : ∀ x ∈ bytesOf s, hexd x = true) : Ev (fun k => spec_l1Head.f k s) (head31 (bytesOf s)) := by
  have h := specHead_loop s hs h8 hx_ 8 0 0 (by omega) (by omega) (by omega)
  rw [List.drop_zero, Int.natCast_zero] at h
  unfold spec_l1Head.f head31
  exact h
theorem specSumHead_ev (s : ByteArray) (hs : s.size ≤ 140737488351232) : Ev (fun k => spec_SumHead.f k s) (shead (bytesOf s)) := by
  unfold spec_SumHead.f shead
  refine Ev.bind (specIsSum_ev s hs) ?_
  by_cases h : sumB (bytesOf s) = true
  · rw [if_pos h]
    have h2 := (sumB_iff _).1 h
    have h3 := h2.2
    rw [bytes_len] at h3
    exact Ev.ifp h (Ev.bind (specHead_ev s hs (by omega) h2.1) (Ev.now _))
  · rw [if_neg h]
    exact Ev.ifn h (Ev.now _)

/-! ### the program's SumHead -/
theorem implHead_loop (s : ByteArray) (hs : s.size ≤ 140737488351232) (h8 : 8 ≤ s.size) (hx_ : ∀ x ∈ bytesOf s, hexd x = true) (d : Nat) : ∀ (i : Nat) (n : Int), i + d = 8 → 0 ≤ n → n < 16 ^ i →
    Ev (fun k => impl_SumHead.l0 k s n (i : Int)) (hgo (((bytesOf s).take 8).drop i) n / 2) := by
  induction d with
  | zero =>
    intro i n hi h0 h1
    have hlt : ¬ (i : Int) < 8 := by omega
    obtain rfl : i = 8 := by omega
    have hp := pow16 8 (by omega)
    have e : wrap64 (Int.tdiv n 2) = n / 2 := by rw [Int.tdiv_eq_ediv_of_nonneg h0]; exact w64 (by omega) (by omega)
    rw [List.drop_eq_nil_of_le (by rw [List.length_take]; omega)]
    refine Ev.step (f := fun _ => some (n / 2)) (fun k => ?_) (Ev.now _)
    simp only [impl_SumHead.l0]; rw [if_neg hlt, e]
  | succ d ih =>
    intro i n hi h0 h1
    have hlt : (i : Int) < 8 := by omega
    have hi0 : (0 : Int) ≤ (i : Int) := by omega
    have his : (i : Int) < (s.size : Int) := by omega
    have hisn : i < s.size := by omega
    have hi1 : ((i + 1 : Nat) : Int) = (i : Int) + 1 := by omega
    have hd : i + 1 + d = 8 := by omega
    have hp := pow16 i (by omega)
    have hr := bt_range s (i : Int)
    have hxb : hexd (bt s (i : Int)) = true := hx_ _ (by rw [bt_nat s i hisn]; exact List.getElem_mem _)
    have hxr := hx_range hxb
    have hst := hgo_step h0 h1 hxr.1 hxr.2
    have hnx := ih (i + 1) _ hd hst.1 hst.2
    rw [hi1] at hnx
    have e : ((bytesOf s).take 8).drop i = bt s (i : Int) :: ((bytesOf s).take 8).drop (i + 1) := by
      have hl : i < ((bytesOf s).take 8).length := by rw [List.length_take, bytes_len]; omega
      rw [List.drop_eq_getElem_cons hl, List.getElem_take, bt_nat s i hisn]
    have wb : wrap64 (bt s (i : Int)) = bt s (i : Int) := w64 (by omega) (by omega)
    have d1 : wrap64 (bt s (i : Int) + (-87)) = bt s (i : Int) + (-87) := by clear wb; exact w64 (by omega) (by omega)
    have d2 : wrap64 (bt s (i : Int) - 48) = bt s (i : Int) - 48 := by clear wb d1; exact w64 (by omega) (by omega)
    have w1 : wrap64 (16 * n) = 16 * n := by clear wb d1 d2; exact w64 (by omega) (by omega)
    have w2 : wrap64 (16 * n + hx (bt s (i : Int))) = 16 * n + hx (bt s (i : Int)) := by clear wb d1 d2 w1; exact w64 (by omega) (by omega)
    have hw : wrap64 ((i : Int) + 1) = (i : Int) + 1 := by clear wb d1 d2 w1 w2; exact w64 (by omega) (by omega)
    rw [e]
    unfold hgo
    refine Ev.step (f := fun k => impl_SumHead.l0 k s (16 * n + hx (bt s (i : Int))) ((i : Int) + 1)) (fun k => ?_) hnx
    simp only [impl_SumHead.l0]
    rw [if_pos hlt, if_pos hi0, if_pos his, wb]
    by_cases hg : bt s (i : Int) ≥ 97
    · have hh : bt s (i : Int) + (-87) = hx (bt s (i : Int)) := by unfold hx; rw [if_pos hg]; rfl
      rw [if_pos hg, d1, hh, w1, w2, hw]
    · have hh : bt s (i : Int) - 48 = hx (bt s (i : Int)) := by unfold hx; rw [if_neg hg]
      rw [if_neg hg, d2, hh, w1, w2, hw]
theorem implSumHead_ev (s : ByteArray) (hs : s.size ≤ 140737488351232) : Ev (fun k => impl_SumHead.f k s) (shead (bytesOf s)) := by
  unfold impl_SumHead.f shead
  refine Ev.bind (implIsSum_ev s hs) ?_
  by_cases h : sumB (bytesOf s) = true
  · rw [if_pos h]
    have h2 := (sumB_iff _).1 h
    have h3 := h2.2
    rw [bytes_len] at h3
    have h := implHead_loop s hs (by omega) h2.1 8 0 0 (by omega) (by omega) (by omega)
    rw [List.drop_zero, Int.natCast_zero] at h
    unfold head31
    exact Ev.ifp ‹_› h
  · rw [if_neg h]
    exact Ev.ifn h (Ev.now _)

/-! ### what is drawn: a code that is read byte by byte -/
/-- A code that is read. -/
def Code (b : List Int) : Prop := (∀ x ∈ b, 0 ≤ x ∧ x ≤ 255) ∧ b.length ≤ 2000
theorem open_ev {l : List Int} (h : ∀ x ∈ l, 0 ≤ x ∧ x ≤ 255) : ∃ b, spec_l20Open.f l = some (b, 0) ∧ Code b := by
  unfold spec_l20Open.f
  by_cases hl : (l.length : Int) > 2000
  · rw [if_pos hl, if_pos (by omega)]
    exact ⟨_, rfl, fun x hx => h x (List.mem_of_mem_take hx), by rw [List.length_take]; omega⟩
  · rw [if_neg hl]
    exact ⟨_, rfl, h, by omega⟩
theorem tmod_range {a b : Int} (h0 : 0 ≤ a) (hb : 0 < b) : 0 ≤ Int.tmod a b ∧ Int.tmod a b < b := by
  rw [Int.tmod_eq_emod_of_nonneg h0]
  exact ⟨Int.emod_nonneg _ (by omega), Int.emod_lt_of_pos _ hb⟩
theorem mixed {b : List Int} (hb : Code b) {p : Int} (h0 : 0 ≤ p) (h1 : p ≤ 1099511627776) (hl : 0 < b.length) (i j : Int) :
    ∃ x, wrap64 (wrap64 (wrap64 (wrap64 (wrap64 (rd b i) * 131) + wrap64 (wrap64 (rd b j) * 1117)) + wrap64 (p * 29)) + wrap64 (wrap64 (Int.tdiv p (b.length : Int)) * 53)) = x ∧ 0 ≤ x ∧ x < 4611686018427387904 := by
  have hi := rd_range hb.1 i
  have hj := rd_range hb.1 j
  have hd : 0 ≤ Int.tdiv p (b.length : Int) ∧ Int.tdiv p (b.length : Int) ≤ p := by
    rw [Int.tdiv_eq_ediv_of_nonneg h0]
    exact ⟨Int.ediv_nonneg h0 (by omega), Int.ediv_le_self _ h0⟩
  generalize rd b i = u at *
  generalize rd b j = v at *
  generalize Int.tdiv p (b.length : Int) = q at *
  refine ⟨u * 131 + v * 1117 + p * 29 + q * 53, ?_, by omega, by omega⟩
  rw [w64 (i := u) (by omega) (by omega), w64 (i := u * 131) (by omega) (by omega), w64 (i := v) (by omega) (by omega), w64 (i := v * 1117) (by omega) (by omega), w64 (i := u * 131 + v * 1117) (by omega) (by omega),
    w64 (i := p * 29) (by omega) (by omega), w64 (i := u * 131 + v * 1117 + p * 29) (by omega) (by omega), w64 (i := q) (by omega) (by omega), w64 (i := q * 53) (by omega) (by omega), w64 (by omega) (by omega)]
theorem pick_ev {b : List Int} (hb : Code b) (p n : Int) (h0 : 0 ≤ p) (h1 : p ≤ 1099511627776) : ∃ v, Ev (fun k => spec_l20Rd_pick.f k b p n) (v, p + 1) ∧ 0 ≤ v ∧ (1 ≤ n → v < n) ∧ (n < 1 → v = 0) := by
  have hw : wrap64 (p + 1) = p + 1 := w64 (by omega) (by omega)
  unfold spec_l20Rd_pick.f
  by_cases hn : n < 1
  · refine ⟨0, Ev.ifp hn ?_, by omega, by omega, fun _ => rfl⟩
    rw [hw]
    refine Ev.step (f := fun _ => some (0, p + 1)) (fun k => ?_) (Ev.now _)
    simp only [spec_l20Rd_pick.j0]; rw [if_pos trivial]
  · by_cases hl : b.length = 0
    · have e : ((b.length : Int) == 0) = true := by rw [beq_iff_eq]; omega
      refine ⟨0, Ev.ifn hn ?_, by omega, by omega, fun _ => rfl⟩
      rw [hw, e]
      refine Ev.step (f := fun _ => some (0, p + 1)) (fun k => ?_) (Ev.now _)
      simp only [spec_l20Rd_pick.j0]; rw [if_pos trivial]
    · have e : ((b.length : Int) == 0) = false := by rw [beq_eq_false_iff_ne]; omega
      have hw1 : wrap64 (p + 1 - 1) = p := by clear hw; exact (w64 (by omega) (by omega)).trans (by omega)
      have hn0 : ¬ n = 0 := by clear hw hw1; omega
      have hl0 : ¬ (b.length : Int) = 0 := by clear hw hw1; omega
      by_cases hp : p < (b.length : Int)
      · have hr := rd_range hb.1 p
        have hwr : wrap64 (rd b p) = rd b p := by clear hw hw1; exact w64 (by omega) (by omega)
        have ht := tmod_range hr.1 (show 0 < n by clear hw hw1 hwr; omega)
        refine ⟨Int.tmod (rd b p) n, Ev.ifn hn ?_, ht.1, fun _ => ht.2, fun h => absurd h hn⟩
        rw [hw, e]
        refine Ev.step (f := fun _ => some (Int.tmod (rd b p) n, p + 1)) (fun k => ?_) (Ev.now _)
        simp only [spec_l20Rd_pick.j0]; rw [if_neg (by simp), hw1, if_pos hp, if_pos h0, if_neg hn0, hwr]
      · have hlp : 0 < (b.length : Int) := by clear hw hw1; omega
        have t1 := tmod_range h0 hlp
        have hq : wrap64 (wrap64 (p * 7) + 3) = p * 7 + 3 := by clear hw hw1; rw [w64 (i := p * 7) (by omega) (by omega)]; exact w64 (by omega) (by omega)
        have t2 := tmod_range (show 0 ≤ p * 7 + 3 by clear hw hw1 hq; omega) hlp
        obtain ⟨x, hx, hx0, hx1⟩ := mixed hb h0 h1 (show 0 < b.length by clear hw hw1 hq; omega) (Int.tmod p (b.length : Int)) (Int.tmod (p * 7 + 3) (b.length : Int))
        have hd0 : 0 ≤ x / 64 := by clear hx hw hw1 hq; omega
        have hd1 : x / 64 < 4611686018427387904 := by clear hx hw hw1 hq; omega
        have hdx : wrap64 (Int.tdiv x 64) = x / 64 := by rw [Int.tdiv_eq_ediv_of_nonneg hx0]; clear hx hw hw1 hq; exact w64 (by omega) (by omega)
        have hxo := xor64 hx0 hx1 hd0 hd1
        have ht := tmod_range hxo.1 (show 0 < n by clear hx hdx hw hw1 hq; omega)
        refine ⟨Int.tmod (Go.bits .xor .i64 x (x / 64)) n, Ev.ifn hn ?_, ht.1, fun _ => ht.2, fun h => absurd h hn⟩
        rw [hw, e]
        refine Ev.step (f := fun _ => some (Int.tmod (Go.bits .xor .i64 x (x / 64)) n, p + 1)) (fun k => ?_) (Ev.now _)
        simp only [spec_l20Rd_pick.j0]
        rw [if_neg (by simp), hw1, if_neg hp, if_neg hl0, if_pos t1.1, if_pos t1.2, hq, if_pos t2.1, if_pos t2.2, if_neg hn0, hx, hdx]
/-- A number below n, n at least 1. -/
theorem pick_lt {b : List Int} (hb : Code b) (p n : Int) (h0 : 0 ≤ p) (h1 : p ≤ 1099511627776) (hn : 1 ≤ n) : ∃ v, Ev (fun k => spec_l20Rd_pick.f k b p n) (v, p + 1) ∧ 0 ≤ v ∧ v < n := by
  obtain ⟨v, h, h2, h3, _⟩ := pick_ev hb p n h0 h1
  exact ⟨v, h, h2, h3 hn⟩

theorem of_ev {b : List Int} (hb : Code b) (p : Int) (l : List ByteArray) (h0 : 0 ≤ p) (h1 : p ≤ 1099511627776) (hl : 1 ≤ (l.length : Int)) : ∃ x, x ∈ l ∧ Ev (fun k => spec_l20Rd_of.f k b p l) (x, p + 1) := by
  obtain ⟨v, hv, hv0, hv1⟩ := pick_lt hb p (l.length : Int) h0 h1 hl
  refine ⟨rdOf ByteArray.empty l v, rdOf_mem _ v hv0 hv1, ?_⟩
  unfold spec_l20Rd_of.f
  exact Ev.bind hv (Ev.ifp hv0 (Ev.ifp hv1 (Ev.now _)))

/-! ### the reference's l1Sum: it ends, and answers a sum -/
theorem and_range (x : Int) {y : Int} (h0 : 0 ≤ y) (h1 : y ≤ 4294967295) : 0 ≤ Go.bits .and .i64 x y ∧ Go.bits .and .i64 x y ≤ y := by
  have e : Go.bits .and .i64 x y = (((BitVec.ofInt 64 x).toNat &&& y.toNat : Nat) : Int) := by
    show IntKind.i64.wrap ((BitVec.ofInt 64 x &&& BitVec.ofInt 64 y).toNat : Int) = _
    rw [BitVec.toNat_and, bitvec_toNat h0 (by omega), i64_w]
    have hle : (BitVec.ofInt 64 x).toNat &&& y.toNat ≤ y.toNat := Nat.and_le_right
    exact w64 (by omega) (by omega)
  have hle : (BitVec.ofInt 64 x).toNat &&& y.toNat ≤ y.toNat := Nat.and_le_right
  rw [e]
  omega
theorem turn_some (a c : Int) (h0 : 0 ≤ c) (h1 : c ≤ 32) : ∃ t, spec_l1Turn.f a c = some t := by
  unfold spec_l1Turn.f
  rw [if_pos h0, w64 (i := 32 - c) (by omega) (by omega), if_pos (by omega)]
  exact ⟨_, rfl⟩
theorem mix_l1 (x0 x18 : List Int) (h8 : 8 ≤ x0.length) (h18 : x18.length = 8) (d : Nat) : ∀ (i : Nat) (x19 : List Int), i + d = 8 → x19.length = 8 → (∀ x ∈ x19, 0 ≤ x ∧ x ≤ 4294967295) →
    ∃ r, Ev (fun k => spec_l1Mix.l1 k x0 x18 x19 (i : Int)) r ∧ r.length = 8 ∧ ∀ x ∈ r, 0 ≤ x ∧ x ≤ 4294967295 := by
  induction d with
  | zero =>
    intro i x19 hi h19 hr
    refine ⟨x19, Ev.step (f := fun _ => some x19) (fun k => ?_) (Ev.now _), h19, hr⟩
    simp only [spec_l1Mix.l1]; rw [if_neg (by omega)]
  | succ d ih =>
    intro i x19 hi h19 hr
    have hi1 : ((i + 1 : Nat) : Int) = (i : Int) + 1 := by omega
    have hlt : (i : Int) < 8 := by omega
    have hi0 : (0 : Int) ≤ (i : Int) := by omega
    have l0 : (i : Int) < (x0.length : Int) := by omega
    have l1 : (i : Int) < (x18.length : Int) := by omega
    have l2 : (i : Int) < (x19.length : Int) := by omega
    have hd : i + 1 + d = 8 := by omega
    have hw : wrap64 ((i : Int) + 1) = ((i + 1 : Nat) : Int) := by rw [hi1]; exact w64 (by omega) (by omega)
    have hv := and_range (wrap64 (rd x0 (i : Int) + rd x18 (i : Int))) (y := 4294967295) (by decide) (by decide)
    obtain ⟨r, h, hl, hrr⟩ := ih (i + 1) (x19.set i (Go.bits .and .i64 (wrap64 (rd x0 (i : Int) + rd x18 (i : Int))) 4294967295)) hd (by rw [List.length_set]; exact h19)
      (fun x hx => by rcases List.mem_or_eq_of_mem_set hx with hx | rfl; exact hr x hx; exact hv)
    refine ⟨r, Ev.step (fun k => ?_) h, hl, hrr⟩
    simp only [spec_l1Mix.l1]
    rw [if_pos hlt, if_pos hi0, if_pos l0, if_pos l1, if_pos l2, hw, Int.toNat_natCast]
theorem mix_l0 (x0 x1 x2 : List Int) (h8 : 8 ≤ x0.length) (h1 : x1.length = 64) (h2 : x2.length = 64) (d : Nat) : ∀ (i : Nat) (a b c e f g h j : Int), i + d = 64 →
    ∃ r, Ev (fun k => spec_l1Mix.l0 k x0 x1 x2 a b c e f g h j (i : Int)) r ∧ r.length = 8 ∧ ∀ x ∈ r, 0 ≤ x ∧ x ≤ 4294967295 := by
  induction d with
  | zero =>
    intro i a b c e f g h j hi
    obtain ⟨r, hr, hl, hrr⟩ := mix_l1 x0 [a, b, c, e, f, g, h, j] h8 rfl 8 0 (List.replicate 8 0) (by omega) (by simp) (fun x hx => by rw [List.eq_of_mem_replicate hx]; decide)
    refine ⟨r, Ev.step (fun k => ?_) hr, hl, hrr⟩
    simp only [spec_l1Mix.l0]
    rw [if_neg (by omega), if_pos (by decide)]
    rfl
  | succ d ih =>
    intro i a b c e f g h j hi
    have hi1 : ((i + 1 : Nat) : Int) = (i : Int) + 1 := by omega
    have hlt : (i : Int) < 64 := by omega
    have hi0 : (0 : Int) ≤ (i : Int) := by omega
    have l1 : (i : Int) < (x1.length : Int) := by omega
    have l2 : (i : Int) < (x2.length : Int) := by omega
    have hd : i + 1 + d = 64 := by omega
    have hw : wrap64 ((i : Int) + 1) = ((i + 1 : Nat) : Int) := by rw [hi1]; exact w64 (by omega) (by omega)
    obtain ⟨t1, e1⟩ := turn_some f 6 (by decide) (by decide)
    obtain ⟨t2, e2⟩ := turn_some f 11 (by decide) (by decide)
    obtain ⟨t3, e3⟩ := turn_some f 25 (by decide) (by decide)
    obtain ⟨t4, e4⟩ := turn_some a 2 (by decide) (by decide)
    obtain ⟨t5, e5⟩ := turn_some a 13 (by decide) (by decide)
    obtain ⟨t6, e6⟩ := turn_some a 22 (by decide) (by decide)
    obtain ⟨A, B, hs⟩ : ∃ A B, ∀ k, spec_l1Mix.l0 (k + 1) x0 x1 x2 a b c e f g h j (i : Int) = spec_l1Mix.l0 k x0 x1 x2 A a b c B f g h ((i + 1 : Nat) : Int) := by
      apply Exists.intro
      apply Exists.intro
      intro k
      simp only [spec_l1Mix.l0]
      rw [if_pos hlt, e1, Option.bind_some, e2, Option.bind_some, e3, Option.bind_some, if_pos hi0, if_pos l2, if_pos l1, e4, Option.bind_some, e5, Option.bind_some, e6, Option.bind_some, hw]
    obtain ⟨r, hr, hl, hrr⟩ := ih (i + 1) A a b c B f g h hd
    exact ⟨r, Ev.step hs hr, hl, hrr⟩
theorem mix_ev (x0 x1 x2 : List Int) (h8 : x0.length = 8) (h1 : x1.length = 64) (h2 : x2.length = 64) : ∃ r, Ev (fun k => spec_l1Mix.f k x0 x1 x2) r ∧ r.length = 8 ∧ ∀ x ∈ r, 0 ≤ x ∧ x ≤ 4294967295 := by
  obtain ⟨r, hr, hl, hrr⟩ := mix_l0 x0 x1 x2 (by omega) h1 h2 64 0 (rd x0 0) (rd x0 1) (rd x0 2) (rd x0 3) (rd x0 4) (rd x0 5) (rd x0 6) (rd x0 7) (by omega)
  refine ⟨r, ?_, hl, hrr⟩
  unfold spec_l1Mix.f
  rw [Int.natCast_zero] at hr
  exact Ev.ifp (by omega) (Ev.ifp (by omega) (Ev.ifp (by omega) (Ev.ifp (by omega) (Ev.ifp (by omega) (Ev.ifp (by omega) (Ev.ifp (by omega) (Ev.ifp (by omega) hr)))))))
theorem words_l1 (d : Nat) : ∀ (i : Nat) (x3 : List Int), i + d = 64 → 16 ≤ i → x3.length = 64 → ∃ r, Ev (fun k => spec_l1Words.l1 k x3 (i : Int)) r ∧ r.length = 64 := by
  induction d with
  | zero =>
    intro i x3 hi h16 h3
    refine ⟨x3, Ev.step (f := fun _ => some x3) (fun k => ?_) (Ev.now _), h3⟩
    simp only [spec_l1Words.l1]; rw [if_neg (by omega)]
  | succ d ih =>
    intro i x3 hi h16 h3
    have hi1 : ((i + 1 : Nat) : Int) = (i : Int) + 1 := by omega
    have hlt : (i : Int) < 64 := by omega
    have hi0 : (0 : Int) ≤ (i : Int) := by omega
    have hd : i + 1 + d = 64 := by omega
    have a15 : 0 ≤ (i : Int) - 15 := by omega
    have a2 : 0 ≤ (i : Int) - 2 := by omega
    have a16 : 0 ≤ (i : Int) - 16 := by omega
    have a7 : 0 ≤ (i : Int) - 7 := by omega
    have b15 : (i : Int) - 15 < (x3.length : Int) := by omega
    have b2 : (i : Int) - 2 < (x3.length : Int) := by omega
    have b16 : (i : Int) - 16 < (x3.length : Int) := by omega
    have b7 : (i : Int) - 7 < (x3.length : Int) := by omega
    have b0 : (i : Int) < (x3.length : Int) := by omega
    have w15 : wrap64 ((i : Int) - 15) = (i : Int) - 15 := w64 (by omega) (by omega)
    have w2 : wrap64 ((i : Int) - 2) = (i : Int) - 2 := by clear w15; exact w64 (by omega) (by omega)
    have w16 : wrap64 ((i : Int) - 16) = (i : Int) - 16 := by clear w15 w2; exact w64 (by omega) (by omega)
    have w7 : wrap64 ((i : Int) - 7) = (i : Int) - 7 := by clear w15 w2 w16; exact w64 (by omega) (by omega)
    have hw : wrap64 ((i : Int) + 1) = ((i + 1 : Nat) : Int) := by clear w15 w2 w16 w7; rw [hi1]; exact w64 (by omega) (by omega)
    obtain ⟨t1, e1⟩ := turn_some (rd x3 ((i : Int) - 15)) 7 (by decide) (by decide)
    obtain ⟨t2, e2⟩ := turn_some (rd x3 ((i : Int) - 15)) 18 (by decide) (by decide)
    obtain ⟨t3, e3⟩ := turn_some (rd x3 ((i : Int) - 2)) 17 (by decide) (by decide)
    obtain ⟨t4, e4⟩ := turn_some (rd x3 ((i : Int) - 2)) 19 (by decide) (by decide)
    obtain ⟨A, hs⟩ : ∃ A, ∀ k, spec_l1Words.l1 (k + 1) x3 (i : Int) = spec_l1Words.l1 k (x3.set i A) ((i + 1 : Nat) : Int) := by
      apply Exists.intro
      intro k
      simp only [spec_l1Words.l1]
      rw [if_pos hlt, w15, w2, if_pos a15, if_pos b15, if_pos a2, if_pos b2, e1, Option.bind_some, e2, Option.bind_some, e3, Option.bind_some, e4, Option.bind_some, w16, if_pos a16, if_pos b16, w7, if_pos a7, if_pos b7, if_pos hi0, if_pos b0, hw, Int.toNat_natCast]
    obtain ⟨r, hr, hl⟩ := ih (i + 1) (x3.set i A) hd (by omega) (by rw [List.length_set]; exact h3)
    exact ⟨r, Ev.step hs hr, hl⟩
theorem words_l0 (x0 : List Int) (h0 : x0.length = 64) (d : Nat) : ∀ (i : Nat) (x3 : List Int), i + d = 16 → x3.length = 64 → ∃ r, Ev (fun k => spec_l1Words.l0 k x0 x3 (i : Int)) r ∧ r.length = 64 := by
  induction d with
  | zero =>
    intro i x3 hi h3
    obtain ⟨r, hr, hl⟩ := words_l1 48 16 x3 (by omega) (by omega) h3
    refine ⟨r, Ev.step (fun k => ?_) hr, hl⟩
    simp only [spec_l1Words.l0]; rw [if_neg (by omega)]; rfl
  | succ d ih =>
    intro i x3 hi h3
    have hi1 : ((i + 1 : Nat) : Int) = (i : Int) + 1 := by omega
    have hlt : (i : Int) < 16 := by omega
    have hi0 : (0 : Int) ≤ (i : Int) := by omega
    have hd : i + 1 + d = 16 := by omega
    have a0 : 0 ≤ 4 * (i : Int) := by omega
    have a1 : 0 ≤ 4 * (i : Int) + 1 := by omega
    have a2 : 0 ≤ 4 * (i : Int) + 2 := by omega
    have a3 : 0 ≤ 4 * (i : Int) + 3 := by omega
    have b0 : 4 * (i : Int) < (x0.length : Int) := by omega
    have b1 : 4 * (i : Int) + 1 < (x0.length : Int) := by omega
    have b2 : 4 * (i : Int) + 2 < (x0.length : Int) := by omega
    have b3 : 4 * (i : Int) + 3 < (x0.length : Int) := by omega
    have bi : (i : Int) < (x3.length : Int) := by omega
    have w0 : wrap64 (4 * (i : Int)) = 4 * (i : Int) := w64 (by omega) (by omega)
    have w1 : wrap64 (4 * (i : Int) + 1) = 4 * (i : Int) + 1 := by clear w0; exact w64 (by omega) (by omega)
    have w2 : wrap64 (4 * (i : Int) + 2) = 4 * (i : Int) + 2 := by clear w0 w1; exact w64 (by omega) (by omega)
    have w3 : wrap64 (4 * (i : Int) + 3) = 4 * (i : Int) + 3 := by clear w0 w1 w2; exact w64 (by omega) (by omega)
    have hw : wrap64 ((i : Int) + 1) = ((i + 1 : Nat) : Int) := by clear w0 w1 w2 w3; rw [hi1]; exact w64 (by omega) (by omega)
    obtain ⟨A, hs⟩ : ∃ A, ∀ k, spec_l1Words.l0 (k + 1) x0 x3 (i : Int) = spec_l1Words.l0 k x0 (x3.set i A) ((i + 1 : Nat) : Int) := by
      apply Exists.intro
      intro k
      simp only [spec_l1Words.l0]
      rw [if_pos hlt, w0, if_pos a0, if_pos b0, w1, if_pos a1, if_pos b1, w2, if_pos a2, if_pos b2, w3, if_pos a3, if_pos b3, if_pos hi0, if_pos bi, hw, Int.toNat_natCast]
    obtain ⟨r, hr, hl⟩ := ih (i + 1) (x3.set i A) hd (by rw [List.length_set]; exact h3)
    exact ⟨r, Ev.step hs hr, hl⟩
theorem words_ev (x0 : List Int) (h0 : x0.length = 64) : ∃ r, Ev (fun k => spec_l1Words.f k x0) r ∧ r.length = 64 := by
  obtain ⟨r, hr, hl⟩ := words_l0 x0 h0 16 0 (List.replicate 64 0) (by omega) (by simp)
  refine ⟨r, ?_, hl⟩
  unfold spec_l1Words.f
  rw [Int.natCast_zero] at hr
  exact Ev.ifp (by decide) hr
theorem pad_l1 (m : Nat) (hm : 8 < m) (hm2 : m ≤ 2000000000) (n : Int) (d : Nat) : ∀ (i : Nat) (x3 : List Int), i + d = 8 → x3.length = m → ∃ r, Ev (fun k => spec_l1Pad.l1 k x3 n (i : Int)) r ∧ r.length = m := by
  induction d with
  | zero =>
    intro i x3 hi h3
    refine ⟨x3, Ev.step (f := fun _ => some x3) (fun k => ?_) (Ev.now _), h3⟩
    simp only [spec_l1Pad.l1]; rw [if_neg (by omega)]
  | succ d ih =>
    intro i x3 hi h3
    have hi1 : ((i + 1 : Nat) : Int) = (i : Int) + 1 := by omega
    have hlt : (i : Int) < 8 := by omega
    have hd : i + 1 + d = 8 := by omega
    have a0 : 0 ≤ 8 * (i : Int) := by omega
    have hxl : (x3.length : Int) = (m : Int) := by omega
    have a1 : 0 ≤ (m : Int) - 1 - (i : Int) := by omega
    have b1 : (m : Int) - 1 - (i : Int) < (m : Int) := by omega
    have w0 : wrap64 (8 * (i : Int)) = 8 * (i : Int) := w64 (by omega) (by omega)
    have w1 : wrap64 ((m : Int) - 1) = (m : Int) - 1 := by clear w0; exact w64 (by omega) (by omega)
    have w2 : wrap64 ((m : Int) - 1 - (i : Int)) = (m : Int) - 1 - (i : Int) := by clear w0 w1; exact w64 (by omega) (by omega)
    have hw : wrap64 ((i : Int) + 1) = ((i + 1 : Nat) : Int) := by clear w0 w1 w2; rw [hi1]; exact w64 (by omega) (by omega)
    obtain ⟨A, hs⟩ : ∃ A, ∀ k, spec_l1Pad.l1 (k + 1) x3 n (i : Int) = spec_l1Pad.l1 k (x3.set ((m : Int) - 1 - (i : Int)).toNat A) n ((i + 1 : Nat) : Int) := by
      apply Exists.intro
      intro k
      simp only [spec_l1Pad.l1]
      rw [if_pos hlt, w0, if_pos a0, hxl, w1, w2, if_pos a1, if_pos b1, hw]
    obtain ⟨r, hr, hl⟩ := ih (i + 1) (x3.set ((m : Int) - 1 - (i : Int)).toNat A) hd (by rw [List.length_set]; exact h3)
    exact ⟨r, Ev.step hs hr, hl⟩
theorem pad_l0 (s : ByteArray) (hs : s.size ≤ 1000000000) (m : Nat) (hm : s.size + 8 < m) (hm2 : m ≤ 2000000000) (d : Nat) : ∀ (i : Nat) (x3 : List Int), i + d = s.size → x3.length = m → ∃ r, Ev (fun k => spec_l1Pad.l0 k s x3 (i : Int)) r ∧ r.length = m := by
  induction d with
  | zero =>
    intro i x3 hi h3
    have hlt : ¬ (i : Int) < (s.size : Int) := by omega
    have h0 : 0 ≤ (s.size : Int) := by omega
    have hl : (s.size : Int) < (x3.length : Int) := by omega
    obtain ⟨r, hr, hrl⟩ := pad_l1 m (by omega) hm2 (wrap64 ((s.size : Int) * 8)) 8 0 (x3.set ((s.size : Int) : Int).toNat 128) (by omega) (by rw [List.length_set]; exact h3)
    refine ⟨r, Ev.step (fun k => ?_) hr, hrl⟩
    simp only [spec_l1Pad.l0]
    rw [if_neg hlt, if_pos h0, if_pos hl]
    rfl
  | succ d ih =>
    intro i x3 hi h3
    have hi1 : ((i + 1 : Nat) : Int) = (i : Int) + 1 := by omega
    have hlt : (i : Int) < (s.size : Int) := by omega
    have hi0 : (0 : Int) ≤ (i : Int) := by omega
    have hl : (i : Int) < (x3.length : Int) := by omega
    have hd : i + 1 + d = s.size := by omega
    have hw : wrap64 ((i : Int) + 1) = ((i + 1 : Nat) : Int) := by rw [hi1]; exact w64 (by omega) (by omega)
    obtain ⟨r, hr, hrl⟩ := ih (i + 1) (x3.set i (wrap64 (bt s (i : Int)))) hd (by rw [List.length_set]; exact h3)
    refine ⟨r, Ev.step (fun k => ?_) hr, hrl⟩
    simp only [spec_l1Pad.l0]
    rw [if_pos hlt, if_pos hi0, if_pos hl, hw, Int.toNat_natCast]
theorem pad_ev (s : ByteArray) (hs : s.size ≤ 1000000000) : ∃ r q, Ev (fun k => spec_l1Pad.f k s) r ∧ r.length = 64 * q ∧ r.length ≤ 2000000000 := by
  have e : wrap64 (wrap64 (Int.tdiv (wrap64 ((s.size : Int) + 72)) 64) * 64) = ((64 * ((s.size + 72) / 64) : Nat) : Int) := by
    rw [w64 (i := (s.size : Int) + 72) (by omega) (by omega), Int.tdiv_eq_ediv_of_nonneg (by omega)]
    rw [w64 (i := ((s.size : Int) + 72) / 64) (by omega) (by omega), w64 (by omega) (by omega)]
    omega
  obtain ⟨r, hr, hl⟩ := pad_l0 s hs (64 * ((s.size + 72) / 64)) (by omega) (by omega) s.size 0 (List.replicate (64 * ((s.size + 72) / 64)) 0) (by omega) (by simp)
  refine ⟨r, (s.size + 72) / 64, ?_, hl, by omega⟩
  unfold spec_l1Pad.f
  rw [e, Int.toNat_natCast]
  rw [Int.natCast_zero] at hr
  exact Ev.ifp (by omega) (Ev.ifp (by omega) hr)
theorem sha_l0 (x4 x5 : List Int) (h4 : x4.length = 64) (q : Nat) (h5 : x5.length = 64 * q) (h5b : x5.length ≤ 2000000000) (d : Nat) : ∀ (i : Nat) (x3 : List Int), i + d = q → x3.length = 8 → (∀ x ∈ x3, 0 ≤ x ∧ x ≤ 4294967295) →
    ∃ r, Ev (fun k => spec_l1Sha.l0 k x3 x4 x5 ((64 * i : Nat) : Int)) r ∧ r.length = 8 ∧ ∀ x ∈ r, 0 ≤ x ∧ x ≤ 4294967295 := by
  induction d with
  | zero =>
    intro i x3 hi h3 hr
    refine ⟨x3, Ev.step (f := fun _ => some x3) (fun k => ?_) (Ev.now _), h3, hr⟩
    simp only [spec_l1Sha.l0]; rw [if_neg (by omega)]
  | succ d ih =>
    intro i x3 hi h3 hr
    have hi1 : ((64 * (i + 1) : Nat) : Int) = ((64 * i : Nat) : Int) + 64 := by omega
    have hlt : ((64 * i : Nat) : Int) < (x5.length : Int) := by omega
    have hi0 : (0 : Int) ≤ ((64 * i : Nat) : Int) := by omega
    have hle : ((64 * i : Nat) : Int) ≤ ((64 * (i + 1) : Nat) : Int) := by omega
    have hle2 : ((64 * (i + 1) : Nat) : Int) ≤ (x5.length : Int) := by omega
    have hd : i + 1 + d = q := by omega
    have hcut : ((x5.take (64 * (i + 1))).drop (64 * i)).length = 64 := by rw [List.length_drop, List.length_take]; omega
    have hw : wrap64 (((64 * i : Nat) : Int) + 64) = ((64 * (i + 1) : Nat) : Int) := by rw [hi1]; exact w64 (by omega) (by omega)
    obtain ⟨t, ht, htl⟩ := words_ev _ hcut
    obtain ⟨u, hu, hul, hur⟩ := mix_ev x3 t x4 h3 htl h4
    obtain ⟨r, h, hl, hrr⟩ := ih (i + 1) u hd hul hur
    refine ⟨r, Ev.step (f := fun k => (spec_l1Words.f k ((x5.take (64 * (i + 1))).drop (64 * i))).bind fun t177 => ((spec_l1Mix.f k x3 t177 x4).bind fun t180 => (spec_l1Sha.l0 k t180 x4 x5 ((64 * (i + 1) : Nat) : Int)))) (fun k => ?_) (Ev.bind ht (Ev.bind hu h)), hl, hrr⟩
    simp only [spec_l1Sha.l0]
    rw [if_pos hlt, if_pos hi0, hw, if_pos hle, if_pos hle2, Int.toNat_natCast, Int.toNat_natCast]
theorem sha_ev (s : ByteArray) (hs : s.size ≤ 1000000000) : ∃ r, Ev (fun k => spec_l1Sha.f k s) r ∧ r.length = 8 ∧ ∀ x ∈ r, 0 ≤ x ∧ x ≤ 4294967295 := by
  obtain ⟨p, q, hp, hpl, hpb⟩ := pad_ev s hs
  have hc : ∃ c : List Int × List Int, spec_l1Consts.f = some c ∧ c.1.length = 8 ∧ c.2.length = 64 ∧ ∀ x ∈ c.1, 0 ≤ x ∧ x ≤ 4294967295 := ⟨_, rfl, rfl, rfl, by decide⟩
  obtain ⟨c, hc, hc1, hc2, hc3⟩ := hc
  obtain ⟨r, hr, hl, hrr⟩ := sha_l0 c.2 p hc2 q hpl hpb q 0 c.1 (by omega) hc1 hc3
  refine ⟨r, ?_, hl, hrr⟩
  unfold spec_l1Sha.f
  exact Ev.b hc (Ev.bind hp hr)
/-- The sixteen figures. -/
theorem fig_hexd (j : Int) (h0 : 0 ≤ j) (h1 : j < 16) : hexd (bt (⟨#[48, 49, 50, 51, 52, 53, 54, 55, 56, 57, 97, 98, 99, 100, 101, 102]⟩ : ByteArray) j) = true := by
  have : j = 0 ∨ j = 1 ∨ j = 2 ∨ j = 3 ∨ j = 4 ∨ j = 5 ∨ j = 6 ∨ j = 7 ∨ j = 8 ∨ j = 9 ∨ j = 10 ∨ j = 11 ∨ j = 12 ∨ j = 13 ∨ j = 14 ∨ j = 15 := by omega
  rcases this with rfl | rfl | rfl | rfl | rfl | rfl | rfl | rfl | rfl | rfl | rfl | rfl | rfl | rfl | rfl | rfl <;> decide
theorem shr_nn {x : Int} (y : Int) (h : 0 ≤ x) : 0 ≤ shr .i64 x y := by
  unfold shr
  exact Int.ediv_nonneg h (Int.le_of_lt (Int.pow_pos (by decide)))
theorem hexd_byte {x : Int} (h : hexd x = true) : 0 ≤ x ∧ x ≤ 255 := by rw [hexd_iff] at h; omega
theorem hex_l0 (x : Int) (hx : 0 ≤ x) (d : Nat) : ∀ (l : List Int), l.length + d = 8 → (∀ y ∈ l, hexd y = true) →
    ∃ r, Ev (fun k => spec_l1Hex.l0 k x l ((d : Int) - 1)) (strOfNums r) ∧ r.length = 8 ∧ ∀ y ∈ r, hexd y = true := by
  induction d with
  | zero =>
    intro l hl hr
    refine ⟨l, Ev.step (f := fun _ => some (strOfNums l)) (fun k => ?_) (Ev.now _), by omega, hr⟩
    simp only [spec_l1Hex.l0]; rw [if_neg (by omega)]
  | succ d ih =>
    intro l hl hr
    have h8 : d ≤ 8 := by omega
    have hg : (((d + 1 : Nat) : Int) - 1) ≥ 0 := by omega
    have e : (((d + 1 : Nat) : Int) - 1) = (d : Int) := by omega
    have a0 : 0 ≤ 4 * (d : Int) := by omega
    have hlim : l.length < 140737488355328 := by omega
    have hll : (l.length + 1) + d = 8 := by omega
    have w0 : wrap64 (4 * (d : Int)) = 4 * (d : Int) := w64 (by omega) (by omega)
    have w1 : wrap64 ((d : Int) - 1) = (d : Int) - 1 := by clear w0; exact w64 (by omega) (by omega)
    have ht := tmod16 (shr_nn (x := x) (4 * (d : Int)) hx)
    obtain ⟨r, h, hrl, hrr⟩ := ih (l ++ [bt (⟨#[48, 49, 50, 51, 52, 53, 54, 55, 56, 57, 97, 98, 99, 100, 101, 102]⟩ : ByteArray) (Int.tmod (shr .i64 x (4 * (d : Int))) 16)]) (by rw [List.length_append, List.length_singleton]; exact hll)
      (fun y hy => by rcases List.mem_append.1 hy with hy | hy; exact hr y hy; rw [List.mem_singleton.1 hy]; exact fig_hexd _ ht.1 ht.2)
    refine ⟨r, Ev.step (fun k => ?_) h, hrl, hrr⟩
    simp only [spec_l1Hex.l0]
    rw [if_pos hg, e, w0, if_pos a0, if_pos ht.1, if_pos ht.2, if_pos hlim, w1]
theorem hex_ev (x : Int) (hx : 0 ≤ x) : ∃ r, Ev (fun k => spec_l1Hex.f k x) (strOfNums r) ∧ r.length = 8 ∧ ∀ y ∈ r, hexd y = true := by
  obtain ⟨r, h, hl, hr⟩ := hex_l0 x hx 8 [] (by simp) (by simp)
  refine ⟨r, ?_, hl, hr⟩
  unfold spec_l1Hex.f
  exact h
/-- The sum of a text: it is told, and it is a sum. -/
theorem sum_ev (s : ByteArray) (hs : s.size ≤ 1000000000) : ∃ t, Ev (fun k => spec_l1Sum.f k s) t ∧ sumB (bytesOf t) = true ∧ t.size = 16 := by
  obtain ⟨h, hh, hl, hr⟩ := sha_ev s hs
  have h0 : 0 ≤ rd h 0 := (hr _ (rd_mem 0 (by decide) (by omega))).1
  have h1 : 0 ≤ rd h 1 := (hr _ (rd_mem 1 (by decide) (by omega))).1
  obtain ⟨a, ha, hal, har⟩ := hex_ev _ h0
  obtain ⟨b, hb, hbl, hbr⟩ := hex_ev _ h1
  have hby : bytesOf (strOfNums a ++ strOfNums b) = a ++ b := by
    rw [bytes_append, bytes_str _ (fun x hx => hexd_byte (har x hx)), bytes_str _ (fun x hx => hexd_byte (hbr x hx))]
  refine ⟨strOfNums a ++ strOfNums b, ?_, ?_, ?_⟩
  · unfold spec_l1Sum.f
    exact Ev.bind hh (Ev.ifp (by omega) (Ev.bind ha (Ev.ifp (by omega) (Ev.bind hb (Ev.ifp (by rw [str_size, str_size]; omega) (Ev.now _))))))
  · rw [hby, sumB_iff]
    exact ⟨fun x hx => by rcases List.mem_append.1 hx with hx | hx; exact har x hx; exact hbr x hx, by rw [List.length_append]; omega⟩
  · rw [ByteArray.size_append, str_size, str_size]; omega

theorem item_ev {b : List Int} (hb : Code b) (p : Int) (h0 : 0 ≤ p) (h1 : p ≤ 1099511627776) : ∃ s, Ev (fun k => spec_l20Item.f k b p) (s, p + 1) ∧ s.size ≤ 8 := by
  obtain ⟨x, hm, hx⟩ := of_ev hb p ([(⟨#[97]⟩ : ByteArray), (⟨#[98]⟩ : ByteArray), (⟨#[99]⟩ : ByteArray), (⟨#[100]⟩ : ByteArray), (⟨#[97, 110, 110]⟩ : ByteArray), (⟨#[98, 111, 98]⟩ : ByteArray), (⟨#[99, 121, 100]⟩ : ByteArray), (⟨#[120, 49]⟩ : ByteArray), (⟨#[120, 50]⟩ : ByteArray), (⟨#[120, 51]⟩ : ByteArray), (⟨#[122, 122]⟩ : ByteArray), (⟨#[108, 111, 110, 103, 110, 97, 109, 101]⟩ : ByteArray)] : List ByteArray) h0 h1 (by decide)
  refine ⟨x, ?_, ?_⟩
  · unfold spec_l20Item.f
    exact Ev.bind hx (Ev.now _)
  · simp only [List.mem_cons, List.not_mem_nil, or_false] at hm
    rcases hm with rfl | rfl | rfl | rfl | rfl | rfl | rfl | rfl | rfl | rfl | rfl | rfl <;> decide
theorem dsum_ev {b : List Int} (hb : Code b) (p : Int) (h0 : 0 ≤ p) (h1 : p ≤ 1000000000000) : ∃ s q, Ev (fun k => spec_l20Sum.f k b p) (s, q) ∧ s.size ≤ 16 ∧ p ≤ q ∧ q ≤ p + 2 := by
  obtain ⟨v, hv, _, _⟩ := pick_lt hb p 10 h0 (by omega) (by omega)
  unfold spec_l20Sum.f
  by_cases hz : v = 0
  · obtain ⟨x, hm, hx⟩ := of_ev hb (p + 1) ([(⟨#[]⟩ : ByteArray), (⟨#[48, 48]⟩ : ByteArray), (⟨#[103, 48, 48, 48, 48, 48, 48, 48, 48, 48, 48, 48, 48, 48, 48, 48]⟩ : ByteArray), (⟨#[65, 66, 67, 68, 69, 70, 48, 49, 50, 51, 52, 53, 54, 55, 56, 57]⟩ : ByteArray)] : List ByteArray) (by omega) (by omega) (by decide)
    refine ⟨x, p + 1 + 1, Ev.bind hv (Ev.ifp hz (Ev.bind hx (Ev.now _))), ?_, by omega, by omega⟩
    simp only [List.mem_cons, List.not_mem_nil, or_false] at hm
    rcases hm with rfl | rfl | rfl | rfl <;> decide
  · obtain ⟨x, hx, hxs⟩ := item_ev hb (p + 1) (by omega) (by omega)
    obtain ⟨t, ht, _, hts⟩ := sum_ev x (by omega)
    exact ⟨t, p + 1 + 1, Ev.bind hv (Ev.ifn hz (Ev.bind hx (Ev.bind ht (Ev.now _)))), by omega, by omega, by omega⟩

theorem draw_ev {l : List Int} (h : ∀ x ∈ l, 0 ≤ x ∧ x ≤ 255) : ∃ s, Ev (fun k => spec_DrawSumHead.f k l) s ∧ s.size ≤ 16 := by
  obtain ⟨b, hb, hc⟩ := open_ev h
  obtain ⟨s, q, hs, hz, _, _⟩ := dsum_ev hc 0 (by omega) (by omega)
  refine ⟨s, ?_, hz⟩
  unfold spec_DrawSumHead.f
  exact Ev.b hb (Ev.bind hs (Ev.now _))
theorem shead_other (l r : List Int) (hl : l.length = 8) (hr : r.length = 8) (h1 : ∀ x ∈ l, hexd x = true) (h2 : ∀ x ∈ r, hexd x = true) : shead (l ++ r) = hgo l 0 / 2 := by
  have hs : sumB (l ++ r) = true := by
    rw [sumB_iff, List.length_append]
    exact ⟨fun x hx => by rcases List.mem_append.1 hx with hx | hx; exact h1 x hx; exact h2 x hx, by omega⟩
  unfold shead head31
  rw [if_pos hs, List.take_append_of_le_length (by omega), List.take_of_length_le (by omega)]
theorem FnSumHead : laws_FnSumHead.Pure := by
  intro l0 _ _ h0
  refine Ev.rounds (r := true) ?_
  obtain ⟨s, hs, hss⟩ := draw_ev (wf_bytes h0)
  have hsz : s.size ≤ 140737488351232 := by omega
  unfold laws_FnSumHead.f
  by_cases ha : (l0.length : Int) > 1048576
  · exact Ev.ifp ha (Ev.now _)
  refine Ev.ifn ha ?_
  refine Ev.bind hs (Ev.bind (implSumHead_ev s hsz) (Ev.bind (specSumHead_ev s hsz) (Ev.ifp rfl ?_)))
  by_cases hn : shead (bytesOf s) < 0
  · rw [decide_eq_true hn]
    refine Ev.step (f := fun k => (spec_SumHead.f k s).bind fun t225 => (some (shead (bytesOf s) == t225))) (fun k => ?_) ?_
    · simp only [laws_FnSumHead.j0]; rw [if_pos trivial]
    · refine Ev.bind (specSumHead_ev s hsz) ?_
      rw [show (shead (bytesOf s) == shead (bytesOf s)) = true from beq_iff_eq.2 rfl]
      exact Ev.now _
  · rw [decide_eq_false hn]
    have hsum : sumB (bytesOf s) = true := by
      by_cases h : sumB (bytesOf s) = true
      · exact h
      · exfalso
        unfold shead at hn
        rw [if_neg h] at hn
        exact hn (by decide)
    have hb := (sumB_iff _).1 hsum
    have h16 : s.size = 16 := by rw [← bytes_len]; exact hb.2
    have hsh : shead (bytesOf s) = head31 (bytesOf s) := by unfold shead; rw [if_pos hsum]
    have hr := head31_range hb.1
    have ht8 : ((bytesOf s).take 8).length = 8 := by rw [List.length_take]; omega
    have hd8 : ((bytesOf s).drop 8).length = 8 := by rw [List.length_drop]; omega
    have e1 : bytesOf (s.extract 0 8 ++ (⟨#[48, 48, 48, 48, 48, 48, 48, 48]⟩ : ByteArray)) = (bytesOf s).take 8 ++ [48, 48, 48, 48, 48, 48, 48, 48] := by
      rw [bytes_append, bytes_extract, List.drop_zero]; rfl
    have e2 : bytesOf ((⟨#[102, 102, 102, 102, 102, 102, 102, 102]⟩ : ByteArray) ++ s.extract 8 s.size) = [102, 102, 102, 102, 102, 102, 102, 102] ++ (bytesOf s).drop 8 := by
      rw [bytes_append, bytes_extract, List.take_of_length_le (by rw [bytes_len]; omega)]; rfl
    have z1 : (s.extract 0 8).size = 8 := by rw [ByteArray.size_extract]; omega
    have z2 : (s.extract 8 s.size).size = 8 := by rw [ByteArray.size_extract]; omega
    have hI := implSumHead_ev (s.extract 0 8 ++ (⟨#[48, 48, 48, 48, 48, 48, 48, 48]⟩ : ByteArray)) (by rw [ByteArray.size_append, z1]; decide)
    rw [e1, shead_other _ _ ht8 rfl (fun x hx => hb.1 x (List.mem_of_mem_take hx)) (by decide), show hgo ((bytesOf s).take 8) 0 / 2 = shead (bytesOf s) by rw [hsh]; rfl] at hI
    have hJ := implSumHead_ev ((⟨#[102, 102, 102, 102, 102, 102, 102, 102]⟩ : ByteArray) ++ s.extract 8 s.size) (by rw [ByteArray.size_append, z2]; decide)
    rw [e2, shead_other _ _ rfl hd8 (by decide) (fun x hx => hb.1 x (List.mem_of_mem_drop hx)), show hgo [102, 102, 102, 102, 102, 102, 102, 102] 0 / 2 = 2147483647 by decide] at hJ
    refine Ev.step (f := fun k => (impl_SumHead.f k ((s.extract 0 8) ++ (⟨#[48, 48, 48, 48, 48, 48, 48, 48]⟩ : ByteArray))).bind fun t226 => (if t226 = shead (bytesOf s) then (if 8 + (s.extract 8 s.size).size ≤ 9223372036854775807 then ((impl_SumHead.f k ((⟨#[102, 102, 102, 102, 102, 102, 102, 102]⟩ : ByteArray) ++ (s.extract 8 s.size))).bind fun t227 => (some (t227 == 2147483647))) else (none)) else (some false))) (fun k => ?_) ?_
    · simp only [laws_FnSumHead.j0]
      rw [if_neg (by simp), if_pos (by rw [hsh]; exact hr.2), if_pos (by decide), if_pos (by omega), if_pos (by rw [z1]; decide)]
    · refine Ev.bind hI (Ev.ifp rfl (Ev.ifp (by rw [z2]; decide) (Ev.bind hJ ?_)))
      rw [show ((2147483647 : Int) == 2147483647) = true from by decide]
      exact Ev.now _

end Go.Proofs.Ytipmgmiooanghaa.Pure
