/- What is read as a head is written just so, in plain terms: the law's own function, over numbers and lists, answers true of every code. Conditions: none beyond those that the statement tells. -/
import Derived.Test.YtgjljbaadglpnaaDoorPFnHeadGetx18
import Derived.Test.YtgjljbaadglpnaaDoorPd
import Derived.Test.YtgjljbaadglpnaaDoorPc
namespace Go.Proofs.YtgjljbaadglpnaaDoor.Pure
open Go Go.RowKit Go.Proofs.YtgjljbaadglpnaaDoor.PFnHeadGet Go.Proofs.YtgjljbaadglpnaaDoorW.PrintWords Go.Proofs.YtgjljbaadglpnaaDoorW.PrintLast Go.Proofs.YtgjljbaadglpnaaDoorW.PrintMore Go.Proofs.YtgjljbaadglpnaaDoor.Pl
set_option linter.unusedVariables false

theorem specIn (a b c : Int) : spec_l1In.f a b c = some (decide (b ≤ a ∧ a ≤ c)) := by
  unfold spec_l1In.f
  by_cases h : a ≥ b
  · rw [if_pos h]; congr 1; exact decide_eq_decide.2 ⟨fun k => ⟨h, k⟩, fun k => k.2⟩
  · rw [if_neg h]; congr 1; exact (decide_eq_false (fun k => h k.1)).symm

theorem implIn (a b c : Int) : impl_in.f a b c = some (decide (b ≤ a ∧ a ≤ c)) := by
  unfold impl_in.f
  by_cases h : a ≥ b
  · rw [if_pos h]; congr 1; exact decide_eq_decide.2 ⟨fun k => ⟨h, k⟩, fun k => k.2⟩
  · rw [if_neg h]; congr 1; exact (decide_eq_false (fun k => h k.1)).symm

theorem specFigure (b : Int) : spec_l1Figure.f b = some (decide (48 ≤ b ∧ b ≤ 57)) := by
  unfold spec_l1Figure.f
  by_cases h : b ≥ 48
  · rw [if_pos h]; congr 1; exact decide_eq_decide.2 ⟨fun k => ⟨h, k⟩, fun k => k.2⟩
  · rw [if_neg h]; congr 1; exact (decide_eq_false (fun k => h k.1)).symm
theorem specIsSum_loop (s : ByteArray) (hs : s.size ≤ 140737488351232) (d : Nat) : ∀ i : Nat, i + d = s.size → Ev (fun k => spec_l1IsSum.l0 k s (i : Int)) (((bytesOf s).drop i).all hexd && decide (s.size = 16)) := by
  induction d with
  | zero =>
    intro i hi
    have hlt : ¬ (i : Int) < (s.size : Int) := by omega
    have e : ((s.size : Int) == 16) = decide (s.size = 16) := by rw [Bool.eq_iff_iff, beq_iff_eq, decide_eq_true_iff]; omega
    rw [List.drop_eq_nil_of_le (by rw [bytes_len]; omega), List.all_nil, Bool.true_and]
    refine Ev.step (f := fun _ => some (decide (s.size = 16))) (fun k => ?_) (Ev.now _)
    simp only [spec_l1IsSum.l0]; rw [if_neg hlt, e]
  | succ d ih =>
    intro i hi
    have hlt : (i : Int) < (s.size : Int) := by omega
    have h0 : (0 : Int) ≤ (i : Int) := by omega
    have hi1 : ((i + 1 : Nat) : Int) = (i : Int) + 1 := by omega
    have hd : i + 1 + d = s.size := by omega
    have his : i < s.size := by omega
    have hnx := ih (i + 1) hd
    rw [hi1] at hnx
    have hn : (∀ x, x = bt s (i : Int) → hexd x = true) ∨ (∀ x, x = bt s (i : Int) → hexd x = false) := by
      cases h : hexd (bt s (i : Int))
      · exact .inr fun x hx => by rw [hx]; exact h
      · exact .inl fun x hx => by rw [hx]; exact h
    have hw : wrap64 ((i : Int) + 1) = (i : Int) + 1 := w64 (by omega) (by omega)
    rw [bt_drop s i his, List.all_cons]
    by_cases hf : 48 ≤ bt s (i : Int) ∧ bt s (i : Int) ≤ 57
    · have hx : hexd (bt s (i : Int)) = true := (hexd_iff _).2 (.inl hf)
      rw [hx, Bool.true_and]
      refine Ev.step (f := fun k => spec_l1IsSum.l0 k s ((i : Int) + 1)) (fun k => ?_) hnx
      simp only [spec_l1IsSum.l0]; rw [if_pos hlt, if_pos h0, specFigure, decide_eq_true hf, Option.bind_some, if_pos rfl, hw]
    · by_cases hl : bt s (i : Int) < 97
      · have hx : hexd (bt s (i : Int)) = false := by rw [Bool.eq_false_iff]; intro h; rw [hexd_iff] at h; clear hw; omega
        rw [hx, Bool.false_and, Bool.false_and]
        refine Ev.step (f := fun _ => some false) (fun k => ?_) (Ev.now _)
        simp only [spec_l1IsSum.l0]; rw [if_pos hlt, if_pos h0, specFigure, decide_eq_false hf, Option.bind_some, if_neg (by simp), if_pos hl]
      · by_cases hg : bt s (i : Int) > 102
        · have hx : hexd (bt s (i : Int)) = false := by rw [Bool.eq_false_iff]; intro h; rw [hexd_iff] at h; clear hw; omega
          rw [hx, Bool.false_and, Bool.false_and]
          refine Ev.step (f := fun _ => some false) (fun k => ?_) (Ev.now _)
          simp only [spec_l1IsSum.l0]; rw [if_pos hlt, if_pos h0, specFigure, decide_eq_false hf, Option.bind_some, if_neg (by simp), if_neg hl, if_pos hg]
        · have hx : hexd (bt s (i : Int)) = true := by rw [hexd_iff]; clear hw; omega
          rw [hx, Bool.true_and]
          refine Ev.step (f := fun k => spec_l1IsSum.l0 k s ((i : Int) + 1)) (fun k => ?_) hnx
          simp only [spec_l1IsSum.l0]; rw [if_pos hlt, if_pos h0, specFigure, decide_eq_false hf, Option.bind_some, if_neg (by simp), if_neg hl, if_neg hg, hw]
theorem specIsSum_ev (s : ByteArray) (hs : s.size ≤ 140737488351232) : Ev (fun k => spec_l1IsSum.f k s) (sumB (bytesOf s)) := by
  have h := specIsSum_loop s hs s.size 0 (by omega)
  rw [List.drop_zero, Int.natCast_zero] at h
  unfold spec_l1IsSum.f sumB
  rw [bytes_len]
  exact h

theorem implIsSum_loop (s : ByteArray) (hs : s.size ≤ 140737488351232) (d : Nat) : ∀ i : Nat, i + d = s.size → Ev (fun k => impl_isSum.l0 k s (i : Int)) (((bytesOf s).drop i).all hexd && decide (s.size = 16)) := by
  induction d with
  | zero =>
    intro i hi
    have hlt : ¬ (i : Int) < (s.size : Int) := by omega
    have e : ((s.size : Int) == 16) = decide (s.size = 16) := by rw [Bool.eq_iff_iff, beq_iff_eq, decide_eq_true_iff]; omega
    rw [List.drop_eq_nil_of_le (by rw [bytes_len]; omega), List.all_nil, Bool.true_and]
    refine Ev.step (f := fun _ => some (decide (s.size = 16))) (fun k => ?_) (Ev.now _)
    simp only [impl_isSum.l0]; rw [if_neg hlt, e]
  | succ d ih =>
    intro i hi
    have hlt : (i : Int) < (s.size : Int) := by omega
    have h0 : (0 : Int) ≤ (i : Int) := by omega
    have hi1 : ((i + 1 : Nat) : Int) = (i : Int) + 1 := by omega
    have hd : i + 1 + d = s.size := by omega
    have his : i < s.size := by omega
    have hnx := ih (i + 1) hd
    rw [hi1] at hnx
    have hr := bt_range s (i : Int)
    have hb : wrap64 (bt s (i : Int)) = bt s (i : Int) := w64 (by omega) (by omega)
    have hw : wrap64 ((i : Int) + 1) = (i : Int) + 1 := w64 (by clear hb; omega) (by clear hb; omega)
    rw [bt_drop s i his, List.all_cons]
    by_cases hf : 48 ≤ bt s (i : Int) ∧ bt s (i : Int) ≤ 57
    · have hx : hexd (bt s (i : Int)) = true := (hexd_iff _).2 (.inl hf)
      rw [hx, Bool.true_and]
      refine Ev.step (f := fun k => impl_isSum.l0 k s ((i : Int) + 1)) (fun k => ?_) hnx
      simp only [impl_isSum.l0]; rw [if_pos hlt, if_pos h0, implIn, hb, decide_eq_true hf, Option.bind_some, if_pos rfl, hw]
    · by_cases hl : 97 ≤ bt s (i : Int) ∧ bt s (i : Int) ≤ 102
      · have hx : hexd (bt s (i : Int)) = true := (hexd_iff _).2 (.inr hl)
        rw [hx, Bool.true_and]
        refine Ev.step (f := fun k => impl_isSum.l0 k s ((i : Int) + 1)) (fun k => ?_) hnx
        simp only [impl_isSum.l0]; rw [if_pos hlt, if_pos h0, implIn, hb, decide_eq_false hf, Option.bind_some, if_neg (by simp), implIn, decide_eq_true hl, Option.bind_some, if_pos rfl, hw]
      · have hx : hexd (bt s (i : Int)) = false := by rw [Bool.eq_false_iff]; intro h; rw [hexd_iff] at h; clear hw hb; omega
        rw [hx, Bool.false_and, Bool.false_and]
        refine Ev.step (f := fun _ => some false) (fun k => ?_) (Ev.now _)
        simp only [impl_isSum.l0]; rw [if_pos hlt, if_pos h0, implIn, hb, decide_eq_false hf, Option.bind_some, if_neg (by simp), implIn, decide_eq_false hl, Option.bind_some, if_neg (by simp)]
theorem implIsSum_ev (s : ByteArray) (hs : s.size ≤ 140737488351232) : Ev (fun k => impl_isSum.f k s) (sumB (bytesOf s)) := by
  have h := implIsSum_loop s hs s.size 0 (by omega)
  rw [List.drop_zero, Int.natCast_zero] at h
  unfold impl_isSum.f sumB
  rw [bytes_len]
  exact h

theorem fig_mod {b : Int} (h : hexd b = true) (h0 : 0 ≤ b) (h1 : b ≤ 255) (hg : b ≥ 97) : (b - 97) % 256 + 10 = hx b := by
  unfold hx; rw [if_pos hg]; omega
theorem fig_mod' {b : Int} (h : hexd b = true) (h0 : 0 ≤ b) (h1 : b ≤ 255) (hg : ¬ b ≥ 97) : (b - 48) % 256 = hx b := by
  rw [hexd_iff] at h; unfold hx; rw [if_neg hg]; omega
theorem specHead_loop (s : ByteArray) (hs : s.size ≤ 140737488351232) (h8 : 8 ≤ s.size) (hx_ : ∀ x ∈ bytesOf s, hexd x = true) (d : Nat) : ∀ (i : Nat) (n : Int), i + d = 8 → 0 ≤ n → n < 16 ^ i →
    Ev (fun k => spec_l1Head.l0 k s n (i : Int)) (hgo (((bytesOf s).take 8).drop i) n / 2) := by
  induction d with
  | zero =>
    intro i n hi h0 h1
    have hlt : ¬ (i : Int) < 8 := by omega
    obtain rfl : i = 8 := by omega
    have hp := pow16 8 (by omega)
    have e : wrap64 (Int.tdiv n 2) = n / 2 := by rw [Int.tdiv_eq_ediv_of_nonneg h0]; exact w64 (by omega) (by omega)
    rw [List.drop_eq_nil_of_le (by rw [List.length_take]; omega)]
    refine Ev.step (f := fun _ => some (n / 2)) (fun k => ?_) (Ev.now _)
    simp only [spec_l1Head.l0]; rw [if_neg hlt, e]
  | succ d ih =>
    intro i n hi h0 h1
    have hlt : (i : Int) < 8 := by omega
    have hi0 : (0 : Int) ≤ (i : Int) := by omega
    have his : (i : Int) < (s.size : Int) := by omega
    have hisn : i < s.size := by omega
    have hi1 : ((i + 1 : Nat) : Int) = (i : Int) + 1 := by omega
    have hd : i + 1 + d = 8 := by omega
    have hp := pow16 i (by omega)
    have hr := bt_range s (i : Int)
    have hxb : hexd (bt s (i : Int)) = true := hx_ _ (by rw [bt_nat s i hisn]; exact List.getElem_mem _)
    have hxr := hx_range hxb
    have hst := hgo_step h0 h1 hxr.1 hxr.2
    have hnx := ih (i + 1) _ hd hst.1 hst.2
    rw [hi1] at hnx
    have e : ((bytesOf s).take 8).drop i = bt s (i : Int) :: ((bytesOf s).take 8).drop (i + 1) := by
      have hl : i < ((bytesOf s).take 8).length := by rw [List.length_take, bytes_len]; omega
      rw [List.drop_eq_getElem_cons hl, List.getElem_take, bt_nat s i hisn]
    have w1 : wrap64 (n * 16) = 16 * n := by rw [Int.mul_comm]; exact w64 (by omega) (by omega)
    have w2 : wrap64 (16 * n + hx (bt s (i : Int))) = 16 * n + hx (bt s (i : Int)) := by clear w1; exact w64 (by omega) (by omega)
    have hw : wrap64 ((i : Int) + 1) = (i : Int) + 1 := by clear w1 w2; exact w64 (by omega) (by omega)
    rw [e]
    unfold hgo
    refine Ev.step (f := fun k => spec_l1Head.l0 k s (16 * n + hx (bt s (i : Int))) ((i : Int) + 1)) (fun k => ?_) hnx
    simp only [spec_l1Head.l0]
    rw [if_pos hlt, if_pos hi0, if_pos his]
    by_cases hg : bt s (i : Int) ≥ 97
    · rw [if_pos hg, fig_mod hxb hr.1 hr.2 hg, w1, w2, hw]
    · rw [if_neg hg, fig_mod' hxb hr.1 hr.2 hg, w1, w2, hw]
theorem specHead_ev (s : ByteArray) (hs : s.size ≤ 140737488351232) (h8 : 8 ≤ s.size) (hx_ : ∀ x ∈ bytesOf s, hexd x = true) : Ev (fun k => spec_l1Head.f k s) (head31 (bytesOf s)) := by
  have h := specHead_loop s hs h8 hx_ 8 0 0 (by omega) (by omega) (by omega)
  rw [List.drop_zero, Int.natCast_zero] at h
  unfold spec_l1Head.f head31
  exact h

def headB (p r : ByteArray) (t d n : Int) : Bool := sumB (bytesOf p) && (sumB (bytesOf r) && (decide (0 ≤ t ∧ t ≤ 99999) && (decide (1 ≤ d ∧ d ≤ 8) && decide (0 ≤ n ∧ n ≤ 400))))
theorem headB_iff (p r : ByteArray) (t d n : Int) : headB p r t d n = true ↔ sumB (bytesOf p) = true ∧ sumB (bytesOf r) = true ∧ (0 ≤ t ∧ t ≤ 99999) ∧ (1 ≤ d ∧ d ≤ 8) ∧ (0 ≤ n ∧ n ≤ 400) := by
  unfold headB
  rw [Bool.and_eq_true, Bool.and_eq_true, Bool.and_eq_true, Bool.and_eq_true, decide_eq_true_iff, decide_eq_true_iff, decide_eq_true_iff]
theorem headB_size {p r : ByteArray} {t d n : Int} (h : headB p r t d n = true) : p.size = 16 ∧ r.size = 16 := by
  have h1 := (headB_iff p r t d n).1 h
  have h2 := ((sumB_iff _).1 h1.1).2
  have h3 := ((sumB_iff _).1 h1.2.1).2
  rw [bytes_len] at h2 h3
  exact ⟨h2, h3⟩
def headS (p r : ByteArray) (t d n : Int) : ByteArray := (((((((p ++ (⟨#[32]⟩ : ByteArray)) ++ r) ++ (⟨#[32]⟩ : ByteArray)) ++ decS t) ++ (⟨#[32]⟩ : ByteArray)) ++ decS d) ++ (⟨#[32]⟩ : ByteArray)) ++ decS n
def headPut (p r : ByteArray) (t d n : Int) : ByteArray := if headB p r t d n = true then headS p r t d n else (⟨#[]⟩ : ByteArray)
theorem headPut_pos {p r : ByteArray} {t d n : Int} (h : headB p r t d n = true) : headPut p r t d n = headS p r t d n := if_pos h
theorem headPut_neg {p r : ByteArray} {t d n : Int} (h : ¬ headB p r t d n = true) : headPut p r t d n = (⟨#[]⟩ : ByteArray) := if_neg h
theorem one_size (c : UInt8) : (⟨#[c]⟩ : ByteArray).size = 1 := rfl
theorem specOk_ev (p r : ByteArray) (t d n : Int) (hp : p.size ≤ 140737488351232) (hr : r.size ≤ 140737488351232) : Ev (fun k => spec_l3Ok.f k p r t d n) (headB p r t d n) := by
  unfold spec_l3Ok.f headB
  refine Ev.bind (specIsSum_ev p hp) ?_
  by_cases h1 : sumB (bytesOf p) = true
  · rw [h1]
    refine Ev.ifp rfl (Ev.bind (specIsSum_ev r hr) ?_)
    by_cases h2 : sumB (bytesOf r) = true
    · rw [h2]
      refine Ev.ifp rfl (Ev.b (specIn t 0 99999) ?_)
      by_cases h3 : 0 ≤ t ∧ t ≤ 99999
      · rw [decide_eq_true h3]
        refine Ev.ifp rfl (Ev.b (specIn d 1 8) ?_)
        by_cases h4 : 1 ≤ d ∧ d ≤ 8
        · rw [decide_eq_true h4]
          exact Ev.ifp rfl (Ev.b (specIn n 0 400) (Ev.now _))
        · rw [decide_eq_false h4]
          exact Ev.ifn (by simp) (Ev.now _)
      · rw [decide_eq_false h3]
        exact Ev.ifn (by simp) (Ev.now _)
    · rw [Bool.eq_false_iff.2 h2]
      exact Ev.ifn (by simp) (Ev.now _)
  · rw [Bool.eq_false_iff.2 h1]
    exact Ev.ifn (by simp) (Ev.now _)
theorem implOk_ev (p r : ByteArray) (t d n : Int) (hp : p.size ≤ 140737488351232) (hr : r.size ≤ 140737488351232) : Ev (fun k => impl_headOk.f k p r t d n) (headB p r t d n) := by
  unfold impl_headOk.f headB
  refine Ev.bind (implIsSum_ev p hp) ?_
  by_cases h1 : sumB (bytesOf p) = true
  · rw [h1]
    refine Ev.ifp rfl (Ev.bind (implIsSum_ev r hr) ?_)
    by_cases h2 : sumB (bytesOf r) = true
    · rw [h2]
      refine Ev.ifp rfl (Ev.b (implIn t 0 99999) ?_)
      by_cases h3 : 0 ≤ t ∧ t ≤ 99999
      · rw [decide_eq_true h3]
        refine Ev.ifp rfl (Ev.b (implIn d 1 8) ?_)
        by_cases h4 : 1 ≤ d ∧ d ≤ 8
        · rw [decide_eq_true h4]
          exact Ev.ifp rfl (Ev.b (implIn n 0 400) (Ev.now _))
        · rw [decide_eq_false h4]
          exact Ev.ifn (by simp) (Ev.now _)
      · rw [decide_eq_false h3]
        exact Ev.ifn (by simp) (Ev.now _)
    · rw [Bool.eq_false_iff.2 h2]
      exact Ev.ifn (by simp) (Ev.now _)
  · rw [Bool.eq_false_iff.2 h1]
    exact Ev.ifn (by simp) (Ev.now _)
theorem specDec_ev (n : Nat) : (n : Int) ≤ 1000000000000 → Ev (fun k => spec_l1Dec.f k (n : Int)) (decS (n : Int)) := by
  induction n using Nat.strongRecOn with
  | ind n ih =>
    intro hn
    by_cases h : n < 10
    · refine Ev.step (f := fun _ => some (strOfNums [(((48 + n : Nat)) : Int)])) (fun k => ?_) (Ev.at_ (Ev.now _) (by unfold decS; rw [Int.toNat_natCast, decI_lt h]))
      simp only [spec_l1Dec.f]
      rw [if_neg (by omega), if_neg (by omega), if_pos (by omega), w64 (by omega) (by omega), show ((48 : Int) + (n : Int)) % 256 = ((48 + n : Nat) : Int) by omega]
    · have hs : (decS ((n / 10 : Nat) : Int)).size ≤ 13 := decS_size 12 (by omega)
      refine Ev.step (f := fun k => (spec_l1Dec.f k ((n / 10 : Nat) : Int)).bind fun t => (some ([((48 + n % 10 : Nat) : Int)] : List Int)).bind fun y => if t.size + (strOfNums y).size ≤ 9223372036854775807 then some (t ++ strOfNums y) else none) (fun k => ?_) (Ev.bind (ih (n / 10) (by omega) (by omega)) (Ev.b rfl (Ev.ifp (by rw [str_size, List.length_singleton]; omega) (Ev.at_ (Ev.now _) (decS_ge h).symm))))
      simp only [spec_l1Dec.f]
      rw [if_neg (by omega), if_neg (by omega), if_neg (by omega), show wrap64 (Int.tdiv (n : Int) 10) = ((n / 10 : Nat) : Int) by rw [Int.tdiv_eq_ediv_of_nonneg (by omega), w64 (by omega) (by omega)]; omega,
        show (wrap64 (48 + Int.tmod (n : Int) 10)) % 256 = ((48 + n % 10 : Nat) : Int) by rw [Int.tmod_eq_emod_of_nonneg (by omega), w64 (by omega) (by omega)]; omega]
theorem specDec {n : Int} (h0 : 0 ≤ n) (h1 : n ≤ 1000000000000) : Ev (fun k => spec_l1Dec.f k n) (decS n) := by
  obtain ⟨m, rfl⟩ := Int.eq_ofNat_of_zero_le h0
  exact specDec_ev m h1
theorem dec_small {n : Int} (h : n ≤ 99999) : (decS n).size ≤ 5 := decS_size 4 (by omega)
theorem specHeadS_ev {p r : ByteArray} {t d n : Int} (h : headB p r t d n = true) : Ev (fun k => spec_l3Put.f k p r t d n) (headS p r t d n) := by
  have hs := headB_size h
  have h1 := (headB_iff p r t d n).1 h
  have ht := dec_small (n := t) (by omega)
  have hd := dec_small (n := d) (by omega)
  have hn := dec_small (n := n) (by omega)
  unfold spec_l3Put.f
  refine Ev.ifp (by omega) (Ev.ifp (by rw [ByteArray.size_append, one_size]; omega) (Ev.ifp (by simp only [ByteArray.size_append, one_size]; omega) (Ev.bind (specDec (n := t) (by omega) (by omega)) (Ev.ifp (by simp only [ByteArray.size_append, one_size]; omega) (Ev.ifp (by simp only [ByteArray.size_append, one_size]; omega) (Ev.bind (specDec (n := d) (by omega) (by omega)) (Ev.ifp (by simp only [ByteArray.size_append, one_size]; omega) (Ev.ifp (by simp only [ByteArray.size_append, one_size]; omega) (Ev.bind (specDec (n := n) (by omega) (by omega)) (Ev.ifp (by simp only [ByteArray.size_append, one_size]; omega) (Ev.now _)))))))))))

theorem cutN_mem (b : Int) : ∀ (xs : List Int) (m : Nat), ∀ p ∈ cutN b xs m, ∀ x ∈ p, x ∈ xs
  | [], m, p, hp, x, hx => by
    rw [cutN, List.mem_singleton] at hp
    rw [hp] at hx; exact hx
  | y :: xs, 0, p, hp, x, hx => by
    rw [cutN, List.mem_singleton] at hp
    rw [hp] at hx; exact hx
  | y :: xs, m + 1, p, hp, x, hx => by
    rw [cutN] at hp
    by_cases h : y = b
    · rw [if_pos h] at hp
      rcases List.mem_cons.1 hp with rfl | hp
      · cases hx
      · exact List.mem_cons_of_mem _ (cutN_mem b xs m p hp x hx)
    · rw [if_neg h] at hp
      have ih := cutN_mem b xs (m + 1)
      revert hp ih
      rcases hc : cutN b xs (m + 1) with _ | ⟨q, qs⟩
      · exact absurd hc (cutN_ne b xs (m + 1))
      · intro hp ih
        rw [addH] at hp
        rcases List.mem_cons.1 hp with rfl | hp
        · rcases List.mem_cons.1 hx with rfl | hx
          · exact List.mem_cons_self
          · exact List.mem_cons_of_mem _ (ih q List.mem_cons_self x hx)
        · exact List.mem_cons_of_mem _ (ih p (List.mem_cons_of_mem _ hp) x hx)
theorem cutN_le (b : Int) : ∀ (xs : List Int) (m : Nat), ∀ p ∈ cutN b xs m, p.length ≤ xs.length
  | [], m, p, hp => by
    rw [cutN, List.mem_singleton] at hp
    rw [hp]; exact Nat.le_refl _
  | y :: xs, 0, p, hp => by
    rw [cutN, List.mem_singleton] at hp
    rw [hp]; exact Nat.le_refl _
  | y :: xs, m + 1, p, hp => by
    rw [cutN] at hp
    rw [List.length_cons]
    by_cases h : y = b
    · rw [if_pos h] at hp
      rcases List.mem_cons.1 hp with rfl | hp
      · exact Nat.zero_le _
      · have := cutN_le b xs m p hp; omega
    · rw [if_neg h] at hp
      have ih := cutN_le b xs (m + 1)
      revert hp ih
      rcases hc : cutN b xs (m + 1) with _ | ⟨q, qs⟩
      · exact absurd hc (cutN_ne b xs (m + 1))
      · intro hp ih
        rw [addH] at hp
        rcases List.mem_cons.1 hp with rfl | hp
        · have := ih q List.mem_cons_self; rw [List.length_cons]; omega
        · have := ih p (List.mem_cons_of_mem _ hp); omega
def cutS (c : Int) (s : ByteArray) (m : Nat) : List ByteArray := (cutN c (bytesOf s) m).map strOfNums
theorem cutS_len (c : Int) (s : ByteArray) (m : Nat) : (cutS c s m).length = min m (cntB c (bytesOf s)) + 1 := by
  unfold cutS; rw [List.length_map, cutN_len]
theorem cutS_size (c : Int) (s : ByteArray) (m : Nat) : ∀ p ∈ cutS c s m, p.size ≤ s.size := by
  intro p hp
  obtain ⟨q, hq, rfl⟩ := List.mem_map.1 hp
  rw [str_size, ← bytes_len]
  exact cutN_le c _ m q hq
theorem cutS_bytes (c : Int) (s : ByteArray) (m : Nat) : (cutS c s m).map bytesOf = cutN c (bytesOf s) m := by
  unfold cutS
  rw [List.map_map]
  conv => rhs; rw [← List.map_id (cutN c (bytesOf s) m)]
  refine List.map_congr_left fun p hp => ?_
  exact bytes_str _ (fun x hx => bytes_nn s x (cutN_mem c _ m p hp x hx))
theorem rdOf_size (l : List ByteArray) (n : Nat) (h : ∀ p ∈ l, p.size ≤ n) (i : Int) : (rdOf ByteArray.empty l i).size ≤ n := by
  unfold rdOf
  rw [List.getD_eq_getElem?_getD]
  rcases hc : l[i.toNat]? with _ | p
  · exact Nat.zero_le _
  · exact h p (List.mem_of_getElem? hc)
theorem extract_seg (s : ByteArray) (a b : Nat) : s.extract a b = strOfNums (((bytesOf s).drop a).take (b - a)) := by
  rw [str_extract, List.drop_take]
theorem specCut_end (s : ByteArray) (hs : s.size ≤ 1000000000) (b most : Int) (out : List ByteArray) (f i : Nat) (hf : f ≤ s.size) (ho : out.length ≤ s.size) : Ev (fun k => spec_l1Cut.j1 k s b most out (f : Int) (i : Int) false) (out ++ [strOfNums ((bytesOf s).drop f)]) := by
  have e : s.extract ((f : Int)).toNat s.size = strOfNums ((bytesOf s).drop f) := by
    rw [Int.toNat_natCast, extract_seg, List.take_of_length_le (by rw [List.length_drop, bytes_len]; exact Nat.le_refl _)]
  refine Ev.step (f := fun _ => some (out ++ [strOfNums ((bytesOf s).drop f)])) (fun k => ?_) (Ev.now _)
  simp only [spec_l1Cut.j1]
  rw [if_neg (by simp), if_pos (by omega), if_pos (by omega), if_pos (by omega), e]
theorem specCut_loop (s : ByteArray) (hs : s.size ≤ 1000000000) (b most : Int) : ∀ (d i f : Nat) (out : List ByteArray), i + d = s.size → f ≤ i → out.length ≤ f →
    Ev (fun k => spec_l1Cut.l0 k s b most out (f : Int) (i : Int)) (out ++ (addL (((bytesOf s).drop f).take (i - f)) (cutN b ((bytesOf s).drop i) (most - (out.length : Int)).toNat)).map strOfNums)
  | 0, i, f, out, h, hf, ho => by
    refine Ev.step (f := fun k => spec_l1Cut.j1 k s b most out (f : Int) (i : Int) false) (fun k => by simp only [spec_l1Cut.l0]; rw [if_neg (by omega)]) (Ev.at_ (specCut_end s hs b most out f i (by omega) (by omega)) ?_)
    have e0 : (bytesOf s).drop i = [] := List.drop_eq_nil_of_le (by rw [bytes_len]; omega)
    rw [e0, List.take_of_length_le (by rw [List.length_drop, bytes_len]; omega), cutN, addL, List.append_nil, List.map_cons, List.map_nil]
  | d + 1, i, f, out, h, hf, ho => by
    have hi : i < s.size := by omega
    have hd := bt_drop s i hi
    have hseg : ((bytesOf s).drop f).take (i - f) ++ (bytesOf s).drop i = (bytesOf s).drop f := by
      conv => rhs; rw [← List.take_append_drop (i - f) ((bytesOf s).drop f)]
      rw [List.drop_drop, show f + (i - f) = i by omega]
    have e1 : ((i + 1 : Nat) : Int) = (i : Int) + 1 := by omega
    by_cases hm : (out.length : Int) < most
    · obtain ⟨m, hm1⟩ : ∃ m, (most - (out.length : Int)).toNat = m + 1 := ⟨(most - (out.length : Int)).toNat - 1, by omega⟩
      have hm2 : (most - ((out.length + 1 : Nat) : Int)).toNat = m := by omega
      refine Ev.step (f := fun k => spec_l1Cut.j1 k s b most out (f : Int) (i : Int) true) (fun k => by simp only [spec_l1Cut.l0]; rw [if_pos (by omega), decide_eq_true hm]) ?_
      rw [hd, hm1, cutN]
      by_cases hb : bt s (i : Int) = b
      · rw [if_pos hb]
        have ih := specCut_loop s hs b most d (i + 1) (i + 1) (out ++ [s.extract f i]) (by omega) (Nat.le_refl _) (by rw [List.length_append, List.length_singleton]; omega)
        rw [List.length_append, List.length_singleton, hm2, Nat.sub_self, List.take_zero, addL_nil _ (cutN_ne _ _ _), e1] at ih
        refine Ev.step (f := fun k => spec_l1Cut.l0 k s b most (out ++ [s.extract f i]) ((i : Int) + 1) ((i : Int) + 1)) (fun k => ?_) (Ev.at_ ih ?_)
        · simp only [spec_l1Cut.j1]
          rw [if_pos trivial, if_pos (by omega), if_pos (by omega), if_pos hb, if_pos (by omega), if_pos (by omega), if_pos (by omega), if_pos (by omega), w64 (by omega) (by omega), Int.toNat_natCast, Int.toNat_natCast]
        · rw [addL, List.append_nil, List.map_cons, extract_seg, List.append_assoc]; rfl
      · rw [if_neg hb]
        have ih := specCut_loop s hs b most d (i + 1) f out (by omega) (by omega) ho
        rw [hm1, e1] at ih
        refine Ev.step (f := fun k => spec_l1Cut.l0 k s b most out (f : Int) ((i : Int) + 1)) (fun k => ?_) (Ev.at_ ih ?_)
        · simp only [spec_l1Cut.j1]
          rw [if_pos trivial, if_pos (by omega), if_pos (by omega), if_neg hb, w64 (by omega) (by omega)]
        · rw [addL_addH]
          congr 3
          rw [show i + 1 - f = (i - f) + 1 by omega, List.take_add_one, List.getElem?_drop, show f + (i - f) = i by omega]
          congr 1
          have := congrArg (fun l => l[0]?) hd
          simp only [List.getElem?_drop, Nat.add_zero, List.getElem?_cons_zero] at this
          rw [this]; rfl
    · refine Ev.step (f := fun k => spec_l1Cut.j1 k s b most out (f : Int) (i : Int) false) (fun k => by simp only [spec_l1Cut.l0]; rw [if_pos (by omega), decide_eq_false hm]) (Ev.at_ (specCut_end s hs b most out f i (by omega) (by omega)) ?_)
      rw [show (most - (out.length : Int)).toNat = 0 by omega, hd, cutN, addL, List.map_cons, List.map_nil, ← hd, hseg]
theorem specCut_ev (s : ByteArray) (hs : s.size ≤ 1000000000) (b : Int) (m : Nat) : Ev (fun k => spec_l1Cut.f k s b (m : Int)) (cutS b s m) := by
  have h := specCut_loop s hs b (m : Int) s.size 0 0 [] (by omega) (Nat.le_refl _) (Nat.zero_le _)
  rw [List.drop_zero, Nat.sub_self, List.take_zero, addL_nil _ (cutN_ne _ _ _), List.nil_append, List.length_nil, Int.natCast_zero, Int.sub_zero, Int.toNat_natCast] at h
  unfold spec_l1Cut.f
  exact h
theorem figs {s : ByteArray} {i : Nat} (hi : i < s.size) {q : Int → Prop} (h : ∀ x ∈ (bytesOf s).take i, q x) (h1 : q (bt s (i : Int))) : ∀ x ∈ (bytesOf s).take (i + 1), q x := by
  rw [bt_take s i hi]
  intro x hx
  rcases List.mem_append.1 hx with hx | hx
  · exact h x hx
  · rw [List.mem_singleton.1 hx]; exact h1
theorem numS_not {s : ByteArray} (h : ¬ numB (bytesOf s) = true) : numS s = -1 := if_neg h
theorem numS_is {s : ByteArray} (h : numB (bytesOf s) = true) : numS s = nval 0 (bytesOf s) := if_pos h
theorem bt_mem {s : ByteArray} {i : Nat} (hi : i < s.size) : bt s (i : Int) ∈ bytesOf s := by
  rw [bt_nat s i hi]; exact List.getElem_mem _
theorem num_step {s : ByteArray} {i : Nat} (hi : i < s.size) (h9 : i ≤ 9) {n : Int} (hn : n = nval 0 ((bytesOf s).take i)) (hd : ∀ x ∈ (bytesOf s).take i, 48 ≤ x ∧ x ≤ 57) (hb : 48 ≤ bt s (i : Int) ∧ bt s (i : Int) ≤ 57) :
    10 * n + (bt s (i : Int) - 48) = nval 0 ((bytesOf s).take (i + 1)) ∧ 0 ≤ n ∧ n < 1000000000 := by
  have h2 := nval_lt ((bytesOf s).take i) 0 0 hd (by omega) (by omega)
  have h3 := pow10_9 (0 + ((bytesOf s).take i).length) (by rw [List.length_take]; omega)
  rw [bt_take s i hi, nval_app, hn]
  exact ⟨rfl, h2.1, by omega⟩
theorem specNum_loop (s : ByteArray) (hs : s.size ≤ 1000000000) : ∀ (d i : Nat) (n : Int), i + d = s.size → i ≤ 9 → (∀ x ∈ (bytesOf s).take i, 48 ≤ x ∧ x ≤ 57) → n = nval 0 ((bytesOf s).take i) → Ev (fun k => spec_l1Num.l0 k s n (i : Int)) (numS s)
  | 0, i, n, h, h9, hd, hn => by
    have ht : (bytesOf s).take i = bytesOf s := List.take_of_length_le (by rw [bytes_len]; omega)
    rw [ht] at hd hn
    by_cases h0 : s.size = 0
    · rw [numS_not (fun c => by have := ((numB_iff _).1 c).1; rw [bytes_len] at this; omega)]
      refine Ev.step (f := fun _ => some (-1)) (fun k => ?_) (Ev.now _)
      simp only [spec_l1Num.l0]
      rw [if_neg (by omega), if_pos (by omega)]
    · have hg : bt s 0 = (bytesOf s).getD 0 0 := bt_get s 0
      by_cases h1 : s.size > 1
      · by_cases h2 : bt s 0 = 48
        · rw [numS_not (fun c => by have := ((numB_iff _).1 c).2.2; rw [bytes_len] at this; rcases this with h | h; omega; exact h (hg ▸ h2))]
          refine Ev.step (f := fun _ => some (-1)) (fun k => ?_) (Ev.now _)
          simp only [spec_l1Num.l0]
          rw [if_neg (by omega), if_neg (by omega), if_pos (by omega), if_pos (by omega), if_pos h2]
        · rw [numS_is ((numB_iff _).2 ⟨by rw [bytes_len]; omega, hd, .inr (hg ▸ h2)⟩), ← hn]
          refine Ev.step (f := fun _ => some n) (fun k => ?_) (Ev.now _)
          simp only [spec_l1Num.l0]
          rw [if_neg (by omega), if_neg (by omega), if_pos (by omega), if_pos (by omega), if_neg h2]
      · rw [numS_is ((numB_iff _).2 ⟨by rw [bytes_len]; omega, hd, .inl (by rw [bytes_len]; omega)⟩), ← hn]
        refine Ev.step (f := fun _ => some n) (fun k => ?_) (Ev.now _)
        simp only [spec_l1Num.l0]
        rw [if_neg (by omega), if_neg (by omega), if_neg (by omega)]
  | d + 1, i, n, h, h9, hd, hn => by
    have hi : i < s.size := by omega
    by_cases hb : 48 ≤ bt s (i : Int) ∧ bt s (i : Int) ≤ 57
    · by_cases h8 : i ≥ 9
      · rw [numS_not (fun c => by have := ((numB_iff _).1 c).1; rw [bytes_len] at this; omega)]
        refine Ev.step (f := fun _ => some (-1)) (fun k => ?_) (Ev.now _)
        simp only [spec_l1Num.l0]
        rw [if_pos (by omega), if_pos (by omega), specFigure, Option.bind_some, if_pos (decide_eq_true hb), if_pos (by omega)]
      · obtain ⟨s1, s2, s3⟩ := num_step hi h9 hn hd hb
        refine Ev.step (f := fun k => spec_l1Num.l0 k s (10 * n + (bt s (i : Int) - 48)) ((i + 1 : Nat) : Int)) (fun k => ?_) (specNum_loop s hs d (i + 1) _ (by omega) (by omega) (figs hi hd hb) s1)
        simp only [spec_l1Num.l0]
        rw [if_pos (by omega), if_pos (by omega), specFigure, Option.bind_some, if_pos (decide_eq_true hb), if_neg (by omega), w64 (i := n * 10) (by omega) (by omega), show (bt s (i : Int) - 48) % 256 = bt s (i : Int) - 48 by omega, w64 (by omega) (by omega), w64 (by omega) (by omega), Int.mul_comm n 10]
        rfl
    · rw [numS_not (fun c => hb (((numB_iff _).1 c).2.1 _ (bt_mem hi)))]
      refine Ev.step (f := fun _ => some (-1)) (fun k => ?_) (Ev.now _)
      simp only [spec_l1Num.l0]
      rw [if_pos (by omega), if_pos (by omega), specFigure, Option.bind_some, if_neg (by rw [decide_eq_true_iff]; exact hb)]
theorem specNum_ev (s : ByteArray) (hs : s.size ≤ 1000000000) : Ev (fun k => spec_l1Num.f k s) (numS s) := by
  unfold spec_l1Num.f
  exact specNum_loop s hs s.size 0 0 (by omega) (by omega) (fun x hx => by rw [List.take_zero] at hx; cases hx) rfl
def numP (s : ByteArray) : Int × Bool := if numB (bytesOf s) = true then (nval 0 (bytesOf s), true) else (0, false)
theorem implNum_loop (s : ByteArray) (h1 : s.size ≤ 9) (hp : 1 ≤ s.size) (hz : s.size ≤ 1 ∨ (bytesOf s).getD 0 0 ≠ 48) : ∀ (d i : Nat) (n : Int), i + d = s.size → (∀ x ∈ (bytesOf s).take i, 48 ≤ x ∧ x ≤ 57) → n = nval 0 ((bytesOf s).take i) → Ev (fun k => impl_number.l0 k s n (i : Int)) (numP s)
  | 0, i, n, h, hd, hn => by
    have ht : (bytesOf s).take i = bytesOf s := List.take_of_length_le (by rw [bytes_len]; omega)
    rw [ht] at hd hn
    unfold numP
    rw [if_pos ((numB_iff _).2 ⟨by rw [bytes_len]; omega, hd, by rw [bytes_len]; exact hz⟩), ← hn]
    refine Ev.step (f := fun _ => some (n, true)) (fun k => ?_) (Ev.now _)
    simp only [impl_number.l0]
    rw [if_neg (by omega)]
  | d + 1, i, n, h, hd, hn => by
    have hi : i < s.size := by omega
    have hr := bt_range s (i : Int)
    by_cases hb : 48 ≤ bt s (i : Int) ∧ bt s (i : Int) ≤ 57
    · obtain ⟨s1, s2, s3⟩ := num_step hi (by omega) hn hd hb
      refine Ev.step (f := fun k => impl_number.l0 k s (10 * n + (bt s (i : Int) - 48)) ((i + 1 : Nat) : Int)) (fun k => ?_) (implNum_loop s h1 hp hz d (i + 1) _ (by omega) (figs hi hd hb) s1)
      simp only [impl_number.l0]
      rw [if_pos (by omega), if_pos (by omega), w64 (i := bt s (i : Int)) (by omega) (by omega), implIn, Option.bind_some, if_pos (decide_eq_true hb), w64 (i := 10 * n) (by omega) (by omega), show (bt s (i : Int) - 48) % 256 = bt s (i : Int) - 48 by omega, w64 (by omega) (by omega), w64 (by omega) (by omega)]
      rfl
    · unfold numP
      rw [if_neg (fun c => hb (((numB_iff _).1 c).2.1 _ (bt_mem hi)))]
      refine Ev.step (f := fun _ => some (0, false)) (fun k => ?_) (Ev.now _)
      simp only [impl_number.l0]
      rw [if_pos (by omega), if_pos (by omega), w64 (i := bt s (i : Int)) (by omega) (by omega), implIn, Option.bind_some, if_neg (by rw [decide_eq_true_iff]; exact hb)]
theorem implNum_ev (s : ByteArray) (hs : s.size ≤ 1000000000) : Ev (fun k => impl_number.f k s) (numP s) := by
  have bad : ¬ numB (bytesOf s) = true → Ev (fun k => impl_number.j0 k s true) (numP s) := fun c => by
    unfold numP
    rw [if_neg c]
    refine Ev.step (f := fun _ => some (0, false)) (fun k => ?_) (Ev.now _)
    simp only [impl_number.j0]
    rw [if_pos trivial]
  have hg : bt s 0 = (bytesOf s).getD 0 0 := bt_get s 0
  unfold impl_number.f
  refine Ev.b (implIn _ _ _) ?_
  by_cases h1 : 1 ≤ (s.size : Int) ∧ (s.size : Int) ≤ 9
  · refine Ev.ifp (decide_eq_true h1) (Ev.ifp (by omega) ?_)
    have go : (s.size ≤ 1 ∨ (bytesOf s).getD 0 0 ≠ 48) → Ev (fun k => impl_number.j0 k s false) (numP s) := fun hz => by
      refine Ev.step (f := fun k => impl_number.l0 k s 0 0) (fun k => ?_) (implNum_loop s (by omega) (by omega) hz s.size 0 0 (by omega) (fun x hx => by rw [List.take_zero] at hx; cases hx) rfl)
      simp only [impl_number.j0]
      rw [if_neg (by simp)]
    by_cases h2 : bt s 0 = 48
    · refine Ev.ifp h2 ?_
      by_cases h3 : (s.size : Int) > 1
      · rw [decide_eq_true h3]
        exact bad (fun c => by have := ((numB_iff _).1 c).2.2; rw [bytes_len] at this; rcases this with h | h; omega; exact h (hg ▸ h2))
      · rw [decide_eq_false h3]
        exact go (.inl (by omega))
    · exact Ev.ifn h2 (go (.inr (hg ▸ h2)))
  · exact Ev.ifn (by rw [decide_eq_true_iff]; exact h1) (bad (fun c => by have := ((numB_iff _).1 c).1; rw [bytes_len] at this; omega))
theorem numP_true {s : ByteArray} (h : (numP s).2 = true) : (numP s).1 = numS s := by
  unfold numP numS at *
  by_cases c : numB (bytesOf s) = true
  · rw [if_pos c, if_pos c]
  · rw [if_neg c] at h; cases h
theorem numP_false {s : ByteArray} (h : ¬ (numP s).2 = true) : numS s = -1 := by
  unfold numP at h
  by_cases c : numB (bytesOf s) = true
  · rw [if_pos c] at h; exact absurd rfl h
  · exact if_neg c

def wd (s : ByteArray) (i : Int) : ByteArray := rdOf ByteArray.empty (cutS 32 s 5) i
def headGood (s : ByteArray) : Prop := (cutS 32 s 5).length = 5 ∧ headB (wd s 0) (wd s 1) (numS (wd s 2)) (numS (wd s 3)) (numS (wd s 4)) = true
instance (s : ByteArray) : Decidable (headGood s) := by unfold headGood; infer_instance
def headGet (s : ByteArray) : ByteArray × ByteArray × Int × Int × Int × Bool :=
  if headGood s then (wd s 0, wd s 1, numS (wd s 2), numS (wd s 3), numS (wd s 4), true) else ((⟨#[]⟩ : ByteArray), (⟨#[]⟩ : ByteArray), 0, 0, 0, false)
theorem wd_size (s : ByteArray) (i : Int) : (wd s i).size ≤ s.size := rdOf_size _ _ (cutS_size 32 s 5) i
theorem head_join {s : ByteArray} (h : (cutS 32 s 5).length = 5) : (((((((wd s 0 ++ (⟨#[32]⟩ : ByteArray)) ++ wd s 1) ++ (⟨#[32]⟩ : ByteArray)) ++ wd s 2) ++ (⟨#[32]⟩ : ByteArray)) ++ wd s 3) ++ (⟨#[32]⟩ : ByteArray)) ++ wd s 4 = s := by
  have hb := cutS_bytes 32 s 5
  have hj := joinB_cutN 32 (bytesOf s) 5
  rw [← hb] at hj
  unfold wd
  generalize cutS 32 s 5 = l at *
  obtain ⟨a, b, c, d, e, rfl⟩ : ∃ a b c d e, l = [a, b, c, d, e] := by
    match l, h with
    | [a, b, c, d, e], _ => exact ⟨a, b, c, d, e, rfl⟩
  apply bytes_inj
  rw [← hj]
  simp only [bytes_append]
  simp only [rdOf, List.map_cons, List.map_nil, joinB, List.append_assoc]
  rfl
theorem headS_back {s : ByteArray} (h : headGood s) : headS (wd s 0) (wd s 1) (numS (wd s 2)) (numS (wd s 3)) (numS (wd s 4)) = s := by
  have h1 := (headB_iff _ _ _ _ _).1 h.2
  unfold headS
  rw [numS_dec (s := wd s 2) (by omega), numS_dec (s := wd s 3) (by omega), numS_dec (s := wd s 4) (by omega)]
  exact head_join h.1
theorem specHeadGet_ev (s : ByteArray) (hs : s.size ≤ 100000000) : Ev (fun k => spec_HeadGet.f k s) (headGet s) := by
  have h0 := wd_size s 0
  have h1 := wd_size s 1
  have h2 := wd_size s 2
  have h3 := wd_size s 3
  have h4 := wd_size s 4
  unfold spec_HeadGet.f
  refine Ev.bind (specCut_ev s (by omega) 32 5) ?_
  by_cases hl : (cutS 32 s 5).length = 5
  · refine Ev.ifp (by omega) (Ev.ifp (by omega) (Ev.ifp (by omega) (Ev.ifp (by omega) (Ev.bind (specNum_ev (wd s 2) (by omega)) (Ev.ifp (by omega) (Ev.bind (specNum_ev (wd s 3) (by omega)) (Ev.ifp (by omega) (Ev.bind (specNum_ev (wd s 4) (by omega)) (Ev.bind (specOk_ev (wd s 0) (wd s 1) _ _ _ (by omega) (by omega)) ?_)))))))))
    by_cases hb : headB (wd s 0) (wd s 1) (numS (wd s 2)) (numS (wd s 3)) (numS (wd s 4)) = true
    · have hg : headGood s := ⟨hl, hb⟩
      refine Ev.ifp hb (Ev.bind (specHeadS_ev hb) (Ev.ifp (congrArg ByteArray.toList (headS_back hg)) (Ev.at_ (Ev.now _) (if_pos hg).symm)))
    · exact Ev.ifn hb (Ev.at_ (Ev.now _) (if_neg (fun h => hb h.2)).symm)
  · exact Ev.ifn (by omega) (Ev.at_ (Ev.now _) (if_neg (fun h => hl h.1)).symm)

theorem split_eq (s : ByteArray) (c : UInt8) (hs : s.size < 4294967281) : strings_Split.f s (⟨#[c]⟩ : ByteArray) = some (cutS ((c.toNat : Nat) : Int) s s.size) := by
  unfold strings_Split.f
  rw [if_pos ⟨hs, Nat.le_refl _⟩]
  exact congrArg some (split_cut c s.size s (Nat.le_refl _))
theorem cutS_all {c : Int} {s : ByteArray} {m : Nat} (h : (cutS c s m).length ≤ m) : cutS c s s.size = cutS c s m := by
  have hc := cntB_le c (bytesOf s)
  rw [bytes_len] at hc
  rw [cutS_len] at h
  unfold cutS
  rw [cutN_same c (bytesOf s) s.size m hc (by omega)]
theorem cutS_all' {c : Int} {s : ByteArray} {m n : Nat} (hn : n ≤ m) (h : (cutS c s s.size).length = n) : cutS c s s.size = cutS c s m := by
  have hc := cntB_le c (bytesOf s)
  rw [bytes_len] at hc
  rw [cutS_len] at h
  unfold cutS
  rw [cutN_same c (bytesOf s) s.size m hc (by omega)]
theorem implHeadGet_ev (s : ByteArray) (hs : s.size ≤ 100000000) : Ev (fun k => impl_HeadGet.f k s) (headGet s) := by
  have h0 := wd_size s 0
  have h1 := wd_size s 1
  have h2 := wd_size s 2
  have h3 := wd_size s 3
  have h4 := wd_size s 4
  unfold impl_HeadGet.f
  have e : strings_Split.f s (⟨#[32]⟩ : ByteArray) = some (cutS 32 s s.size) := split_eq s 32 (by omega)
  refine Ev.b e ?_
  by_cases hl : (cutS 32 s 5).length = 5
  · rw [cutS_all (Nat.le_of_eq hl)]
    have no : ¬ headB (wd s 0) (wd s 1) (numS (wd s 2)) (numS (wd s 3)) (numS (wd s 4)) = true → headGet s = ((⟨#[]⟩ : ByteArray), (⟨#[]⟩ : ByteArray), 0, 0, 0, false) := fun hb => if_neg (fun h => hb h.2)
    refine Ev.ifp (by omega) (Ev.ifp (by omega) (Ev.bind (implNum_ev (wd s 2) (by omega)) (Ev.ifp (by omega) (Ev.bind (implNum_ev (wd s 3) (by omega)) (Ev.ifp (by omega) (Ev.bind (implNum_ev (wd s 4) (by omega)) (Ev.ifp (by omega) (Ev.ifp (by omega) ?_))))))))
    by_cases a2 : (numP (wd s 2)).2 = true
    · by_cases a3 : (numP (wd s 3)).2 = true
      · by_cases a4 : (numP (wd s 4)).2 = true
        · have e2 := numP_true a2
          have e3 := numP_true a3
          have e4 := numP_true a4
          refine Ev.ifp a2 (Ev.ifp a3 (Ev.ifp a4 ?_))
          rw [e2, e3, e4]
          refine Ev.bind (implOk_ev (wd s 0) (wd s 1) _ _ _ (by omega) (by omega)) ?_
          by_cases hb : headB (wd s 0) (wd s 1) (numS (wd s 2)) (numS (wd s 3)) (numS (wd s 4)) = true
          · exact Ev.ifp hb (Ev.at_ (Ev.now _) (if_pos (show headGood s from ⟨hl, hb⟩)).symm)
          · exact Ev.ifn hb (Ev.at_ (Ev.now _) (no hb).symm)
        · exact Ev.ifp a2 (Ev.ifp a3 (Ev.ifn a4 (Ev.at_ (Ev.now _) (no (fun h => by have := (headB_iff _ _ _ _ _).1 h; rw [numP_false a4] at this; omega)).symm)))
      · exact Ev.ifp a2 (Ev.ifn a3 (Ev.at_ (Ev.now _) (no (fun h => by have := (headB_iff _ _ _ _ _).1 h; rw [numP_false a3] at this; omega)).symm))
    · exact Ev.ifn a2 (Ev.at_ (Ev.now _) (no (fun h => by have := (headB_iff _ _ _ _ _).1 h; rw [numP_false a2] at this; omega)).symm)
  · exact Ev.ifn (fun h => hl (by rw [← cutS_all' (m := 5) (Nat.le_refl 5) (by omega)]; omega)) (Ev.at_ (Ev.now _) (if_neg (fun h => hl h.1)).symm)

theorem specHeadPut_ev (p r : ByteArray) (t d n : Int) (hp : p.size ≤ 140737488351232) (hr : r.size ≤ 140737488351232) : Ev (fun k => spec_HeadPut.f k p r t d n) (headPut p r t d n) := by
  unfold spec_HeadPut.f
  refine Ev.bind (specOk_ev p r t d n hp hr) ?_
  by_cases h : headB p r t d n = true
  · rw [headPut_pos h]; exact Ev.ifp h (Ev.bind (specHeadS_ev h) (Ev.now _))
  · rw [headPut_neg h]; exact Ev.ifn h (Ev.now _)

theorem itoa_ev {n : Int} (h0 : 0 ≤ n) (h1 : n ≤ 1000000000000) : strconv_Itoa_46.f n = some (decS n) := by
  unfold strconv_Itoa_46.f
  rw [if_pos ⟨by omega, by omega⟩]
  exact congrArg some (itoa_dec h0)
theorem implHeadPut_ev (p r : ByteArray) (t d n : Int) (hp : p.size ≤ 140737488351232) (hr : r.size ≤ 140737488351232) : Ev (fun k => impl_HeadPut.f k p r t d n) (headPut p r t d n) := by
  unfold impl_HeadPut.f
  refine Ev.bind (implOk_ev p r t d n hp hr) ?_
  by_cases h : headB p r t d n = true
  · rw [headPut_pos h]
    have hs := headB_size h
    have h1 := (headB_iff p r t d n).1 h
    have ht := dec_small (n := t) (by omega)
    have hd := dec_small (n := d) (by omega)
    have hn := dec_small (n := n) (by omega)
    exact Ev.ifp h (Ev.ifp (by omega) (Ev.ifp (by rw [ByteArray.size_append, one_size]; omega) (Ev.ifp (by simp only [ByteArray.size_append, one_size]; omega) (Ev.b (itoa_ev (n := t) (by omega) (by omega)) (Ev.ifp (by simp only [ByteArray.size_append, one_size]; omega) (Ev.ifp (by simp only [ByteArray.size_append, one_size]; omega) (Ev.b (itoa_ev (n := d) (by omega) (by omega)) (Ev.ifp (by simp only [ByteArray.size_append, one_size]; omega) (Ev.ifp (by simp only [ByteArray.size_append, one_size]; omega) (Ev.b (itoa_ev (n := n) (by omega) (by omega)) (Ev.ifp (by simp only [ByteArray.size_append, one_size]; omega) (Ev.now _))))))))))))
  · rw [headPut_neg h]; exact Ev.ifn h (Ev.now _)

theorem headS_size {s t : ByteArray} {x y z : Int} (h : headB s t x y z = true) : (headS s t x y z).size ≤ 100 := by
  have hs := headB_size h
  have h1 := (headB_iff s t x y z).1 h
  have ht := dec_small (n := x) (by omega)
  have hd := dec_small (n := y) (by omega)
  have hn := dec_small (n := z) (by omega)
  unfold headS
  simp only [ByteArray.size_append, one_size]
  omega
def Code (b : List Int) : Prop := (∀ x ∈ b, 0 ≤ x ∧ x ≤ 255) ∧ b.length ≤ 2000
theorem open_ev {l : List Int} (h : ∀ x ∈ l, 0 ≤ x ∧ x ≤ 255) : ∃ b, spec_l20Open.f l = some (b, 0) ∧ Code b := by
  unfold spec_l20Open.f
  by_cases hl : (l.length : Int) > 2000
  · rw [if_pos hl, if_pos (by omega)]
    exact ⟨_, rfl, fun x hx => h x (List.mem_of_mem_take hx), by rw [List.length_take]; omega⟩
  · rw [if_neg hl]
    exact ⟨_, rfl, h, by omega⟩
theorem tmod_range {a b : Int} (h0 : 0 ≤ a) (hb : 0 < b) : 0 ≤ Int.tmod a b ∧ Int.tmod a b < b := by
  rw [Int.tmod_eq_emod_of_nonneg h0]
  exact ⟨Int.emod_nonneg _ (by omega), Int.emod_lt_of_pos _ hb⟩
theorem mixed {b : List Int} (hb : Code b) {p : Int} (h0 : 0 ≤ p) (h1 : p ≤ 1099511627776) (hl : 0 < b.length) (i j : Int) :
    ∃ x, wrap64 (wrap64 (wrap64 (wrap64 (wrap64 (rd b i) * 131) + wrap64 (wrap64 (rd b j) * 1117)) + wrap64 (p * 29)) + wrap64 (wrap64 (Int.tdiv p (b.length : Int)) * 53)) = x ∧ 0 ≤ x ∧ x < 4611686018427387904 := by
  have hi := rd_range hb.1 i
  have hj := rd_range hb.1 j
  have hd : 0 ≤ Int.tdiv p (b.length : Int) ∧ Int.tdiv p (b.length : Int) ≤ p := by
    rw [Int.tdiv_eq_ediv_of_nonneg h0]
    exact ⟨Int.ediv_nonneg h0 (by omega), Int.ediv_le_self _ h0⟩
  generalize rd b i = u at *
  generalize rd b j = v at *
  generalize Int.tdiv p (b.length : Int) = q at *
  refine ⟨u * 131 + v * 1117 + p * 29 + q * 53, ?_, by omega, by omega⟩
  rw [w64 (i := u) (by omega) (by omega), w64 (i := u * 131) (by omega) (by omega), w64 (i := v) (by omega) (by omega), w64 (i := v * 1117) (by omega) (by omega), w64 (i := u * 131 + v * 1117) (by omega) (by omega),
    w64 (i := p * 29) (by omega) (by omega), w64 (i := u * 131 + v * 1117 + p * 29) (by omega) (by omega), w64 (i := q) (by omega) (by omega), w64 (i := q * 53) (by omega) (by omega), w64 (by omega) (by omega)]
theorem pick_ev {b : List Int} (hb : Code b) (p n : Int) (h0 : 0 ≤ p) (h1 : p ≤ 1099511627776) : ∃ v, Ev (fun k => spec_l20Rd_pick.f k b p n) (v, p + 1) ∧ 0 ≤ v ∧ (1 ≤ n → v < n) ∧ (n < 1 → v = 0) := by
  have hw : wrap64 (p + 1) = p + 1 := w64 (by omega) (by omega)
  unfold spec_l20Rd_pick.f
  by_cases hn : n < 1
  · refine ⟨0, Ev.ifp hn ?_, by omega, by omega, fun _ => rfl⟩
    rw [hw]
    refine Ev.step (f := fun _ => some (0, p + 1)) (fun k => ?_) (Ev.now _)
    simp only [spec_l20Rd_pick.j0]; rw [if_pos trivial]
  · by_cases hl : b.length = 0
    · have e : ((b.length : Int) == 0) = true := by rw [beq_iff_eq]; omega
      refine ⟨0, Ev.ifn hn ?_, by omega, by omega, fun _ => rfl⟩
      rw [hw, e]
      refine Ev.step (f := fun _ => some (0, p + 1)) (fun k => ?_) (Ev.now _)
      simp only [spec_l20Rd_pick.j0]; rw [if_pos trivial]
    · have e : ((b.length : Int) == 0) = false := by rw [beq_eq_false_iff_ne]; omega
      have hw1 : wrap64 (p + 1 - 1) = p := by clear hw; exact (w64 (by omega) (by omega)).trans (by omega)
      have hn0 : ¬ n = 0 := by clear hw hw1; omega
      have hl0 : ¬ (b.length : Int) = 0 := by clear hw hw1; omega
      by_cases hp : p < (b.length : Int)
      · have hr := rd_range hb.1 p
        have hwr : wrap64 (rd b p) = rd b p := by clear hw hw1; exact w64 (by omega) (by omega)
        have ht := tmod_range hr.1 (show 0 < n by clear hw hw1 hwr; omega)
        refine ⟨Int.tmod (rd b p) n, Ev.ifn hn ?_, ht.1, fun _ => ht.2, fun h => absurd h hn⟩
        rw [hw, e]
        refine Ev.step (f := fun _ => some (Int.tmod (rd b p) n, p + 1)) (fun k => ?_) (Ev.now _)
        simp only [spec_l20Rd_pick.j0]; rw [if_neg (by simp), hw1, if_pos hp, if_pos h0, if_neg hn0, hwr]
      · have hlp : 0 < (b.length : Int) := by clear hw hw1; omega
        have t1 := tmod_range h0 hlp
        have hq : wrap64 (wrap64 (p * 7) + 3) = p * 7 + 3 := by clear hw hw1; rw [w64 (i := p * 7) (by omega) (by omega)]; exact w64 (by omega) (by omega)
        have t2 := tmod_range (show 0 ≤ p * 7 + 3 by clear hw hw1 hq; omega) hlp
        obtain ⟨x, hx, hx0, hx1⟩ := mixed hb h0 h1 (show 0 < b.length by clear hw hw1 hq; omega) (Int.tmod p (b.length : Int)) (Int.tmod (p * 7 + 3) (b.length : Int))
        have hd0 : 0 ≤ x / 64 := by clear hx hw hw1 hq; omega
        have hd1 : x / 64 < 4611686018427387904 := by clear hx hw hw1 hq; omega
        have hdx : wrap64 (Int.tdiv x 64) = x / 64 := by rw [Int.tdiv_eq_ediv_of_nonneg hx0]; clear hx hw hw1 hq; exact w64 (by omega) (by omega)
        have hxo := xor64 hx0 hx1 hd0 hd1
        have ht := tmod_range hxo.1 (show 0 < n by clear hx hdx hw hw1 hq; omega)
        refine ⟨Int.tmod (Go.bits .xor .i64 x (x / 64)) n, Ev.ifn hn ?_, ht.1, fun _ => ht.2, fun h => absurd h hn⟩
        rw [hw, e]
        refine Ev.step (f := fun _ => some (Int.tmod (Go.bits .xor .i64 x (x / 64)) n, p + 1)) (fun k => ?_) (Ev.now _)
        simp only [spec_l20Rd_pick.j0]
        rw [if_neg (by simp), hw1, if_neg hp, if_neg hl0, if_pos t1.1, if_pos t1.2, hq, if_pos t2.1, if_pos t2.2, if_neg hn0, hx, hdx]
theorem pick_lt {b : List Int} (hb : Code b) (p n : Int) (h0 : 0 ≤ p) (h1 : p ≤ 1099511627776) (hn : 1 ≤ n) : ∃ v, Ev (fun k => spec_l20Rd_pick.f k b p n) (v, p + 1) ∧ 0 ≤ v ∧ v < n := by
  obtain ⟨v, h, h2, h3, _⟩ := pick_ev hb p n h0 h1
  exact ⟨v, h, h2, h3 hn⟩

theorem one_ev {b : List Int} (hb : Code b) (p : Int) (l : List Int) (h0 : 0 ≤ p) (h1 : p ≤ 1099511627776) (hl : 1 ≤ (l.length : Int)) : ∃ x, x ∈ l ∧ Ev (fun k => spec_l20Rd_one.f k b p l) (x, p + 1) := by
  obtain ⟨v, hv, hv0, hv1⟩ := pick_lt hb p (l.length : Int) h0 h1 hl
  refine ⟨rd l v, rd_mem v hv0 hv1, ?_⟩
  unfold spec_l20Rd_one.f
  exact Ev.bind hv (Ev.ifp hv0 (Ev.ifp hv1 (Ev.now _)))

theorem of_ev {b : List Int} (hb : Code b) (p : Int) (l : List ByteArray) (h0 : 0 ≤ p) (h1 : p ≤ 1099511627776) (hl : 1 ≤ (l.length : Int)) : ∃ x, x ∈ l ∧ Ev (fun k => spec_l20Rd_of.f k b p l) (x, p + 1) := by
  obtain ⟨v, hv, hv0, hv1⟩ := pick_lt hb p (l.length : Int) h0 h1 hl
  refine ⟨rdOf ByteArray.empty l v, rdOf_mem _ v hv0 hv1, ?_⟩
  unfold spec_l20Rd_of.f
  exact Ev.bind hv (Ev.ifp hv0 (Ev.ifp hv1 (Ev.now _)))

theorem item_ev {b : List Int} (hb : Code b) (p : Int) (h0 : 0 ≤ p) (h1 : p ≤ 1099511627776) : ∃ s, Ev (fun k => spec_l20Item.f k b p) (s, p + 1) ∧ s.size ≤ 8 := by
  obtain ⟨x, hm, hx⟩ := of_ev hb p ([(⟨#[97]⟩ : ByteArray), (⟨#[98]⟩ : ByteArray), (⟨#[99]⟩ : ByteArray), (⟨#[100]⟩ : ByteArray), (⟨#[97, 110, 110]⟩ : ByteArray), (⟨#[98, 111, 98]⟩ : ByteArray), (⟨#[99, 121, 100]⟩ : ByteArray), (⟨#[120, 49]⟩ : ByteArray), (⟨#[120, 50]⟩ : ByteArray), (⟨#[120, 51]⟩ : ByteArray), (⟨#[122, 122]⟩ : ByteArray), (⟨#[108, 111, 110, 103, 110, 97, 109, 101]⟩ : ByteArray)] : List ByteArray) h0 h1 (by decide)
  refine ⟨x, ?_, ?_⟩
  · unfold spec_l20Item.f
    exact Ev.bind hx (Ev.now _)
  · simp only [List.mem_cons, List.not_mem_nil, or_false] at hm
    rcases hm with rfl | rfl | rfl | rfl | rfl | rfl | rfl | rfl | rfl | rfl | rfl | rfl <;> decide

theorem and_range (x : Int) {y : Int} (h0 : 0 ≤ y) (h1 : y ≤ 4294967295) : 0 ≤ Go.bits .and .i64 x y ∧ Go.bits .and .i64 x y ≤ y := by
  have e : Go.bits .and .i64 x y = (((BitVec.ofInt 64 x).toNat &&& y.toNat : Nat) : Int) := by
    show IntKind.i64.wrap ((BitVec.ofInt 64 x &&& BitVec.ofInt 64 y).toNat : Int) = _
    rw [BitVec.toNat_and, bitvec_toNat h0 (by omega), i64_w]
    have hle : (BitVec.ofInt 64 x).toNat &&& y.toNat ≤ y.toNat := Nat.and_le_right
    exact w64 (by omega) (by omega)
  have hle : (BitVec.ofInt 64 x).toNat &&& y.toNat ≤ y.toNat := Nat.and_le_right
  rw [e]
  omega
theorem turn_some (a c : Int) (h0 : 0 ≤ c) (h1 : c ≤ 32) : ∃ t, spec_l1Turn.f a c = some t := by
  unfold spec_l1Turn.f
  rw [if_pos h0, w64 (i := 32 - c) (by omega) (by omega), if_pos (by omega)]
  exact ⟨_, rfl⟩
theorem mix_l1 (x0 x18 : List Int) (h8 : 8 ≤ x0.length) (h18 : x18.length = 8) (d : Nat) : ∀ (i : Nat) (x19 : List Int), i + d = 8 → x19.length = 8 → (∀ x ∈ x19, 0 ≤ x ∧ x ≤ 4294967295) →
    ∃ r, Ev (fun k => spec_l1Mix.l1 k x0 x18 x19 (i : Int)) r ∧ r.length = 8 ∧ ∀ x ∈ r, 0 ≤ x ∧ x ≤ 4294967295 := by
  induction d with
  | zero =>
    intro i x19 hi h19 hr
    refine ⟨x19, Ev.step (f := fun _ => some x19) (fun k => ?_) (Ev.now _), h19, hr⟩
    simp only [spec_l1Mix.l1]; rw [if_neg (by omega)]
  | succ d ih =>
    intro i x19 hi h19 hr
    have hi1 : ((i + 1 : Nat) : Int) = (i : Int) + 1 := by omega
    have hlt : (i : Int) < 8 := by omega
    have hi0 : (0 : Int) ≤ (i : Int) := by omega
    have l0 : (i : Int) < (x0.length : Int) := by omega
    have l1 : (i : Int) < (x18.length : Int) := by omega
    have l2 : (i : Int) < (x19.length : Int) := by omega
    have hd : i + 1 + d = 8 := by omega
    have hw : wrap64 ((i : Int) + 1) = ((i + 1 : Nat) : Int) := by rw [hi1]; exact w64 (by omega) (by omega)
    have hv := and_range (wrap64 (rd x0 (i : Int) + rd x18 (i : Int))) (y := 4294967295) (by decide) (by decide)
    obtain ⟨r, h, hl, hrr⟩ := ih (i + 1) (x19.set i (Go.bits .and .i64 (wrap64 (rd x0 (i : Int) + rd x18 (i : Int))) 4294967295)) hd (by rw [List.length_set]; exact h19)
      (fun x hx => by rcases List.mem_or_eq_of_mem_set hx with hx | rfl; exact hr x hx; exact hv)
    refine ⟨r, Ev.step (fun k => ?_) h, hl, hrr⟩
    simp only [spec_l1Mix.l1]
    rw [if_pos hlt, if_pos hi0, if_pos l0, if_pos l1, if_pos l2, hw, Int.toNat_natCast]
theorem mix_l0 (x0 x1 x2 : List Int) (h8 : 8 ≤ x0.length) (h1 : x1.length = 64) (h2 : x2.length = 64) (d : Nat) : ∀ (i : Nat) (a b c e f g h j : Int), i + d = 64 →
    ∃ r, Ev (fun k => spec_l1Mix.l0 k x0 x1 x2 a b c e f g h j (i : Int)) r ∧ r.length = 8 ∧ ∀ x ∈ r, 0 ≤ x ∧ x ≤ 4294967295 := by
  induction d with
  | zero =>
    intro i a b c e f g h j hi
    obtain ⟨r, hr, hl, hrr⟩ := mix_l1 x0 [a, b, c, e, f, g, h, j] h8 rfl 8 0 (List.replicate 8 0) (by omega) (by simp) (fun x hx => by rw [List.eq_of_mem_replicate hx]; decide)
    refine ⟨r, Ev.step (fun k => ?_) hr, hl, hrr⟩
    simp only [spec_l1Mix.l0]
    rw [if_neg (by omega), if_pos (by decide)]
    rfl
  | succ d ih =>
    intro i a b c e f g h j hi
    have hi1 : ((i + 1 : Nat) : Int) = (i : Int) + 1 := by omega
    have hlt : (i : Int) < 64 := by omega
    have hi0 : (0 : Int) ≤ (i : Int) := by omega
    have l1 : (i : Int) < (x1.length : Int) := by omega
    have l2 : (i : Int) < (x2.length : Int) := by omega
    have hd : i + 1 + d = 64 := by omega
    have hw : wrap64 ((i : Int) + 1) = ((i + 1 : Nat) : Int) := by rw [hi1]; exact w64 (by omega) (by omega)
    obtain ⟨t1, e1⟩ := turn_some f 6 (by decide) (by decide)
    obtain ⟨t2, e2⟩ := turn_some f 11 (by decide) (by decide)
    obtain ⟨t3, e3⟩ := turn_some f 25 (by decide) (by decide)
    obtain ⟨t4, e4⟩ := turn_some a 2 (by decide) (by decide)
    obtain ⟨t5, e5⟩ := turn_some a 13 (by decide) (by decide)
    obtain ⟨t6, e6⟩ := turn_some a 22 (by decide) (by decide)
    obtain ⟨A, B, hs⟩ : ∃ A B, ∀ k, spec_l1Mix.l0 (k + 1) x0 x1 x2 a b c e f g h j (i : Int) = spec_l1Mix.l0 k x0 x1 x2 A a b c B f g h ((i + 1 : Nat) : Int) := by
      apply Exists.intro
      apply Exists.intro
      intro k
      simp only [spec_l1Mix.l0]
      rw [if_pos hlt, e1, Option.bind_some, e2, Option.bind_some, e3, Option.bind_some, if_pos hi0, if_pos l2, if_pos l1, e4, Option.bind_some, e5, Option.bind_some, e6, Option.bind_some, hw]
    obtain ⟨r, hr, hl, hrr⟩ := ih (i + 1) A a b c B f g h hd
    exact ⟨r, Ev.step hs hr, hl, hrr⟩
theorem mix_ev (x0 x1 x2 : List Int) (h8 : x0.length = 8) (h1 : x1.length = 64) (h2 : x2.length = 64) : ∃ r, Ev (fun k => spec_l1Mix.f k x0 x1 x2) r ∧ r.length = 8 ∧ ∀ x ∈ r, 0 ≤ x ∧ x ≤ 4294967295 := by
  obtain ⟨r, hr, hl, hrr⟩ := mix_l0 x0 x1 x2 (by omega) h1 h2 64 0 (rd x0 0) (rd x0 1) (rd x0 2) (rd x0 3) (rd x0 4) (rd x0 5) (rd x0 6) (rd x0 7) (by omega)
  refine ⟨r, ?_, hl, hrr⟩
  unfold spec_l1Mix.f
  rw [Int.natCast_zero] at hr
  exact Ev.ifp (by omega) (Ev.ifp (by omega) (Ev.ifp (by omega) (Ev.ifp (by omega) (Ev.ifp (by omega) (Ev.ifp (by omega) (Ev.ifp (by omega) (Ev.ifp (by omega) hr)))))))
theorem words_l1 (d : Nat) : ∀ (i : Nat) (x3 : List Int), i + d = 64 → 16 ≤ i → x3.length = 64 → ∃ r, Ev (fun k => spec_l1Words.l1 k x3 (i : Int)) r ∧ r.length = 64 := by
  induction d with
  | zero =>
    intro i x3 hi h16 h3
    refine ⟨x3, Ev.step (f := fun _ => some x3) (fun k => ?_) (Ev.now _), h3⟩
    simp only [spec_l1Words.l1]; rw [if_neg (by omega)]
  | succ d ih =>
    intro i x3 hi h16 h3
    have hi1 : ((i + 1 : Nat) : Int) = (i : Int) + 1 := by omega
    have hlt : (i : Int) < 64 := by omega
    have hi0 : (0 : Int) ≤ (i : Int) := by omega
    have hd : i + 1 + d = 64 := by omega
    have a15 : 0 ≤ (i : Int) - 15 := by omega
    have a2 : 0 ≤ (i : Int) - 2 := by omega
    have a16 : 0 ≤ (i : Int) - 16 := by omega
    have a7 : 0 ≤ (i : Int) - 7 := by omega
    have b15 : (i : Int) - 15 < (x3.length : Int) := by omega
    have b2 : (i : Int) - 2 < (x3.length : Int) := by omega
    have b16 : (i : Int) - 16 < (x3.length : Int) := by omega
    have b7 : (i : Int) - 7 < (x3.length : Int) := by omega
    have b0 : (i : Int) < (x3.length : Int) := by omega
    have w15 : wrap64 ((i : Int) - 15) = (i : Int) - 15 := w64 (by omega) (by omega)
    have w2 : wrap64 ((i : Int) - 2) = (i : Int) - 2 := by clear w15; exact w64 (by omega) (by omega)
    have w16 : wrap64 ((i : Int) - 16) = (i : Int) - 16 := by clear w15 w2; exact w64 (by omega) (by omega)
    have w7 : wrap64 ((i : Int) - 7) = (i : Int) - 7 := by clear w15 w2 w16; exact w64 (by omega) (by omega)
    have hw : wrap64 ((i : Int) + 1) = ((i + 1 : Nat) : Int) := by clear w15 w2 w16 w7; rw [hi1]; exact w64 (by omega) (by omega)
    obtain ⟨t1, e1⟩ := turn_some (rd x3 ((i : Int) - 15)) 7 (by decide) (by decide)
    obtain ⟨t2, e2⟩ := turn_some (rd x3 ((i : Int) - 15)) 18 (by decide) (by decide)
    obtain ⟨t3, e3⟩ := turn_some (rd x3 ((i : Int) - 2)) 17 (by decide) (by decide)
    obtain ⟨t4, e4⟩ := turn_some (rd x3 ((i : Int) - 2)) 19 (by decide) (by decide)
    obtain ⟨A, hs⟩ : ∃ A, ∀ k, spec_l1Words.l1 (k + 1) x3 (i : Int) = spec_l1Words.l1 k (x3.set i A) ((i + 1 : Nat) : Int) := by
      apply Exists.intro
      intro k
      simp only [spec_l1Words.l1]
      rw [if_pos hlt, w15, w2, if_pos a15, if_pos b15, if_pos a2, if_pos b2, e1, Option.bind_some, e2, Option.bind_some, e3, Option.bind_some, e4, Option.bind_some, w16, if_pos a16, if_pos b16, w7, if_pos a7, if_pos b7, if_pos hi0, if_pos b0, hw, Int.toNat_natCast]
    obtain ⟨r, hr, hl⟩ := ih (i + 1) (x3.set i A) hd (by omega) (by rw [List.length_set]; exact h3)
    exact ⟨r, Ev.step hs hr, hl⟩
theorem words_l0 (x0 : List Int) (h0 : x0.length = 64) (d : Nat) : ∀ (i : Nat) (x3 : List Int), i + d = 16 → x3.length = 64 → ∃ r, Ev (fun k => spec_l1Words.l0 k x0 x3 (i : Int)) r ∧ r.length = 64 := by
  induction d with
  | zero =>
    intro i x3 hi h3
    obtain ⟨r, hr, hl⟩ := words_l1 48 16 x3 (by omega) (by omega) h3
    refine ⟨r, Ev.step (fun k => ?_) hr, hl⟩
    simp only [spec_l1Words.l0]; rw [if_neg (by omega)]; rfl
  | succ d ih =>
    intro i x3 hi h3
    have hi1 : ((i + 1 : Nat) : Int) = (i : Int) + 1 := by omega
    have hlt : (i : Int) < 16 := by omega
    have hi0 : (0 : Int) ≤ (i : Int) := by omega
    have hd : i + 1 + d = 16 := by omega
    have a0 : 0 ≤ 4 * (i : Int) := by omega
    have a1 : 0 ≤ 4 * (i : Int) + 1 := by omega
    have a2 : 0 ≤ 4 * (i : Int) + 2 := by omega
    have a3 : 0 ≤ 4 * (i : Int) + 3 := by omega
    have b0 : 4 * (i : Int) < (x0.length : Int) := by omega
    have b1 : 4 * (i : Int) + 1 < (x0.length : Int) := by omega
    have b2 : 4 * (i : Int) + 2 < (x0.length : Int) := by omega
    have b3 : 4 * (i : Int) + 3 < (x0.length : Int) := by omega
    have bi : (i : Int) < (x3.length : Int) := by omega
    have w0 : wrap64 (4 * (i : Int)) = 4 * (i : Int) := w64 (by omega) (by omega)
    have w1 : wrap64 (4 * (i : Int) + 1) = 4 * (i : Int) + 1 := by clear w0; exact w64 (by omega) (by omega)
    have w2 : wrap64 (4 * (i : Int) + 2) = 4 * (i : Int) + 2 := by clear w0 w1; exact w64 (by omega) (by omega)
    have w3 : wrap64 (4 * (i : Int) + 3) = 4 * (i : Int) + 3 := by clear w0 w1 w2; exact w64 (by omega) (by omega)
    have hw : wrap64 ((i : Int) + 1) = ((i + 1 : Nat) : Int) := by clear w0 w1 w2 w3; rw [hi1]; exact w64 (by omega) (by omega)
    obtain ⟨A, hs⟩ : ∃ A, ∀ k, spec_l1Words.l0 (k + 1) x0 x3 (i : Int) = spec_l1Words.l0 k x0 (x3.set i A) ((i + 1 : Nat) : Int) := by
      apply Exists.intro
      intro k
      simp only [spec_l1Words.l0]
      rw [if_pos hlt, w0, if_pos a0, if_pos b0, w1, if_pos a1, if_pos b1, w2, if_pos a2, if_pos b2, w3, if_pos a3, if_pos b3, if_pos hi0, if_pos bi, hw, Int.toNat_natCast]
    obtain ⟨r, hr, hl⟩ := ih (i + 1) (x3.set i A) hd (by rw [List.length_set]; exact h3)
    exact ⟨r, Ev.step hs hr, hl⟩
theorem words_ev (x0 : List Int) (h0 : x0.length = 64) : ∃ r, Ev (fun k => spec_l1Words.f k x0) r ∧ r.length = 64 := by
  obtain ⟨r, hr, hl⟩ := words_l0 x0 h0 16 0 (List.replicate 64 0) (by omega) (by simp)
  refine ⟨r, ?_, hl⟩
  unfold spec_l1Words.f
  rw [Int.natCast_zero] at hr
  exact Ev.ifp (by decide) hr
theorem pad_l1 (m : Nat) (hm : 8 < m) (hm2 : m ≤ 2000000000) (n : Int) (d : Nat) : ∀ (i : Nat) (x3 : List Int), i + d = 8 → x3.length = m → ∃ r, Ev (fun k => spec_l1Pad.l1 k x3 n (i : Int)) r ∧ r.length = m := by
  induction d with
  | zero =>
    intro i x3 hi h3
    refine ⟨x3, Ev.step (f := fun _ => some x3) (fun k => ?_) (Ev.now _), h3⟩
    simp only [spec_l1Pad.l1]; rw [if_neg (by omega)]
  | succ d ih =>
    intro i x3 hi h3
    have hi1 : ((i + 1 : Nat) : Int) = (i : Int) + 1 := by omega
    have hlt : (i : Int) < 8 := by omega
    have hd : i + 1 + d = 8 := by omega
    have a0 : 0 ≤ 8 * (i : Int) := by omega
    have hxl : (x3.length : Int) = (m : Int) := by omega
    have a1 : 0 ≤ (m : Int) - 1 - (i : Int) := by omega
    have b1 : (m : Int) - 1 - (i : Int) < (m : Int) := by omega
    have w0 : wrap64 (8 * (i : Int)) = 8 * (i : Int) := w64 (by omega) (by omega)
    have w1 : wrap64 ((m : Int) - 1) = (m : Int) - 1 := by clear w0; exact w64 (by omega) (by omega)
    have w2 : wrap64 ((m : Int) - 1 - (i : Int)) = (m : Int) - 1 - (i : Int) := by clear w0 w1; exact w64 (by omega) (by omega)
    have hw : wrap64 ((i : Int) + 1) = ((i + 1 : Nat) : Int) := by clear w0 w1 w2; rw [hi1]; exact w64 (by omega) (by omega)
    obtain ⟨A, hs⟩ : ∃ A, ∀ k, spec_l1Pad.l1 (k + 1) x3 n (i : Int) = spec_l1Pad.l1 k (x3.set ((m : Int) - 1 - (i : Int)).toNat A) n ((i + 1 : Nat) : Int) := by
      apply Exists.intro
      intro k
      simp only [spec_l1Pad.l1]
      rw [if_pos hlt, w0, if_pos a0, hxl, w1, w2, if_pos a1, if_pos b1, hw]
    obtain ⟨r, hr, hl⟩ := ih (i + 1) (x3.set ((m : Int) - 1 - (i : Int)).toNat A) hd (by rw [List.length_set]; exact h3)
    exact ⟨r, Ev.step hs hr, hl⟩
theorem pad_l0 (s : ByteArray) (hs : s.size ≤ 1000000000) (m : Nat) (hm : s.size + 8 < m) (hm2 : m ≤ 2000000000) (d : Nat) : ∀ (i : Nat) (x3 : List Int), i + d = s.size → x3.length = m → ∃ r, Ev (fun k => spec_l1Pad.l0 k s x3 (i : Int)) r ∧ r.length = m := by
  induction d with
  | zero =>
    intro i x3 hi h3
    have hlt : ¬ (i : Int) < (s.size : Int) := by omega
    have h0 : 0 ≤ (s.size : Int) := by omega
    have hl : (s.size : Int) < (x3.length : Int) := by omega
    obtain ⟨r, hr, hrl⟩ := pad_l1 m (by omega) hm2 (wrap64 ((s.size : Int) * 8)) 8 0 (x3.set ((s.size : Int) : Int).toNat 128) (by omega) (by rw [List.length_set]; exact h3)
    refine ⟨r, Ev.step (fun k => ?_) hr, hrl⟩
    simp only [spec_l1Pad.l0]
    rw [if_neg hlt, if_pos h0, if_pos hl]
    rfl
  | succ d ih =>
    intro i x3 hi h3
    have hi1 : ((i + 1 : Nat) : Int) = (i : Int) + 1 := by omega
    have hlt : (i : Int) < (s.size : Int) := by omega
    have hi0 : (0 : Int) ≤ (i : Int) := by omega
    have hl : (i : Int) < (x3.length : Int) := by omega
    have hd : i + 1 + d = s.size := by omega
    have hw : wrap64 ((i : Int) + 1) = ((i + 1 : Nat) : Int) := by rw [hi1]; exact w64 (by omega) (by omega)
    obtain ⟨r, hr, hrl⟩ := ih (i + 1) (x3.set i (wrap64 (bt s (i : Int)))) hd (by rw [List.length_set]; exact h3)
    refine ⟨r, Ev.step (fun k => ?_) hr, hrl⟩
    simp only [spec_l1Pad.l0]
    rw [if_pos hlt, if_pos hi0, if_pos hl, hw, Int.toNat_natCast]
theorem pad_ev (s : ByteArray) (hs : s.size ≤ 1000000000) : ∃ r q, Ev (fun k => spec_l1Pad.f k s) r ∧ r.length = 64 * q ∧ r.length ≤ 2000000000 := by
  have e : wrap64 (wrap64 (Int.tdiv (wrap64 ((s.size : Int) + 72)) 64) * 64) = ((64 * ((s.size + 72) / 64) : Nat) : Int) := by
    rw [w64 (i := (s.size : Int) + 72) (by omega) (by omega), Int.tdiv_eq_ediv_of_nonneg (by omega)]
    rw [w64 (i := ((s.size : Int) + 72) / 64) (by omega) (by omega), w64 (by omega) (by omega)]
    omega
  obtain ⟨r, hr, hl⟩ := pad_l0 s hs (64 * ((s.size + 72) / 64)) (by omega) (by omega) s.size 0 (List.replicate (64 * ((s.size + 72) / 64)) 0) (by omega) (by simp)
  refine ⟨r, (s.size + 72) / 64, ?_, hl, by omega⟩
  unfold spec_l1Pad.f
  rw [e, Int.toNat_natCast]
  rw [Int.natCast_zero] at hr
  exact Ev.ifp (by omega) (Ev.ifp (by omega) hr)
theorem sha_l0 (x4 x5 : List Int) (h4 : x4.length = 64) (q : Nat) (h5 : x5.length = 64 * q) (h5b : x5.length ≤ 2000000000) (d : Nat) : ∀ (i : Nat) (x3 : List Int), i + d = q → x3.length = 8 → (∀ x ∈ x3, 0 ≤ x ∧ x ≤ 4294967295) →
    ∃ r, Ev (fun k => spec_l1Sha.l0 k x3 x4 x5 ((64 * i : Nat) : Int)) r ∧ r.length = 8 ∧ ∀ x ∈ r, 0 ≤ x ∧ x ≤ 4294967295 := by
  induction d with
  | zero =>
    intro i x3 hi h3 hr
    refine ⟨x3, Ev.step (f := fun _ => some x3) (fun k => ?_) (Ev.now _), h3, hr⟩
    simp only [spec_l1Sha.l0]; rw [if_neg (by omega)]
  | succ d ih =>
    intro i x3 hi h3 hr
    have hi1 : ((64 * (i + 1) : Nat) : Int) = ((64 * i : Nat) : Int) + 64 := by omega
    have hlt : ((64 * i : Nat) : Int) < (x5.length : Int) := by omega
    have hi0 : (0 : Int) ≤ ((64 * i : Nat) : Int) := by omega
    have hle : ((64 * i : Nat) : Int) ≤ ((64 * (i + 1) : Nat) : Int) := by omega
    have hle2 : ((64 * (i + 1) : Nat) : Int) ≤ (x5.length : Int) := by omega
    have hd : i + 1 + d = q := by omega
    have hcut : ((x5.take (64 * (i + 1))).drop (64 * i)).length = 64 := by rw [List.length_drop, List.length_take]; omega
    have hw : wrap64 (((64 * i : Nat) : Int) + 64) = ((64 * (i + 1) : Nat) : Int) := by rw [hi1]; exact w64 (by omega) (by omega)
    obtain ⟨t, ht, htl⟩ := words_ev _ hcut
    obtain ⟨u, hu, hul, hur⟩ := mix_ev x3 t x4 h3 htl h4
    obtain ⟨r, h, hl, hrr⟩ := ih (i + 1) u hd hul hur
    refine ⟨r, Ev.step (f := fun k => (spec_l1Words.f k ((x5.take (64 * (i + 1))).drop (64 * i))).bind fun t177 => ((spec_l1Mix.f k x3 t177 x4).bind fun t180 => (spec_l1Sha.l0 k t180 x4 x5 ((64 * (i + 1) : Nat) : Int)))) (fun k => ?_) (Ev.bind ht (Ev.bind hu h)), hl, hrr⟩
    simp only [spec_l1Sha.l0]
    rw [if_pos hlt, if_pos hi0, hw, if_pos hle, if_pos hle2, Int.toNat_natCast, Int.toNat_natCast]
theorem sha_ev (s : ByteArray) (hs : s.size ≤ 1000000000) : ∃ r, Ev (fun k => spec_l1Sha.f k s) r ∧ r.length = 8 ∧ ∀ x ∈ r, 0 ≤ x ∧ x ≤ 4294967295 := by
  obtain ⟨p, q, hp, hpl, hpb⟩ := pad_ev s hs
  have hc : ∃ c : List Int × List Int, spec_l1Consts.f = some c ∧ c.1.length = 8 ∧ c.2.length = 64 ∧ ∀ x ∈ c.1, 0 ≤ x ∧ x ≤ 4294967295 := ⟨_, rfl, rfl, rfl, by decide⟩
  obtain ⟨c, hc, hc1, hc2, hc3⟩ := hc
  obtain ⟨r, hr, hl, hrr⟩ := sha_l0 c.2 p hc2 q hpl hpb q 0 c.1 (by omega) hc1 hc3
  refine ⟨r, ?_, hl, hrr⟩
  unfold spec_l1Sha.f
  exact Ev.b hc (Ev.bind hp hr)
theorem fig_hexd (j : Int) (h0 : 0 ≤ j) (h1 : j < 16) : hexd (bt (⟨#[48, 49, 50, 51, 52, 53, 54, 55, 56, 57, 97, 98, 99, 100, 101, 102]⟩ : ByteArray) j) = true := by
  have : j = 0 ∨ j = 1 ∨ j = 2 ∨ j = 3 ∨ j = 4 ∨ j = 5 ∨ j = 6 ∨ j = 7 ∨ j = 8 ∨ j = 9 ∨ j = 10 ∨ j = 11 ∨ j = 12 ∨ j = 13 ∨ j = 14 ∨ j = 15 := by omega
  rcases this with rfl | rfl | rfl | rfl | rfl | rfl | rfl | rfl | rfl | rfl | rfl | rfl | rfl | rfl | rfl | rfl <;> decide
theorem shr_nn {x : Int} (y : Int) (h : 0 ≤ x) : 0 ≤ shr .i64 x y := by
  unfold shr
  exact Int.ediv_nonneg h (Int.le_of_lt (Int.pow_pos (by decide)))
theorem hexd_byte {x : Int} (h : hexd x = true) : 0 ≤ x ∧ x ≤ 255 := by rw [hexd_iff] at h; omega
theorem hex_l0 (x : Int) (hx : 0 ≤ x) (d : Nat) : ∀ (l : List Int), l.length + d = 8 → (∀ y ∈ l, hexd y = true) →
    ∃ r, Ev (fun k => spec_l1Hex.l0 k x l ((d : Int) - 1)) (strOfNums r) ∧ r.length = 8 ∧ ∀ y ∈ r, hexd y = true := by
  induction d with
  | zero =>
    intro l hl hr
    refine ⟨l, Ev.step (f := fun _ => some (strOfNums l)) (fun k => ?_) (Ev.now _), by omega, hr⟩
    simp only [spec_l1Hex.l0]; rw [if_neg (by omega)]
  | succ d ih =>
    intro l hl hr
    have h8 : d ≤ 8 := by omega
    have hg : (((d + 1 : Nat) : Int) - 1) ≥ 0 := by omega
    have e : (((d + 1 : Nat) : Int) - 1) = (d : Int) := by omega
    have a0 : 0 ≤ 4 * (d : Int) := by omega
    have hlim : l.length < 140737488355328 := by omega
    have hll : (l.length + 1) + d = 8 := by omega
    have w0 : wrap64 (4 * (d : Int)) = 4 * (d : Int) := w64 (by omega) (by omega)
    have w1 : wrap64 ((d : Int) - 1) = (d : Int) - 1 := by clear w0; exact w64 (by omega) (by omega)
    have ht := tmod16 (shr_nn (x := x) (4 * (d : Int)) hx)
    obtain ⟨r, h, hrl, hrr⟩ := ih (l ++ [bt (⟨#[48, 49, 50, 51, 52, 53, 54, 55, 56, 57, 97, 98, 99, 100, 101, 102]⟩ : ByteArray) (Int.tmod (shr .i64 x (4 * (d : Int))) 16)]) (by rw [List.length_append, List.length_singleton]; exact hll)
      (fun y hy => by rcases List.mem_append.1 hy with hy | hy; exact hr y hy; rw [List.mem_singleton.1 hy]; exact fig_hexd _ ht.1 ht.2)
    refine ⟨r, Ev.step (fun k => ?_) h, hrl, hrr⟩
    simp only [spec_l1Hex.l0]
    rw [if_pos hg, e, w0, if_pos a0, if_pos ht.1, if_pos ht.2, if_pos hlim, w1]
theorem hex_ev (x : Int) (hx : 0 ≤ x) : ∃ r, Ev (fun k => spec_l1Hex.f k x) (strOfNums r) ∧ r.length = 8 ∧ ∀ y ∈ r, hexd y = true := by
  obtain ⟨r, h, hl, hr⟩ := hex_l0 x hx 8 [] (by simp) (by simp)
  refine ⟨r, ?_, hl, hr⟩
  unfold spec_l1Hex.f
  exact h
theorem sum_ev (s : ByteArray) (hs : s.size ≤ 1000000000) : ∃ t, Ev (fun k => spec_l1Sum.f k s) t ∧ sumB (bytesOf t) = true ∧ t.size = 16 := by
  obtain ⟨h, hh, hl, hr⟩ := sha_ev s hs
  have h0 : 0 ≤ rd h 0 := (hr _ (rd_mem 0 (by decide) (by omega))).1
  have h1 : 0 ≤ rd h 1 := (hr _ (rd_mem 1 (by decide) (by omega))).1
  obtain ⟨a, ha, hal, har⟩ := hex_ev _ h0
  obtain ⟨b, hb, hbl, hbr⟩ := hex_ev _ h1
  have hby : bytesOf (strOfNums a ++ strOfNums b) = a ++ b := by
    rw [bytes_append, bytes_str _ (fun x hx => hexd_byte (har x hx)), bytes_str _ (fun x hx => hexd_byte (hbr x hx))]
  refine ⟨strOfNums a ++ strOfNums b, ?_, ?_, ?_⟩
  · unfold spec_l1Sum.f
    exact Ev.bind hh (Ev.ifp (by omega) (Ev.bind ha (Ev.ifp (by omega) (Ev.bind hb (Ev.ifp (by rw [str_size, str_size]; omega) (Ev.now _))))))
  · rw [hby, sumB_iff]
    exact ⟨fun x hx => by rcases List.mem_append.1 hx with hx | hx; exact har x hx; exact hbr x hx, by rw [List.length_append]; omega⟩
  · rw [ByteArray.size_append, str_size, str_size]; omega

theorem dsum_ev {b : List Int} (hb : Code b) (p : Int) (h0 : 0 ≤ p) (h1 : p ≤ 1000000000000) : ∃ s q, Ev (fun k => spec_l20Sum.f k b p) (s, q) ∧ s.size ≤ 16 ∧ p ≤ q ∧ q ≤ p + 2 := by
  obtain ⟨v, hv, _, _⟩ := pick_lt hb p 10 h0 (by omega) (by omega)
  unfold spec_l20Sum.f
  by_cases hz : v = 0
  · obtain ⟨x, hm, hx⟩ := of_ev hb (p + 1) ([(⟨#[]⟩ : ByteArray), (⟨#[48, 48]⟩ : ByteArray), (⟨#[103, 48, 48, 48, 48, 48, 48, 48, 48, 48, 48, 48, 48, 48, 48, 48]⟩ : ByteArray), (⟨#[65, 66, 67, 68, 69, 70, 48, 49, 50, 51, 52, 53, 54, 55, 56, 57]⟩ : ByteArray)] : List ByteArray) (by omega) (by omega) (by decide)
    refine ⟨x, p + 1 + 1, Ev.bind hv (Ev.ifp hz (Ev.bind hx (Ev.now _))), ?_, by omega, by omega⟩
    simp only [List.mem_cons, List.not_mem_nil, or_false] at hm
    rcases hm with rfl | rfl | rfl | rfl <;> decide
  · obtain ⟨x, hx, hxs⟩ := item_ev hb (p + 1) (by omega) (by omega)
    obtain ⟨t, ht, _, hts⟩ := sum_ev x (by omega)
    exact ⟨t, p + 1 + 1, Ev.bind hv (Ev.ifn hz (Ev.bind hx (Ev.bind ht (Ev.now _)))), by omega, by omega, by omega⟩

theorem wsucc {i : Nat} (h : i ≤ 1000000000000) : wrap64 ((i : Int) + 1) = ((i + 1 : Nat) : Int) := by rw [w64 (by omega) (by omega)]; omega
theorem items_loop {b : List Int} (hb : Code b) : ∀ (d : Nat) (xs : List ByteArray) (p : Int), 0 ≤ p → p + d ≤ 1000000000 → xs.length + d ≤ 1000 → (∀ x ∈ xs, x.size ≤ 8) →
    ∃ ys q, Ev (fun k => spec_l20Items.l0 k xs (d : Int) b p) (ys, q) ∧ ys.length = xs.length + d ∧ (∀ x ∈ ys, x.size ≤ 8) ∧ p ≤ q ∧ q ≤ p + d
  | 0, xs, p, h0, h1, hx, hy => by
    refine ⟨xs, p, Ev.step (f := fun _ => some (xs, p)) (fun k => ?_) (Ev.now _), by omega, hy, by omega, by omega⟩
    simp only [spec_l20Items.l0]
    rw [if_neg (by omega)]
  | d + 1, xs, p, h0, h1, hx, hy => by
    obtain ⟨x, hx1, hxs⟩ := item_ev hb p h0 (by omega)
    obtain ⟨ys, q, he, hl, hz, hq0, hq1⟩ := items_loop hb d (xs ++ [x]) (p + 1) (by omega) (by omega) (by rw [List.length_append, List.length_singleton]; omega)
      (fun y h => (List.mem_append.1 h).elim (hy y) (fun h => by rw [List.mem_singleton.1 h]; exact hxs))
    rw [List.length_append, List.length_singleton] at hl
    refine ⟨ys, q, Ev.step (f := fun k => (spec_l20Item.f k b p).bind fun bt271 => (if xs.length < 8796093022208 then (spec_l20Items.l0 k (xs ++ [bt271.1]) (d : Int) b bt271.2) else (none))) (fun k => ?_) (Ev.bind hx1 (Ev.ifp (by omega) he)), by omega, hz, by omega, by omega⟩
    simp only [spec_l20Items.l0]
    rw [if_pos (by omega), w64 (by omega) (by omega), show ((d + 1 : Nat) : Int) - 1 = (d : Int) by omega]
theorem items_ev {b : List Int} (hb : Code b) (p m : Int) (h0 : 0 ≤ p) (h1 : p ≤ 100000000) (hm0 : 0 ≤ m) (hm1 : m ≤ 100) : ∃ ys q, Ev (fun k => spec_l20Items.f k b p m) (ys, q) ∧ (ys.length : Int) ≤ m ∧ (∀ x ∈ ys, x.size ≤ 8) ∧ p ≤ q ∧ q ≤ p + 1 + m := by
  obtain ⟨v, hv, hv0, hv1⟩ := pick_lt hb p (m + 1) h0 (by omega) (by omega)
  obtain ⟨ys, q, hy, hl, hz, hq0, hq1⟩ := items_loop hb v.toNat [] (p + 1) (by omega) (by omega) (by rw [List.length_nil]; omega) (fun x h => absurd h (by simp))
  rw [Int.toNat_of_nonneg hv0] at hy hq1
  rw [List.length_nil] at hl
  refine ⟨ys, q, ?_, by omega, hz, by omega, by omega⟩
  unfold spec_l20Items.f
  rw [← w64 (i := m + 1) (by omega) (by omega)] at hv
  exact Ev.bind hv hy

theorem bent_ev {b : List Int} (hb : Code b) (p : Int) (s : ByteArray) (hs : s.size ≤ 1000000000) (h0 : 0 ≤ p) (h1 : p ≤ 100000000) : ∃ t q, Ev (fun k => spec_l20Bent.f k b p s) (t, q) ∧ t.size ≤ s.size + 1 ∧ p ≤ q ∧ q ≤ p + 3 := by
  obtain ⟨v, hv, hv0, hv1⟩ := pick_lt hb p ((s.size : Int) + 1) h0 (by omega) (by omega)
  obtain ⟨u, hu, hu0, hu1⟩ := pick_lt hb (p + 1) 5 (by omega) (by omega) (by omega)
  have hw : wrap64 ((s.size : Int) + 1) = (s.size : Int) + 1 := w64 (by omega) (by omega)
  rw [← hw] at hv
  unfold spec_l20Bent.f
  by_cases c0 : u = 0
  · by_cases c1 : v < (s.size : Int)
    · obtain ⟨x, hx, hx1⟩ := of_ev hb (p + 1 + 1) ([(⟨#[48]⟩ : ByteArray), (⟨#[97]⟩ : ByteArray), (⟨#[32]⟩ : ByteArray), (⟨#[0]⟩ : ByteArray), (⟨#[255]⟩ : ByteArray), (⟨#[128]⟩ : ByteArray), (⟨#[102]⟩ : ByteArray), (⟨#[10]⟩ : ByteArray)] : List ByteArray) (by omega) (by omega) (by decide)
      have hxs : x.size = 1 := by
        simp only [List.mem_cons, List.not_mem_nil, or_false] at hx
        rcases hx with rfl | rfl | rfl | rfl | rfl | rfl | rfl | rfl <;> rfl
      have hw2 : wrap64 (v + 1) = v + 1 := w64 (by omega) (by omega)
      have e1 : (s.extract 0 (v : Int).toNat).size ≤ v.toNat := by rw [ByteArray.size_extract]; omega
      have e2 : (s.extract ((wrap64 (v + 1)) : Int).toNat s.size).size = s.size - (v.toNat + 1) := by rw [hw2, ByteArray.size_extract]; omega
      have e3 : ((s.extract 0 (v : Int).toNat) ++ x).size ≤ v.toNat + 1 := by rw [ByteArray.size_append]; omega
      refine ⟨((s.extract 0 (v : Int).toNat) ++ x) ++ (s.extract ((wrap64 (v + 1)) : Int).toNat s.size), p + 1 + 1 + 1, Ev.bind hv (Ev.bind hu (Ev.ifp c0 (Ev.ifp c1 (Ev.ifp hv0 (Ev.ifp (by show v ≤ (s.size : Int); omega) (Ev.bind hx1 (Ev.ifp (by show (s.extract 0 (v : Int).toNat).size + x.size ≤ 9223372036854775807; omega) (Ev.ifp (by show 0 ≤ wrap64 (v + 1); omega) (Ev.ifp (by show wrap64 (v + 1) ≤ (s.size : Int); omega) (Ev.ifp (by show ((s.extract 0 (v : Int).toNat) ++ x).size + (s.extract ((wrap64 (v + 1)) : Int).toNat s.size).size ≤ 9223372036854775807; omega) (Ev.now _))))))))))), by rw [ByteArray.size_append]; omega, by omega, by omega⟩
    · exact ⟨s, p + 1 + 1, Ev.bind hv (Ev.bind hu (Ev.ifp c0 (Ev.ifn c1 (Ev.now _)))), by omega, by omega, by omega⟩
  · by_cases c1 : u = 1
    · refine ⟨s.extract 0 (v : Int).toNat, p + 1 + 1, Ev.bind hv (Ev.bind hu (Ev.ifn c0 (Ev.ifp c1 (Ev.ifp hv0 (Ev.ifp (by show v ≤ (s.size : Int); omega) (Ev.now _)))))), by rw [ByteArray.size_extract]; omega, by omega, by omega⟩
    · by_cases c2 : u = 2
      · obtain ⟨x, hx, hx1⟩ := of_ev hb (p + 1 + 1) ([(⟨#[48]⟩ : ByteArray), (⟨#[32]⟩ : ByteArray), (⟨#[0]⟩ : ByteArray), (⟨#[255]⟩ : ByteArray)] : List ByteArray) (by omega) (by omega) (by decide)
        have hxs : x.size = 1 := by
          simp only [List.mem_cons, List.not_mem_nil, or_false] at hx
          rcases hx with rfl | rfl | rfl | rfl <;> rfl
        exact ⟨s ++ x, p + 1 + 1 + 1, Ev.bind hv (Ev.bind hu (Ev.ifn c0 (Ev.ifn c1 (Ev.ifp c2 (Ev.bind hx1 (Ev.ifp (by show s.size + x.size ≤ 9223372036854775807; omega) (Ev.now _))))))), by rw [ByteArray.size_append]; omega, by omega, by omega⟩
      · exact ⟨s, p + 1 + 1, Ev.bind hv (Ev.bind hu (Ev.ifn c0 (Ev.ifn c1 (Ev.ifn c2 (Ev.now _))))), by omega, by omega, by omega⟩

def hdB (h : S23) : Bool := headB h.f0 h.f1 h.f2 h.f3 h.f4
def bkOk (b : S142) : Prop := hdB b.f0 = true ∧ b.f1.length ≤ 4 ∧ ∀ s ∈ b.f1, s.size ≤ 8
def sumS (s : ByteArray) : Prop := sumB (bytesOf s) = true ∧ s.size = 16
theorem rdHM (l : List S23) (i : Int) (h0 : 0 ≤ i) (h1 : i < (l.length : Int)) : rd_T23 l i ∈ l := by
  unfold rd_T23
  rw [List.getD_eq_getElem?_getD, List.getElem?_eq_getElem (by omega), Option.getD_some]
  exact List.getElem_mem _
theorem rdBM (l : List S142) (i : Int) (h0 : 0 ≤ i) (h1 : i < (l.length : Int)) : rd_T142 l i ∈ l := by
  unfold rd_T142
  rw [List.getD_eq_getElem?_getD, List.getElem?_eq_getElem (by omega), Option.getD_some]
  exact List.getElem_mem _
theorem rdBA (l : List S142) (i : Nat) (h : i < l.length) : rd_T142 l (i : Int) = l[i] := by
  unfold rd_T142
  rw [Int.toNat_natCast, List.getD_eq_getElem?_getD, List.getElem?_eq_getElem h, Option.getD_some]
theorem mem_snoc {α : Type} {P : α → Prop} {l : List α} {a : α} (h : ∀ x ∈ l, P x) (ha : P a) : ∀ x ∈ l ++ [a], P x :=
  fun x hx => (List.mem_append.1 hx).elim (h x) (fun hx => by rw [List.mem_singleton.1 hx]; exact ha)
theorem len_snoc {α : Type} (l : List α) (a : α) : (l ++ [a]).length = l.length + 1 := by rw [List.length_append, List.length_singleton]
theorem heads_loop (l : List S142) (hl : l.length ≤ 1000) : ∀ (d i : Nat) (x : List S23), i + d = l.length → x.length = i → Ev (fun k => spec_l4Heads.l0 k l x (i : Int)) (x ++ (l.drop i).map (·.f0))
  | 0, i, x, h, hx => by
    refine Ev.step (f := fun _ => some (x ++ (l.drop i).map (·.f0))) (fun k => ?_) (Ev.now _)
    simp only [spec_l4Heads.l0]
    rw [if_neg (by omega), List.drop_eq_nil_of_le (by omega), List.map_nil, List.append_nil]
  | d + 1, i, x, h, hx => by
    have e := heads_loop l hl d (i + 1) (x ++ [l[i].f0]) (by omega) (by rw [len_snoc]; omega)
    rw [List.append_assoc, List.singleton_append] at e
    rw [List.drop_eq_getElem_cons (show i < l.length by omega), List.map_cons]
    refine Ev.step (f := fun k => spec_l4Heads.l0 k l (x ++ [l[i].f0]) ((i + 1 : Nat) : Int)) (fun k => ?_) e
    simp only [spec_l4Heads.l0]
    rw [if_pos (by omega), if_pos (by omega), if_pos (by omega), wsucc (i := i) (by omega), rdBA l i (by omega)]
theorem heads_ev (l : List S142) (hl : l.length ≤ 1000) : Ev (fun k => spec_l4Heads.f k l) (l.map (·.f0)) := by
  unfold spec_l4Heads.f
  exact heads_loop l hl l.length 0 [] (by omega) rfl
theorem row_loop (l : List ByteArray) (hl : l.length ≤ 1000) (hs : ∀ s ∈ l, s.size ≤ 1000) : ∀ (d i : Nat) (x : List ByteArray), i + d = l.length → x.length = i → (∀ s ∈ x, sumS s) →
    ∃ r, Ev (fun k => spec_l3Row.l0 k l x (i : Int)) r ∧ r.length = l.length ∧ ∀ s ∈ r, sumS s
  | 0, i, x, h, hx, hy => by
    refine ⟨x, Ev.step (f := fun _ => some x) (fun k => ?_) (Ev.now _), by omega, hy⟩
    simp only [spec_l3Row.l0]
    rw [if_neg (by omega)]
  | d + 1, i, x, h, hx, hy => by
    have hz := hs _ (rdOf_mem ByteArray.empty (i : Int) (by omega) (show (i : Int) < (l.length : Int) by omega))
    obtain ⟨t, ht, h1, h2⟩ := sum_ev ((⟨#[105, 116, 101, 109, 32]⟩ : ByteArray) ++ rdOf ByteArray.empty l (i : Int)) (by rw [ByteArray.size_append]; show 5 + _ ≤ _; omega)
    obtain ⟨r, hr, hrl, hrs⟩ := row_loop l hl hs d (i + 1) (x ++ [t]) (by omega) (by rw [len_snoc]; omega) (mem_snoc hy ⟨h1, h2⟩)
    refine ⟨r, Ev.step (f := fun k => (spec_l1Sum.f k ((⟨#[105, 116, 101, 109, 32]⟩ : ByteArray) ++ rdOf ByteArray.empty l (i : Int))).bind fun t207 => (if x.length < 8796093022208 then (spec_l3Row.l0 k l (x ++ [t207]) ((i + 1 : Nat) : Int)) else (none))) (fun k => ?_) (Ev.bind ht (Ev.ifp (by omega) hr)), hrl, hrs⟩
    simp only [spec_l3Row.l0]
    rw [if_pos (by omega), if_pos (by omega), if_pos (by omega), wsucc (i := i) (by omega)]
theorem row_ev (l : List ByteArray) (hl : l.length ≤ 1000) (hs : ∀ s ∈ l, s.size ≤ 1000) : ∃ r, Ev (fun k => spec_l3Row.f k l) r ∧ r.length = l.length ∧ ∀ s ∈ r, sumS s := by
  unfold spec_l3Row.f
  exact row_loop l hl hs l.length 0 [] (by omega) rfl (fun x h => absurd h (by simp))
theorem both_size (a b : ByteArray) (ha : a.size = 16) (hb : b.size = 16) : ((((⟨#[98, 111, 116, 104, 32]⟩ : ByteArray) ++ a) ++ (⟨#[32]⟩ : ByteArray)) ++ b).size = 38 ∧ (((⟨#[98, 111, 116, 104, 32]⟩ : ByteArray) ++ a) ++ (⟨#[32]⟩ : ByteArray)).size = 22 ∧ ((⟨#[98, 111, 116, 104, 32]⟩ : ByteArray) ++ a).size = 21 := by
  have e1 : (⟨#[98, 111, 116, 104, 32]⟩ : ByteArray).size = 5 := rfl
  have e2 : (⟨#[32]⟩ : ByteArray).size = 1 := rfl
  simp only [ByteArray.size_append]; omega
theorem up_loop (l : List ByteArray) (hl : l.length ≤ 1000) (hs : ∀ s ∈ l, sumS s) : ∀ (d i : Nat) (x : List ByteArray), l.length ≤ i + 2 * d → i ≤ 2000 → x.length ≤ i → (∀ s ∈ x, sumS s) →
    ∃ r, Ev (fun k => spec_l3Up.l0 k l x (i : Int)) r ∧ r.length = x.length + (l.length - i + 1) / 2 ∧ ∀ s ∈ r, sumS s
  | 0, i, x, h, hi, hx, hy => by
    refine ⟨x, Ev.step (f := fun _ => some x) (fun k => ?_) (Ev.now _), by omega, hy⟩
    simp only [spec_l3Up.l0]
    rw [if_neg (by omega)]
  | d + 1, i, x, h, hi, hx, hy => by
    by_cases h0 : i < l.length
    · have hi0 := hs _ (rdOf_mem ByteArray.empty (i : Int) (by omega) (show (i : Int) < (l.length : Int) by omega))
      have w2 : wrap64 ((i : Int) + 2) = ((i + 2 : Nat) : Int) := by rw [w64 (by omega) (by omega)]; omega
      have w1 := wsucc (i := i) (by omega)
      by_cases h1 : i + 1 < l.length
      · have hi1 := hs _ (rdOf_mem ByteArray.empty ((i + 1 : Nat) : Int) (by omega) (show ((i + 1 : Nat) : Int) < (l.length : Int) by omega))
        obtain ⟨s1, s2, s3⟩ := both_size _ _ hi0.2 hi1.2
        obtain ⟨t, ht, h3, h4⟩ := sum_ev ((((⟨#[98, 111, 116, 104, 32]⟩ : ByteArray) ++ rdOf ByteArray.empty l (i : Int)) ++ (⟨#[32]⟩ : ByteArray)) ++ rdOf ByteArray.empty l ((i + 1 : Nat) : Int)) (by omega)
        obtain ⟨r, hr, hrl, hrs⟩ := up_loop l hl hs d (i + 2) (x ++ [t]) (by omega) (by omega) (by rw [len_snoc]; omega) (mem_snoc hy ⟨h3, h4⟩)
        rw [len_snoc] at hrl
        refine ⟨r, Ev.step (f := fun k => (spec_l1Sum.f k ((((⟨#[98, 111, 116, 104, 32]⟩ : ByteArray) ++ rdOf ByteArray.empty l (i : Int)) ++ (⟨#[32]⟩ : ByteArray)) ++ rdOf ByteArray.empty l ((i + 1 : Nat) : Int))).bind fun t216 => (if x.length < 8796093022208 then (spec_l3Up.l0 k l (x ++ [t216]) ((i + 2 : Nat) : Int)) else (none))) (fun k => ?_) (Ev.bind ht (Ev.ifp (by omega) hr)), by omega, hrs⟩
        simp only [spec_l3Up.l0]
        have z0 := hi0.2
        have z1 := hi1.2
        rw [w1, w2, if_pos (by omega), if_pos (by omega), if_pos (by omega), if_pos (by omega), if_pos (by omega), if_pos (by omega), if_pos (by omega)]
      · obtain ⟨r, hr, hrl, hrs⟩ := up_loop l hl hs d (i + 2) (x ++ [rdOf ByteArray.empty l (i : Int)]) (by omega) (by omega) (by rw [len_snoc]; omega) (mem_snoc hy hi0)
        rw [len_snoc] at hrl
        refine ⟨r, Ev.step (f := fun k => spec_l3Up.l0 k l (x ++ [rdOf ByteArray.empty l (i : Int)]) ((i + 2 : Nat) : Int)) (fun k => ?_) hr, by omega, hrs⟩
        simp only [spec_l3Up.l0]
        rw [w1, w2, if_pos (by omega), if_neg (by omega), if_pos (by omega), if_pos (by omega)]
    · refine ⟨x, Ev.step (f := fun _ => some x) (fun k => ?_) (Ev.now _), by omega, hy⟩
      simp only [spec_l3Up.l0]
      rw [if_neg (by omega)]
theorem up_ev (l : List ByteArray) (hl : l.length ≤ 1000) (hs : ∀ s ∈ l, sumS s) : ∃ r, Ev (fun k => spec_l3Up.f k l) r ∧ r.length = (l.length + 1) / 2 ∧ ∀ s ∈ r, sumS s := by
  obtain ⟨r, hr, h1, h2⟩ := up_loop l hl hs l.length 0 [] (by omega) (by omega) (by rw [List.length_nil]; omega) (fun x h => absurd h (by simp))
  rw [List.length_nil] at h1
  unfold spec_l3Up.f
  exact ⟨r, hr, by omega, h2⟩
theorem root3_loop : ∀ (n : Nat) (l : List ByteArray), l.length ≤ n → 1 ≤ l.length → l.length ≤ 1000 → (∀ s ∈ l, sumS s) → ∃ t, Ev (fun k => spec_l3Root.l0 k l) t ∧ sumS t
  | 0, l, h, h1, h2, hs => absurd h (by omega)
  | n + 1, l, h, h1, h2, hs => by
    by_cases hl : l.length = 1
    · refine ⟨rdOf ByteArray.empty l 0, Ev.step (f := fun _ => some (rdOf ByteArray.empty l 0)) (fun k => ?_) (Ev.now _), hs _ (rdOf_mem ByteArray.empty 0 (by omega) (by omega))⟩
      simp only [spec_l3Root.l0]
      rw [if_neg (by omega), if_pos (by omega)]
    · obtain ⟨r, hr, h3, h4⟩ := up_ev l h2 hs
      obtain ⟨t, ht, h5⟩ := root3_loop n r (by omega) (by omega) (by omega) h4
      refine ⟨t, Ev.step (f := fun k => (spec_l3Up.f k l).bind fun t228 => (spec_l3Root.l0 k t228)) (fun k => ?_) (Ev.bind hr ht), h5⟩
      simp only [spec_l3Root.l0]
      rw [if_pos (by omega)]
theorem root3_ev (l : List ByteArray) (hl : l.length ≤ 1000) (hs : ∀ s ∈ l, s.size ≤ 1000) : ∃ t, Ev (fun k => spec_l3Root.f k l) t ∧ sumS t := by
  obtain ⟨r, hr, h1, h2⟩ := row_ev l hl hs
  unfold spec_l3Root.f
  by_cases h0 : (r.length : Int) = 0
  · obtain ⟨t, ht, h3, h4⟩ := sum_ev (⟨#[]⟩ : ByteArray) (by show 0 ≤ _; omega)
    exact ⟨t, Ev.bind hr (Ev.ifp h0 (Ev.bind ht (Ev.now _))), h3, h4⟩
  · obtain ⟨t, ht, h3⟩ := root3_loop r.length r (by omega) (by omega) (by omega) h2
    exact ⟨t, Ev.bind hr (Ev.ifn h0 ht), h3⟩
theorem diff_j (x5 : Int) {x4 : Int} {b : Bool} (h : 1 ≤ x4 ∧ x4 ≤ 8) (hb : b = true → x4 < 8) : ∃ d, Ev (fun k => spec_l4Diff.j0 k x4 x5 b) d ∧ 1 ≤ d ∧ d ≤ 8 := by
  by_cases h1 : b = true
  · have h2 := hb h1
    refine ⟨x4 + 1, Ev.step (f := fun _ => some (x4 + 1)) (fun k => ?_) (Ev.now _), by omega, by omega⟩
    simp only [spec_l4Diff.j0]
    rw [if_pos h1, w64 (by omega) (by omega)]
  · by_cases h2 : x5 > 60
    · by_cases h3 : x4 > 1
      · refine ⟨x4 - 1, Ev.step (f := fun _ => some (x4 - 1)) (fun k => ?_) (Ev.now _), by omega, by omega⟩
        simp only [spec_l4Diff.j0]
        rw [if_neg h1, if_pos h2, if_pos h3, w64 (by omega) (by omega)]
      · refine ⟨x4, Ev.step (f := fun _ => some x4) (fun k => ?_) (Ev.now _), by omega, by omega⟩
        simp only [spec_l4Diff.j0]
        rw [if_neg h1, if_pos h2, if_neg h3]
    · refine ⟨x4, Ev.step (f := fun _ => some x4) (fun k => ?_) (Ev.now _), by omega, by omega⟩
      simp only [spec_l4Diff.j0]
      rw [if_neg h1, if_neg h2]
theorem diff_ev (l : List S23) (hl : l.length ≤ 1000) (hh : ∀ h ∈ l, hdB h = true) : ∃ d, Ev (fun k => spec_l4Diff.f k l) d ∧ (1 ≤ d ∧ d ≤ 8) ∧ (l = [] → d = 1) := by
  unfold spec_l4Diff.f
  by_cases h0 : (l.length : Int) = 0
  · exact ⟨1, Ev.ifp h0 (Ev.now _), by omega, fun _ => rfl⟩
  · have hn : ¬ l = [] := fun h => h0 (by rw [h]; rfl)
    have w1 : wrap64 ((l.length : Int) - 1) = (l.length : Int) - 1 := w64 (by omega) (by omega)
    have ha := hh _ (rdHM l ((l.length : Int) - 1) (by omega) (by omega))
    have hd := ((headB_iff _ _ _ _ _).1 ha).2.2.2.1
    rw [w1]
    by_cases h4 : (l.length : Int) % 4 = 0
    · have w4 : wrap64 ((l.length : Int) - 4) = (l.length : Int) - 4 := w64 (by omega) (by omega)
      rw [w4]
      generalize wrap64 ((rd_T23 l ((l.length : Int) - 1)).f2 - (rd_T23 l ((l.length : Int) - 4)).f2) = sp
      by_cases h5 : sp < 20
      · obtain ⟨d, he, h6⟩ := diff_j sp (b := decide ((rd_T23 l ((l.length : Int) - 1)).f3 < 8)) hd of_decide_eq_true
        exact ⟨d, Ev.ifn h0 (Ev.ifp (by omega) (Ev.ifp (by omega) (Ev.ifp h4 (Ev.ifp (by omega) (Ev.ifp (by omega) (Ev.ifp h5 he)))))), h6, fun h => absurd h hn⟩
      · obtain ⟨d, he, h6⟩ := diff_j sp (b := false) hd (fun h => by cases h)
        exact ⟨d, Ev.ifn h0 (Ev.ifp (by omega) (Ev.ifp (by omega) (Ev.ifp h4 (Ev.ifp (by omega) (Ev.ifp (by omega) (Ev.ifn h5 he)))))), h6, fun h => absurd h hn⟩
    · exact ⟨_, Ev.ifn h0 (Ev.ifp (by omega) (Ev.ifp (by omega) (Ev.ifn h4 (Ev.now _)))), hd, fun h => absurd h hn⟩
theorem sum3_ev {p r : ByteArray} {t d n : Int} (h : headB p r t d n = true) : ∃ s, Ev (fun k => spec_l3Sum.f k p r t d n) s ∧ sumS s := by
  have hz := headS_size h
  obtain ⟨s, hs, h1, h2⟩ := sum_ev ((⟨#[104, 101, 97, 100, 32]⟩ : ByteArray) ++ headS p r t d n) (by rw [ByteArray.size_append]; show 5 + _ ≤ _; omega)
  unfold spec_l3Sum.f
  exact ⟨s, Ev.bind (specHeadS_ev h) (Ev.ifp (by omega) (Ev.bind hs (Ev.now _))), h1, h2⟩
theorem meets_ev {p r : ByteArray} {t d n : Int} (h : headB p r t d n = true) : ∃ b, Ev (fun k => spec_l3Meets.f k p r t d n) b ∧ (d = 1 → b = true) := by
  obtain ⟨s, hs, h1, h2⟩ := sum3_ev h
  have hx := ((sumB_iff _).1 h1).1
  have hr := head31_range hx
  have e := specHead_ev s (by omega) (by omega) hx
  unfold spec_l3Meets.f
  refine ⟨_, Ev.bind hs (Ev.bind e (Ev.now _)), fun hd => ?_⟩
  rw [hd, Int.tdiv_eq_ediv_of_nonneg hr.1, decide_eq_true_iff, w64 (i := head31 (bytesOf s) / 65536) (by omega) (by omega), w64 (by omega) (by omega)]
  omega
theorem mine_loop {p r : ByteArray} {t df : Int} (h : headB p r t df 0 = true) : ∀ (d n : Nat), n + d = 401 →
    ∃ q : ByteArray × ByteArray × Int × Int × Int × Bool, Ev (fun k => spec_l3Mine.l0 k p r t df (n : Int)) q ∧ (q.2.2.2.2.2 = true → headB q.1 q.2.1 q.2.2.1 q.2.2.2.1 q.2.2.2.2.1 = true) ∧ (df = 1 → n ≤ 400 → q.2.2.2.2.2 = true)
  | 0, n, hn => by
    refine ⟨_, Ev.step (f := fun _ => some ((⟨#[]⟩ : ByteArray), (⟨#[]⟩ : ByteArray), 0, 0, 0, false)) (fun k => ?_) (Ev.now _), fun h => (by cases h), fun _ h => absurd h (by omega)⟩
    simp only [spec_l3Mine.l0]
    rw [if_neg (by omega)]
  | d + 1, n, hn => by
    have hh : headB p r t df (n : Int) = true := by rw [headB_iff] at h ⊢; exact ⟨h.1, h.2.1, h.2.2.1, h.2.2.2.1, by omega, by omega⟩
    obtain ⟨b, hb, hb1⟩ := meets_ev hh
    by_cases hbt : b = true
    · refine ⟨_, Ev.step (f := fun k => (spec_l3Meets.f k p r t df (n : Int)).bind fun t255 => (if t255 = true then (some (p, r, t, df, (n : Int), true)) else (spec_l3Mine.l0 k p r t df ((n + 1 : Nat) : Int)))) (fun k => ?_) (Ev.bind hb (Ev.ifp hbt (Ev.now _))), fun _ => hh, fun _ _ => rfl⟩
      simp only [spec_l3Mine.l0]
      rw [if_pos (by omega), wsucc (i := n) (by omega)]
    · obtain ⟨q, hq, h1, h2⟩ := mine_loop h d (n + 1) (by omega)
      refine ⟨q, Ev.step (f := fun k => (spec_l3Meets.f k p r t df (n : Int)).bind fun t255 => (if t255 = true then (some (p, r, t, df, (n : Int), true)) else (spec_l3Mine.l0 k p r t df ((n + 1 : Nat) : Int)))) (fun k => ?_) (Ev.bind hb (Ev.ifn hbt hq)), h1, fun h _ => absurd (hb1 h) hbt⟩
      simp only [spec_l3Mine.l0]
      rw [if_pos (by omega), wsucc (i := n) (by omega)]
theorem copy_loop (l : List S142) (hl : l.length ≤ 1000) (hb : ∀ b ∈ l, bkOk b) : ∀ (d i : Nat) (x : List S142), i + d = l.length → x.length = i → Ev (fun k => spec_l4Copy.l0 k l x (i : Int)) (x ++ l.drop i)
  | 0, i, x, h, hx => by
    refine Ev.step (f := fun _ => some (x ++ l.drop i)) (fun k => ?_) (Ev.now _)
    simp only [spec_l4Copy.l0]
    rw [if_neg (by omega), List.drop_eq_nil_of_le (by omega), List.append_nil]
  | d + 1, i, x, h, hx => by
    have hi := (hb _ (List.getElem_mem (show i < l.length by omega))).2.1
    have e := copy_loop l hl hb d (i + 1) (x ++ [l[i]]) (by omega) (by rw [len_snoc]; omega)
    rw [List.append_assoc, List.singleton_append] at e
    rw [List.drop_eq_getElem_cons (show i < l.length by omega)]
    refine Ev.step (f := fun k => spec_l4Copy.l0 k l (x ++ [l[i]]) ((i + 1 : Nat) : Int)) (fun k => ?_) e
    simp only [spec_l4Copy.l0, Option.bind_some]
    rw [if_pos (by omega), if_pos (by omega), rdBA l i (by omega), if_pos (by rw [List.length_nil]; omega), if_pos (by omega), wsucc (i := i) (by omega)]
    rfl
theorem copy_ev (l : List S142) (hl : l.length ≤ 1000) (hb : ∀ b ∈ l, bkOk b) : Ev (fun k => spec_l4Copy.f k l) l := by
  unfold spec_l4Copy.f
  exact copy_loop l hl hb l.length 0 [] (by omega) rfl
theorem mine_j1 {l : List S142} (hl : l.length ≤ 1000) (hb : ∀ b ∈ l, bkOk b) {m : List ByteArray} (hm : m.length ≤ 4) (hz : ∀ s ∈ m, s.size ≤ 8) {p r : ByteArray} {t df : Int} {c : Bool} (h : c = false → headB p r t df 0 = true) :
    ∃ l' b, Ev (fun k => spec_l4Mine.j1 k l m c p r t df 0) (l', b) ∧ (b = true → (∀ x ∈ l', bkOk x) ∧ l'.length = l.length + 1) ∧ (c = false → df = 1 → b = true) := by
  by_cases hc : c = true
  · refine ⟨l, false, Ev.step (f := fun _ => some (l, false)) (fun k => ?_) (Ev.now _), fun h => (by cases h), fun h => (by rw [hc] at h; cases h)⟩
    simp only [spec_l4Mine.j1]
    rw [if_pos hc]
  · have hcf : c = false := by cases c <;> simp_all
    obtain ⟨q, hq, h1, h2⟩ := mine_loop (h hcf) 401 0 (by omega)
    have hq' : Ev (fun k => spec_l3Mine.f k p r t df 0) q := by unfold spec_l3Mine.f; exact hq
    by_cases ht : q.2.2.2.2.2 = true
    · refine ⟨l ++ [⟨⟨q.1, q.2.1, q.2.2.1, q.2.2.2.1, q.2.2.2.2.1⟩, m⟩], true, Ev.step (f := fun k => (spec_l3Mine.f k p r t df 0).bind fun bt281 => (if bt281.2.2.2.2.2 = true then ((spec_l4Copy.f k l).bind fun t288 => ((some (([] : List ByteArray) : List ByteArray)).bind fun y291 => (if y291.length + m.length < 8796093022208 then (if t288.length < 1759218604441 then (some ((t288 ++ [(⟨(⟨bt281.1, bt281.2.1, bt281.2.2.1, bt281.2.2.2.1, bt281.2.2.2.2.1⟩ : S23), (y291 ++ m)⟩ : S142)]), true)) else (none)) else (none)))) else (some (l, false)))) (fun k => ?_) (Ev.bind hq' (Ev.ifp ht (Ev.bind (copy_ev l hl hb) (Ev.b rfl (Ev.ifp (by rw [List.length_nil]; omega) (Ev.ifp (by omega) (Ev.now _))))))), fun _ => ⟨mem_snoc hb (by exact ⟨h1 ht, hm, hz⟩), len_snoc _ _⟩, fun _ _ => rfl⟩
      simp only [spec_l4Mine.j1]
      rw [if_neg hc]
    · refine ⟨l, false, Ev.step (f := fun k => (spec_l3Mine.f k p r t df 0).bind fun bt281 => (if bt281.2.2.2.2.2 = true then ((spec_l4Copy.f k l).bind fun t288 => ((some (([] : List ByteArray) : List ByteArray)).bind fun y291 => (if y291.length + m.length < 8796093022208 then (if t288.length < 1759218604441 then (some ((t288 ++ [(⟨(⟨bt281.1, bt281.2.1, bt281.2.2.1, bt281.2.2.2.1, bt281.2.2.2.2.1⟩ : S23), (y291 ++ m)⟩ : S142)]), true)) else (none)) else (none)))) else (some (l, false)))) (fun k => ?_) (Ev.bind hq' (Ev.ifn ht (Ev.now _))), fun h => (by cases h), fun _ h => absurd (h2 h (by omega)) ht⟩
      simp only [spec_l4Mine.j1]
      rw [if_neg hc]
theorem mine_j0 {l : List S142} (hl : l.length ≤ 1000) (hb : ∀ b ∈ l, bkOk b) {m : List ByteArray} (hm : m.length ≤ 4) (hz : ∀ s ∈ m, s.size ≤ 8) {p r : ByteArray} (hp : sumS p) (hr : sumS r) {t df : Int} (hd : 1 ≤ df ∧ df ≤ 8) :
    ∃ l' b, Ev (fun k => spec_l4Mine.j0 k l t m (l.map (·.f0)) p r t df 0) (l', b) ∧ (b = true → (∀ x ∈ l', bkOk x) ∧ l'.length = l.length + 1) ∧ (l = [] → 0 ≤ t → t ≤ 99999 → df = 1 → b = true) := by
  have hmap : (l.map (·.f0)).length = l.length := List.length_map _
  have hB : 0 ≤ t ∧ t ≤ 99999 → headB p r t df 0 = true := fun h => (headB_iff _ _ _ _ _).2 ⟨hp.1, hr.1, h, hd, by omega, by omega⟩
  by_cases h20 : (l.length : Int) ≥ 20
  · obtain ⟨l', b, he, h1, h2⟩ := mine_j1 hl hb hm hz (p := p) (r := r) (t := t) (df := df) (c := true) (fun h => by cases h)
    refine ⟨l', b, Ev.step (f := fun k => spec_l4Mine.j1 k l m true p r t df 0) (fun k => ?_) he, h1, fun h => absurd h20 (by rw [h, List.length_nil]; omega)⟩
    simp only [spec_l4Mine.j0]
    rw [if_pos h20]
  · by_cases ht : 0 ≤ t ∧ t ≤ 99999
    · by_cases h0 : (l.length : Int) > 0
      · have w1 : wrap64 ((l.length : Int) - 1) = (l.length : Int) - 1 := w64 (by omega) (by omega)
        obtain ⟨l', b, he, h1, h2⟩ := mine_j1 hl hb hm hz (p := p) (r := r) (t := t) (df := df) (c := decide (t ≤ (rd_T23 (l.map (·.f0)) ((l.length : Int) - 1)).f2)) (fun _ => hB ht)
        refine ⟨l', b, Ev.step (f := fun k => spec_l4Mine.j1 k l m (decide (t ≤ (rd_T23 (l.map (·.f0)) ((l.length : Int) - 1)).f2)) p r t df 0) (fun k => ?_) he, h1, fun h => absurd h0 (by rw [h, List.length_nil]; omega)⟩
        simp only [spec_l4Mine.j0]
        rw [if_neg h20, specIn, Option.bind_some, if_pos (decide_eq_true ht), if_pos h0, hmap, w1, if_pos (by omega), if_pos (by omega)]
      · obtain ⟨l', b, he, h1, h2⟩ := mine_j1 hl hb hm hz (p := p) (r := r) (t := t) (df := df) (c := false) (fun _ => hB ht)
        refine ⟨l', b, Ev.step (f := fun k => spec_l4Mine.j1 k l m false p r t df 0) (fun k => ?_) he, h1, fun _ _ _ h => h2 rfl h⟩
        simp only [spec_l4Mine.j0]
        rw [if_neg h20, specIn, Option.bind_some, if_pos (decide_eq_true ht), if_neg h0]
    · obtain ⟨l', b, he, h1, h2⟩ := mine_j1 hl hb hm hz (p := p) (r := r) (t := t) (df := df) (c := true) (fun h => by cases h)
      refine ⟨l', b, Ev.step (f := fun k => spec_l4Mine.j1 k l m true p r t df 0) (fun k => ?_) he, h1, fun _ h3 h4 => absurd ⟨h3, h4⟩ ht⟩
      simp only [spec_l4Mine.j0]
      rw [if_neg h20, specIn, Option.bind_some, if_neg (by rw [decide_eq_true_iff]; exact ht)]
theorem mine4_ev {l : List S142} (hl : l.length ≤ 1000) (hb : ∀ b ∈ l, bkOk b) {m : List ByteArray} (hm : m.length ≤ 4) (hz : ∀ s ∈ m, s.size ≤ 8) (t : Int) :
    ∃ l' b, Ev (fun k => spec_l4Mine.f k l t m) (l', b) ∧ (b = true → (∀ x ∈ l', bkOk x) ∧ l'.length = l.length + 1) ∧ (l = [] → 0 ≤ t → t ≤ 99999 → b = true) := by
  have hmap : (l.map (·.f0)).length = l.length := List.length_map _
  have hh : ∀ h ∈ l.map (·.f0), hdB h = true := fun h hm => by obtain ⟨b, hb1, rfl⟩ := List.mem_map.1 hm; exact (hb b hb1).1
  obtain ⟨r, hr, hrs⟩ := root3_ev m (by omega) (fun s h => Nat.le_trans (hz s h) (by omega))
  obtain ⟨d, hd, hd1, hd2⟩ := diff_ev (l.map (·.f0)) (by omega) hh
  have z0 : spec_l4Zero.f = some (⟨#[48, 48, 48, 48, 48, 48, 48, 48, 48, 48, 48, 48, 48, 48, 48, 48]⟩ : ByteArray) := rfl
  have zs : sumS (⟨#[48, 48, 48, 48, 48, 48, 48, 48, 48, 48, 48, 48, 48, 48, 48, 48]⟩ : ByteArray) := ⟨by decide, rfl⟩
  unfold spec_l4Mine.f
  by_cases h0 : (l.length : Int) > 0
  · have w1 : wrap64 (((l.map (·.f0)).length : Int) - 1) = (l.length : Int) - 1 := by rw [hmap]; exact w64 (by omega) (by omega)
    obtain ⟨s, hs, hss⟩ := sum3_ev (hh _ (rdHM (l.map (·.f0)) ((l.length : Int) - 1) (by omega) (by omega)))
    obtain ⟨l', b, he, h1, h2⟩ := mine_j0 hl hb hm hz hss hrs (t := t) hd1
    rw [← w1] at hs
    exact ⟨l', b, Ev.bind (heads_ev l hl) (Ev.b z0 (Ev.bind hr (Ev.bind hd (Ev.ifp h0 (Ev.ifp (show 0 ≤ wrap64 (((l.map (·.f0)).length : Int) - 1) by rw [w1]; omega) (Ev.ifp (show wrap64 (((l.map (·.f0)).length : Int) - 1) < ((l.map (·.f0)).length : Int) by rw [w1]; omega) (Ev.bind hs he))))))), h1, fun h => absurd h0 (by rw [h, List.length_nil]; omega)⟩
  · obtain ⟨l', b, he, h1, h2⟩ := mine_j0 hl hb hm hz zs hrs (t := t) hd1
    exact ⟨l', b, Ev.bind (heads_ev l hl) (Ev.b z0 (Ev.bind hr (Ev.bind hd (Ev.ifn h0 he)))), h1, fun h h3 h4 => h2 h h3 h4 (hd2 (by rw [h]; rfl))⟩
theorem chain_loop {b : List Int} (hb : Code b) : ∀ (d : Nat) (l : List S142) (t p : Int), 0 ≤ p → p + 10 * d ≤ 100000000 → 0 ≤ t → t + 30 * d ≤ 99999 → l.length + d ≤ 100 → (∀ x ∈ l, bkOk x) → (l = [] → 0 < d) →
    ∃ l' q, Ev (fun k => spec_l20Chain.l0 k l t (d : Int) b p) (l', q) ∧ (∀ x ∈ l', bkOk x) ∧ 1 ≤ l'.length ∧ l'.length ≤ l.length + d ∧ p ≤ q ∧ q ≤ p + 10 * d
  | 0, l, t, p, h0, h1, h2, h3, h4, h5, h6 => by
    have : 1 ≤ l.length := by cases l with | nil => exact absurd (h6 rfl) (by omega) | cons a b => simp
    refine ⟨l, p, Ev.step (f := fun _ => some (l, p)) (fun k => ?_) (Ev.now _), h5, this, by omega, by omega, by omega⟩
    simp only [spec_l20Chain.l0]
    rw [if_neg (by omega)]
  | d + 1, l, t, p, h0, h1, h2, h3, h4, h5, h6 => by
    obtain ⟨v, hv, he⟩ := one_ev hb p [1, 5, 5, 9, 30] h0 (by omega) (by decide)
    have hv1 : 1 ≤ v ∧ v ≤ 30 := by
      simp only [List.mem_cons, List.not_mem_nil, or_false] at hv
      omega
    obtain ⟨ys, q, hy, hl, hz, hq0, hq1⟩ := items_ev hb (p + 1) 4 (by omega) (by omega) (by omega) (by omega)
    obtain ⟨l', c, hm, hc1, hc2⟩ := mine4_ev (by omega) h5 (by omega) hz (t + v)
    have w1 : wrap64 (t + v) = t + v := w64 (by omega) (by omega)
    have w2 : wrap64 (((d + 1 : Nat) : Int) - 1) = (d : Int) := by rw [w64 (by omega) (by omega)]; omega
    by_cases hc : c = true
    · obtain ⟨h7, h8⟩ := hc1 hc
      obtain ⟨l2, q2, hr, r1, r2, r3, r4, r5⟩ := chain_loop hb d l' (t + v) q (by omega) (by omega) (by omega) (by omega) (by omega) h7 (fun h => by rw [h, List.length_nil] at h8; omega)
      refine ⟨l2, q2, Ev.step (f := fun k => (spec_l20Rd_one.f k b p (([1, 5, 5, 9, 30] : List Int))).bind fun bt322 => ((spec_l20Items.f k b bt322.2 4).bind fun bt324 => ((spec_l4Mine.f k l (wrap64 (t + bt322.1)) bt324.1).bind fun bt328 => (if bt328.2 = true then (spec_l20Chain.l0 k bt328.1 (wrap64 (t + bt322.1)) (d : Int) b bt324.2) else (spec_l20Chain.l0 k l (wrap64 (t + bt322.1)) (d : Int) b bt324.2))))) (fun k => ?_) (Ev.bind he (Ev.bind hy (Ev.bind (by show Ev (fun k => spec_l4Mine.f k l (wrap64 (t + v)) ys) _; rw [w1]; exact hm) (Ev.ifp hc (by show Ev (fun k => spec_l20Chain.l0 k l' (wrap64 (t + v)) (d : Int) b q) _; rw [w1]; exact hr))))), r1, r2, by omega, by omega, by omega⟩
      simp only [spec_l20Chain.l0]
      rw [if_pos (by omega), w2]
    · have hne : ¬ l = [] := fun h => hc (hc2 h (by omega) (by omega))
      obtain ⟨l2, q2, hr, r1, r2, r3, r4, r5⟩ := chain_loop hb d l (t + v) q (by omega) (by omega) (by omega) (by omega) (by omega) h5 (fun h => absurd h hne)
      refine ⟨l2, q2, Ev.step (f := fun k => (spec_l20Rd_one.f k b p (([1, 5, 5, 9, 30] : List Int))).bind fun bt322 => ((spec_l20Items.f k b bt322.2 4).bind fun bt324 => ((spec_l4Mine.f k l (wrap64 (t + bt322.1)) bt324.1).bind fun bt328 => (if bt328.2 = true then (spec_l20Chain.l0 k bt328.1 (wrap64 (t + bt322.1)) (d : Int) b bt324.2) else (spec_l20Chain.l0 k l (wrap64 (t + bt322.1)) (d : Int) b bt324.2))))) (fun k => ?_) (Ev.bind he (Ev.bind hy (Ev.bind (by show Ev (fun k => spec_l4Mine.f k l (wrap64 (t + v)) ys) _; rw [w1]; exact hm) (Ev.ifn hc (by show Ev (fun k => spec_l20Chain.l0 k l (wrap64 (t + v)) (d : Int) b q) _; rw [w1]; exact hr))))), r1, r2, by omega, by omega, by omega⟩
      simp only [spec_l20Chain.l0]
      rw [if_pos (by omega), w2]
theorem chain_ev {b : List Int} (hb : Code b) (p : Int) (n : Nat) (h0 : 0 ≤ p) (h1 : p ≤ 1000000) (hn0 : 0 < n) (hn1 : n ≤ 20) :
    ∃ l q, Ev (fun k => spec_l20Chain.f k b p [] (n : Int)) (l, q) ∧ (∀ x ∈ l, bkOk x) ∧ 1 ≤ l.length ∧ l.length ≤ 20 ∧ p ≤ q ∧ q ≤ p + 200 := by
  obtain ⟨l, q, he, r1, r2, r3, r4, r5⟩ := chain_loop hb n [] 0 p h0 (by omega) (by omega) (by omega) (by rw [List.length_nil]; omega) (fun x h => absurd h (by simp)) (fun _ => hn0)
  rw [List.length_nil] at r3
  unfold spec_l20Chain.f
  refine ⟨l, q, Ev.ifn (by simp) (Ev.step (f := fun k => spec_l20Chain.l0 k [] 0 (n : Int) b p) (fun k => ?_) he), r1, r2, by omega, r4, by omega⟩
  simp only [spec_l20Chain.j0]

def hdS (h : S23) : Prop := h.f0.size ≤ 16 ∧ h.f1.size ≤ 16
theorem bk_hdS {x : S142} (h : bkOk x) : hdS x.f0 := by
  have := headB_size h.1
  exact ⟨by omega, by omega⟩
theorem chain0_ev {b : List Int} (p : Int) : Ev (fun k => spec_l20Chain.f k b p [] 0) (([] : List S142), p) := by
  unfold spec_l20Chain.f
  refine Ev.ifn (by simp) (Ev.step (f := fun k => spec_l20Chain.l0 k [] 0 0 b p) (fun k => ?_) (Ev.step (f := fun _ => some (([] : List S142), p)) (fun k => ?_) (Ev.now _)))
  · simp only [spec_l20Chain.j0]
  · simp only [spec_l20Chain.l0]
    rw [if_neg (by omega)]
theorem blocks_ev {b : List Int} (hb : Code b) (p : Int) (h0 : 0 ≤ p) (h1 : p ≤ 100000) :
    ∃ l q, Ev (fun k => spec_l20Blocks.f k b p) (l, q) ∧ (∀ x ∈ l, bkOk x) ∧ l.length ≤ 20 ∧ p ≤ q ∧ q ≤ p + 201 := by
  obtain ⟨n, hn, he⟩ := one_ev hb p [0, 1, 3, 5, 8, 8, 13] h0 (by omega) (by decide)
  have hn1 : 0 ≤ n ∧ n ≤ 13 := by
    simp only [List.mem_cons, List.not_mem_nil, or_false] at hn
    omega
  unfold spec_l20Blocks.f
  by_cases hz : n = 0
  · subst hz
    exact ⟨[], p + 1, Ev.bind he (Ev.bind (chain0_ev (p + 1)) (Ev.now _)), fun x h => absurd h (by simp), by simp, by omega, by omega⟩
  · obtain ⟨l, q, hc, r1, _, r2, r3, r4⟩ := chain_ev hb (p + 1) n.toNat (by omega) (by omega) (by omega) (by omega)
    rw [Int.toNat_of_nonneg hn1.1] at hc
    exact ⟨l, q, Ev.bind he (Ev.bind hc (Ev.now _)), r1, r2, by omega, by omega⟩
theorem anyItem_ev {b : List Int} (hb : Code b) (p : Int) (h0 : 0 ≤ p) (h1 : p ≤ 1000000) : ∃ s, Ev (fun k => spec_l20AnyItem.f k b p) (s, p + 2) := by
  obtain ⟨v, hv, _, _⟩ := pick_lt hb p 10 h0 (by omega) (by omega)
  unfold spec_l20AnyItem.f
  rw [show p + 2 = p + 1 + 1 by omega]
  by_cases hz : v = 0
  · obtain ⟨x, _, hx⟩ := of_ev hb (p + 1) ([(⟨#[]⟩ : ByteArray), (⟨#[65]⟩ : ByteArray), (⟨#[116, 111, 111, 108, 111, 110, 103, 101, 114]⟩ : ByteArray), (⟨#[97, 32, 98]⟩ : ByteArray)] : List ByteArray) (by omega) (by omega) (by decide)
    exact ⟨x, Ev.bind hv (Ev.ifp hz (Ev.bind hx (Ev.now _)))⟩
  · obtain ⟨x, hx, _⟩ := item_ev hb (p + 1) (by omega) (by omega)
    exact ⟨x, Ev.bind hv (Ev.ifn hz (Ev.bind hx (Ev.now _)))⟩
theorem mem_set {α : Type} {P : α → Prop} {l : List α} {i : Nat} {a : α} (h : ∀ x ∈ l, P x) (ha : P a) : ∀ x ∈ l.set i a, P x :=
  fun x hx => (List.mem_or_eq_of_mem_set hx).elim (h x) (fun e => by rw [e]; exact ha)
theorem len_set {α : Type} {l : List α} {i : Nat} {a : α} (h : l.length ≤ 20) : (l.set i a).length ≤ 20 := by rw [List.length_set]; exact h
theorem len_cut {α : Type} {l : List α} {i : Int} {a : α} (h : l.length ≤ 20) (h0 : 0 ≤ i) (h1 : i < (l.length : Int)) : (l.take i.toNat ++ [a]).length ≤ 20 := by rw [len_snoc, List.length_take]; omega
theorem any_j {b : List Int} (hb : Code b) (l : List S142) (hl : l.length ≤ 20) (hk : ∀ x ∈ l, bkOk x) (c : Bool) (hc : c = true → 1 ≤ l.length) (p : Int) (h0 : 0 ≤ p) (h1 : p ≤ 500000) :
    ∃ m q, Ev (fun k => spec_l20AnyBlocks.j0 k l c b p) (m, q) ∧ (∀ x ∈ m, hdS x.f0) ∧ m.length ≤ 20 ∧ p ≤ q ∧ q ≤ p + 4 := by
  have hh : ∀ x ∈ l, hdS x.f0 := fun x hx => bk_hdS (hk x hx)
  by_cases hc1 : c = true
  · obtain ⟨i, hi, hi0, hi1⟩ := pick_lt hb p (l.length : Int) h0 (by omega) (by have := hc hc1; omega)
    obtain ⟨v, hv, hv0, hv1⟩ := pick_lt hb (p + 1) 5 (by omega) (by omega) (by omega)
    have hit := hk _ (rdBM l i hi0 hi1)
    have his := bk_hdS hit
    by_cases z0 : v = 0
    · obtain ⟨n, _, hn⟩ := one_ev hb (p + 1 + 1) [0, 401, 7] (by omega) (by omega) (by decide)
      refine ⟨l.set i.toNat (⟨(⟨(rd_T142 l i).f0.f0, (rd_T142 l i).f0.f1, (rd_T142 l i).f0.f2, (rd_T142 l i).f0.f3, n⟩ : S23), (rd_T142 l i).f1⟩ : S142), p + 1 + 1 + 1, ?_, mem_set hh (by exact his), len_set hl, by omega, by omega⟩
      refine Ev.step (f := fun k => _) (fun k => by simp only [spec_l20AnyBlocks.j0]; rfl) ?_
      exact Ev.ifp hc1 (Ev.bind hi (Ev.bind hv (Ev.ifp z0 (Ev.bind hn (Ev.ifp hi0 (Ev.ifp hi1 (Ev.now _)))))))
    by_cases z1 : v = 1
    · obtain ⟨s, hs⟩ := anyItem_ev hb (p + 1 + 1) (by omega) (by omega)
      have h4 := hit.2.1
      refine ⟨l.set i.toNat (⟨(⟨(rd_T142 l i).f0.f0, (rd_T142 l i).f0.f1, (rd_T142 l i).f0.f2, (rd_T142 l i).f0.f3, (rd_T142 l i).f0.f4⟩ : S23), (rd_T142 l i).f1 ++ [s]⟩ : S142), p + 1 + 1 + 2, ?_, mem_set hh (by exact his), len_set hl, by omega, by omega⟩
      refine Ev.step (f := fun k => _) (fun k => by simp only [spec_l20AnyBlocks.j0]; rfl) ?_
      exact Ev.ifp hc1 (Ev.bind hi (Ev.bind hv (Ev.ifn z0 (Ev.ifp z1 (Ev.ifp hi0 (Ev.ifp hi1 (Ev.bind hs (Ev.ifp (by show (rd_T142 l i).f1.length < 8796093022208; omega) (Ev.now _)))))))))
    by_cases z2 : v = 2
    · obtain ⟨n, _, hn⟩ := one_ev hb (p + 1 + 1) [0, 1, 2, 9] (by omega) (by omega) (by decide)
      refine ⟨l.set i.toNat (⟨(⟨(rd_T142 l i).f0.f0, (rd_T142 l i).f0.f1, (rd_T142 l i).f0.f2, n, (rd_T142 l i).f0.f4⟩ : S23), (rd_T142 l i).f1⟩ : S142), p + 1 + 1 + 1, ?_, mem_set hh (by exact his), len_set hl, by omega, by omega⟩
      refine Ev.step (f := fun k => _) (fun k => by simp only [spec_l20AnyBlocks.j0]; rfl) ?_
      exact Ev.ifp hc1 (Ev.bind hi (Ev.bind hv (Ev.ifn z0 (Ev.ifn z1 (Ev.ifp z2 (Ev.bind hn (Ev.ifp hi0 (Ev.ifp hi1 (Ev.now _)))))))))
    by_cases z3 : v = 3
    · obtain ⟨n, _, hn⟩ := one_ev hb (p + 1 + 1) [0, 99999, 100000] (by omega) (by omega) (by decide)
      refine ⟨l.set i.toNat (⟨(⟨(rd_T142 l i).f0.f0, (rd_T142 l i).f0.f1, n, (rd_T142 l i).f0.f3, (rd_T142 l i).f0.f4⟩ : S23), (rd_T142 l i).f1⟩ : S142), p + 1 + 1 + 1, ?_, mem_set hh (by exact his), len_set hl, by omega, by omega⟩
      refine Ev.step (f := fun k => _) (fun k => by simp only [spec_l20AnyBlocks.j0]; rfl) ?_
      exact Ev.ifp hc1 (Ev.bind hi (Ev.bind hv (Ev.ifn z0 (Ev.ifn z1 (Ev.ifn z2 (Ev.ifp z3 (Ev.bind hn (Ev.ifp hi0 (Ev.ifp hi1 (Ev.now _))))))))))
    refine ⟨l.take i.toNat ++ [rd_T142 l ((l.length : Int) - 1)], p + 1 + 1, ?_, mem_snoc (fun x hx => hh x (List.mem_of_mem_take hx)) (bk_hdS (hk _ (rdBM l ((l.length : Int) - 1) (by omega) (by omega)))), len_cut hl hi0 hi1, by omega, by omega⟩
    refine Ev.step (f := fun k => _) (fun k => by simp only [spec_l20AnyBlocks.j0]; rfl) ?_
    exact Ev.ifp hc1 (Ev.bind hi (Ev.bind hv (Ev.ifn z0 (Ev.ifn z1 (Ev.ifn z2 (Ev.ifn z3 (Ev.ifp hi0 (Ev.ifp hi1 (Ev.ifp (by show (l.take i.toNat).length < 1759218604441; rw [List.length_take]; omega) (Ev.now _))))))))))
  · refine ⟨l, p, Ev.step (f := fun _ => some (l, p)) (fun k => ?_) (Ev.now _), hh, hl, by omega, by omega⟩
    simp only [spec_l20AnyBlocks.j0]
    rw [if_neg hc1]
theorem any_ev {b : List Int} (hb : Code b) (p : Int) (h0 : 0 ≤ p) (h1 : p ≤ 100000) :
    ∃ l q, Ev (fun k => spec_l20AnyBlocks.f k b p) (l, q) ∧ (∀ x ∈ l, hdS x.f0) ∧ l.length ≤ 20 ∧ p ≤ q ∧ q ≤ p + 206 := by
  obtain ⟨l, q, hl, hk, hl1, hq0, hq1⟩ := blocks_ev hb p h0 h1
  unfold spec_l20AnyBlocks.f
  by_cases hn : (l.length : Int) > 0
  · obtain ⟨v, hv, _, _⟩ := pick_lt hb q 5 (by omega) (by omega) (by omega)
    obtain ⟨m, r, hm, h2, h3, h4, h5⟩ := any_j hb l hl1 hk (v == 0) (fun _ => by omega) (q + 1) (by omega) (by omega)
    exact ⟨m, r, Ev.bind hl (Ev.ifp hn (Ev.bind hv hm)), h2, h3, by omega, by omega⟩
  · obtain ⟨m, r, hm, h2, h3, h4, h5⟩ := any_j hb l hl1 hk false (fun h => by cases h) q (by omega) (by omega)
    exact ⟨m, r, Ev.bind hl (Ev.ifn hn hm), h2, h3, by omega, by omega⟩
theorem dhead_ev {b : List Int} (hb : Code b) (p : Int) (h0 : 0 ≤ p) (h1 : p ≤ 1000) :
    ∃ s t x y z q, Ev (fun k => spec_l20Head.f k b p) (s, t, x, y, z, q) ∧ s.size ≤ 16 ∧ t.size ≤ 16 ∧ 0 ≤ q ∧ q ≤ 2000 := by
  obtain ⟨s, q1, hs, s1, s2, s3⟩ := dsum_ev hb p h0 (by omega)
  obtain ⟨t, q2, ht, t1, t2, t3⟩ := dsum_ev hb q1 (by omega) (by omega)
  obtain ⟨x, _, hx⟩ := one_ev hb q2 [0, 7, 99999, 100000] (by omega) (by omega) (by decide)
  obtain ⟨y, _, hy⟩ := one_ev hb (q2 + 1) [1, 2, 8, 9, 1] (by omega) (by omega) (by decide)
  obtain ⟨z, _, hz⟩ := one_ev hb (q2 + 1 + 1) [0, 5, 400, 401] (by omega) (by omega) (by decide)
  obtain ⟨l, q3, hl, h2, h3, h4, h5⟩ := any_ev hb (q2 + 1 + 1 + 1) (by omega) (by omega)
  have hh : Ev (fun k => spec_l20Heads.f k b (q2 + 1 + 1 + 1)) (l.map (·.f0), q3) := by
    unfold spec_l20Heads.f
    exact Ev.bind hl (Ev.bind (heads_ev l (by omega)) (Ev.now _))
  have hm : ∀ h ∈ l.map (·.f0), hdS h := fun h hm => by obtain ⟨x, hx, rfl⟩ := List.mem_map.1 hm; exact h2 x hx
  have hml : (l.map (·.f0)).length = l.length := List.length_map _
  unfold spec_l20Head.f
  generalize l.map (·.f0) = hs_ at *
  by_cases hn : (hs_.length : Int) > 0
  · obtain ⟨v, hv, _, _⟩ := pick_lt hb q3 3 (by omega) (by omega) (by omega)
    by_cases hv1 : v > 0
    · obtain ⟨i, hi, hi0, hi1⟩ := pick_lt hb (q3 + 1) (hs_.length : Int) (by omega) (by omega) (by omega)
      have := hm _ (rdHM hs_ i hi0 hi1)
      exact ⟨_, _, _, _, _, q3 + 1 + 1, Ev.bind hs (Ev.bind ht (Ev.bind hx (Ev.bind hy (Ev.bind hz (Ev.bind hh (Ev.ifp hn (Ev.bind hv (Ev.ifp hv1 (Ev.bind hi (Ev.ifp hi0 (Ev.ifp hi1 (Ev.now _)))))))))))), this.1, this.2, by omega, by omega⟩
    · exact ⟨s, t, x, y, z, q3 + 1, Ev.bind hs (Ev.bind ht (Ev.bind hx (Ev.bind hy (Ev.bind hz (Ev.bind hh (Ev.ifp hn (Ev.bind hv (Ev.ifn hv1 (Ev.now _))))))))), s1, t1, by omega, by omega⟩
  · exact ⟨s, t, x, y, z, q3, Ev.bind hs (Ev.bind ht (Ev.bind hx (Ev.bind hy (Ev.bind hz (Ev.bind hh (Ev.ifn hn (Ev.now _))))))), s1, t1, by omega, by omega⟩
theorem headPut_size (p r : ByteArray) (t d n : Int) : (headPut p r t d n).size ≤ 100 := by
  by_cases h : headB p r t d n = true
  · rw [headPut_pos h]; exact headS_size h
  · rw [headPut_neg h]; exact Nat.zero_le _
theorem drawHeadGet_ev {c : List Int} (h : ∀ x ∈ c, 0 ≤ x ∧ x ≤ 255) : ∃ S, Ev (fun k => spec_DrawHeadGet.f k c) S ∧ S.size ≤ 1000 := by
  obtain ⟨b, ho, hb⟩ := open_ev h
  obtain ⟨s, t, x, y, z, q, he, h1, h2, h3, h4⟩ := dhead_ev hb 0 (by omega) (by omega)
  obtain ⟨v, hv, _, _⟩ := pick_lt hb q 2 h3 (by omega) (by omega)
  have hp := specHeadPut_ev s t x y z (by omega) (by omega)
  have hz := headPut_size s t x y z
  unfold spec_DrawHeadGet.f
  by_cases hv0 : v = 0
  · exact ⟨_, Ev.b ho (Ev.bind he (Ev.bind hp (Ev.bind hv (Ev.ifp hv0 (Ev.now _))))), by omega⟩
  · obtain ⟨w, r, hw, hw1, _, _⟩ := bent_ev hb (q + 1) (headPut s t x y z) (by omega) (by omega) (by omega)
    exact ⟨w, Ev.b ho (Ev.bind he (Ev.bind hp (Ev.bind hv (Ev.ifn hv0 (Ev.bind hw (Ev.now _)))))), by omega⟩

theorem FnHeadGet : laws_FnHeadGet.Pure := by
  intro c _ _ hw
  refine Ev.rounds (r := true) ?_
  obtain ⟨S, hd, hS⟩ := drawHeadGet_ev (wf_bytes hw)
  unfold laws_FnHeadGet.f
  by_cases ha : (c.length : Int) > 1048576
  · exact Ev.ifp ha (Ev.now _)
  have e1 := specHeadGet_ev S (by omega)
  have e2 := implHeadGet_ev S (by omega)
  by_cases hg : headGood S
  · have eg : headGet S = _ := if_pos hg
    have h0 := wd_size S 0
    have h1 := wd_size S 1
    have hp := implHeadPut_ev (wd S 0) (wd S 1) (numS (wd S 2)) (numS (wd S 3)) (numS (wd S 4)) (by omega) (by omega)
    rw [headPut_pos hg.2, headS_back hg] at hp
    rw [eg] at e1 e2
    refine Ev.ifn ha (Ev.bind hd (Ev.bind e2 (Ev.bind e1 (Ev.ifn (by simp) (Ev.ifn (by simp) (Ev.ifp rfl (Ev.bind hp ?_)))))))
    rw [beq_self_eq_true]
    exact Ev.now _
  · have eg : headGet S = _ := if_neg hg
    rw [eg] at e1 e2
    exact Ev.ifn ha (Ev.bind hd (Ev.bind e2 (Ev.bind e1 (Ev.ifn (by simp) (Ev.ifn (by simp) (Ev.ifn (by simp) (Ev.ifp (by simp) (Ev.at_ (Ev.now _) (by simp)))))))))

end Go.Proofs.YtgjljbaadglpnaaDoor.Pure
