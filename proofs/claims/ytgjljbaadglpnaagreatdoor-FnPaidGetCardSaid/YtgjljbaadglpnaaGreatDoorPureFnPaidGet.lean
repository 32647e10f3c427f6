/- What is read as a proof is written just so, in plain terms: the law's own function, over numbers and lists, answers true of every code. Conditions: none beyond those that the statement tells. -/
import Derived.Test.YtgjljbaadglpnaaGreatDoorPFnPaidGetx35
import Derived.Test.YtgjljbaadglpnaaGreatDoorPd
import Derived.Test.YtgjljbaadglpnaaGreatDoorPc
namespace Go.Proofs.YtgjljbaadglpnaaGreatDoor.Pure
open Go Go.RowKit Go.Proofs.YtgjljbaadglpnaaGreatDoor.PFnPaidGet Go.Proofs.YtgjljbaadglpnaaGreatDoorW.PrintWords Go.Proofs.YtgjljbaadglpnaaGreatDoorW.PrintLast Go.Proofs.YtgjljbaadglpnaaGreatDoorW.PrintMore Go.Proofs.YtgjljbaadglpnaaGreatDoor.Pl
set_option linter.unusedVariables false
theorem six_size (a b c d e f : UInt8) : (⟨#[a, b, c, d, e, f]⟩ : ByteArray).size = 6 := rfl
theorem two_size (a b : UInt8) : (⟨#[a, b]⟩ : ByteArray).size = 2 := rfl
theorem specIn (a b c : Int) : spec_l1In.f a b c = some (decide (b ≤ a ∧ a ≤ c)) := by
 unfold spec_l1In.f
 by_cases h : a ≥ b
 ·rw [if_pos h]; congr 1; exact decide_eq_decide.2 ⟨fun k => ⟨h, k⟩, fun k => k.2⟩
 ·rw [if_neg h]; congr 1; exact (decide_eq_false (fun k => h k.1)).symm
theorem implIn (a b c : Int) : impl_in.f a b c = some (decide (b ≤ a ∧ a ≤ c)) := by
 unfold impl_in.f
 by_cases h : a ≥ b
 ·rw [if_pos h]; congr 1; exact decide_eq_decide.2 ⟨fun k => ⟨h, k⟩, fun k => k.2⟩
 ·rw [if_neg h]; congr 1; exact (decide_eq_false (fun k => h k.1)).symm
theorem specFigure (b : Int) : spec_l1Figure.f b = some (decide (48 ≤ b ∧ b ≤ 57)) := by
 unfold spec_l1Figure.f
 by_cases h : b ≥ 48
 ·rw [if_pos h]; congr 1; exact decide_eq_decide.2 ⟨fun k => ⟨h, k⟩, fun k => k.2⟩
 ·rw [if_neg h]; congr 1; exact (decide_eq_false (fun k => h k.1)).symm
theorem specIsSum_loop (s : ByteArray) (hs : s.size ≤ 140737488351232) (d : Nat) : ∀ i : Nat, i + d = s.size → Ev (fun k => spec_l1IsSum.l0 k s (i : Int)) (((bytesOf s).drop i).all hexd && decide (s.size = 16)) := by
 induction d with
 | zero =>
  intro i hi
  have hlt : ¬ (i : Int) < (s.size : Int) := by omega
  have e : ((s.size : Int) == 16) = decide (s.size = 16) := by rw [Bool.eq_iff_iff, beq_iff_eq, decide_eq_true_iff]; omega
  rw [List.drop_eq_nil_of_le (by rw [bytes_len]; omega), List.all_nil, Bool.true_and]
  refine Ev.step (f := fun _ => some (decide (s.size = 16))) (fun k => ?_) (Ev.now _)
  simp only [spec_l1IsSum.l0]; rw [if_neg hlt, e]
 | succ d ih =>
  intro i hi
  have hlt : (i : Int) < (s.size : Int) := by omega
  have h0 : (0 : Int) ≤ (i : Int) := by omega
  have hi1 : ((i + 1 : Nat) : Int) = (i : Int) + 1 := by omega
  have hd : i + 1 + d = s.size := by omega
  have his : i < s.size := by omega
  have hnx := ih (i + 1) hd
  rw [hi1] at hnx
  have hn : (∀ x, x = bt s (i : Int) → hexd x = true) ∨ (∀ x, x = bt s (i : Int) → hexd x = false) := by
   cases h : hexd (bt s (i : Int))
   ·exact .inr fun x hx => by rw [hx]; exact h
   ·exact .inl fun x hx => by rw [hx]; exact h
  have hw : wrap64 ((i : Int) + 1) = (i : Int) + 1 := w64 (by omega) (by omega)
  rw [bt_drop s i his, List.all_cons]
  by_cases hf : 48 ≤ bt s (i : Int) ∧ bt s (i : Int) ≤ 57
  ·have hx : hexd (bt s (i : Int)) = true := (hexd_iff _).2 (.inl hf)
   rw [hx, Bool.true_and]
   refine Ev.step (f := fun k => spec_l1IsSum.l0 k s ((i : Int) + 1)) (fun k => ?_) hnx
   simp only [spec_l1IsSum.l0]; rw [if_pos hlt, if_pos h0, specFigure, decide_eq_true hf, Option.bind_some, if_pos rfl, hw]
  ·by_cases hl : bt s (i : Int) < 97
   ·have hx : hexd (bt s (i : Int)) = false := by rw [Bool.eq_false_iff]; intro h; rw [hexd_iff] at h; clear hw; omega
    rw [hx, Bool.false_and, Bool.false_and]
    refine Ev.step (f := fun _ => some false) (fun k => ?_) (Ev.now _)
    simp only [spec_l1IsSum.l0]; rw [if_pos hlt, if_pos h0, specFigure, decide_eq_false hf, Option.bind_some, if_neg (by simp), if_pos hl]
   ·by_cases hg : bt s (i : Int) > 102
    ·have hx : hexd (bt s (i : Int)) = false := by rw [Bool.eq_false_iff]; intro h; rw [hexd_iff] at h; clear hw; omega
     rw [hx, Bool.false_and, Bool.false_and]
     refine Ev.step (f := fun _ => some false) (fun k => ?_) (Ev.now _)
     simp only [spec_l1IsSum.l0]; rw [if_pos hlt, if_pos h0, specFigure, decide_eq_false hf, Option.bind_some, if_neg (by simp), if_neg hl, if_pos hg]
    ·have hx : hexd (bt s (i : Int)) = true := by rw [hexd_iff]; clear hw; omega
     rw [hx, Bool.true_and]
     refine Ev.step (f := fun k => spec_l1IsSum.l0 k s ((i : Int) + 1)) (fun k => ?_) hnx
     simp only [spec_l1IsSum.l0]; rw [if_pos hlt, if_pos h0, specFigure, decide_eq_false hf, Option.bind_some, if_neg (by simp), if_neg hl, if_neg hg, hw]
theorem specIsSum_ev (s : ByteArray) (hs : s.size ≤ 140737488351232) : Ev (fun k => spec_l1IsSum.f k s) (sumB (bytesOf s)) := by
 have h := specIsSum_loop s hs s.size 0 (by omega)
 rw [List.drop_zero, Int.natCast_zero] at h
 unfold spec_l1IsSum.f sumB
 rw [bytes_len]
 exact h
theorem implIsSum_loop (s : ByteArray) (hs : s.size ≤ 140737488351232) (d : Nat) : ∀ i : Nat, i + d = s.size → Ev (fun k => impl_isSum.l0 k s (i : Int)) (((bytesOf s).drop i).all hexd && decide (s.size = 16)) := by
 induction d with
 | zero =>
  intro i hi
  have hlt : ¬ (i : Int) < (s.size : Int) := by omega
  have e : ((s.size : Int) == 16) = decide (s.size = 16) := by rw [Bool.eq_iff_iff, beq_iff_eq, decide_eq_true_iff]; omega
  rw [List.drop_eq_nil_of_le (by rw [bytes_len]; omega), List.all_nil, Bool.true_and]
  refine Ev.step (f := fun _ => some (decide (s.size = 16))) (fun k => ?_) (Ev.now _)
  simp only [impl_isSum.l0]; rw [if_neg hlt, e]
 | succ d ih =>
  intro i hi
  have hlt : (i : Int) < (s.size : Int) := by omega
  have h0 : (0 : Int) ≤ (i : Int) := by omega
  have hi1 : ((i + 1 : Nat) : Int) = (i : Int) + 1 := by omega
  have hd : i + 1 + d = s.size := by omega
  have his : i < s.size := by omega
  have hnx := ih (i + 1) hd
  rw [hi1] at hnx
  have hr := bt_range s (i : Int)
  have hb : wrap64 (bt s (i : Int)) = bt s (i : Int) := w64 (by omega) (by omega)
  have hw : wrap64 ((i : Int) + 1) = (i : Int) + 1 := w64 (by clear hb; omega) (by clear hb; omega)
  rw [bt_drop s i his, List.all_cons]
  by_cases hf : 48 ≤ bt s (i : Int) ∧ bt s (i : Int) ≤ 57
  ·have hx : hexd (bt s (i : Int)) = true := (hexd_iff _).2 (.inl hf)
   rw [hx, Bool.true_and]
   refine Ev.step (f := fun k => impl_isSum.l0 k s ((i : Int) + 1)) (fun k => ?_) hnx
   simp only [impl_isSum.l0]; rw [if_pos hlt, if_pos h0, implIn, hb, decide_eq_true hf, Option.bind_some, if_pos rfl, hw]
  ·by_cases hl : 97 ≤ bt s (i : Int) ∧ bt s (i : Int) ≤ 102
   ·have hx : hexd (bt s (i : Int)) = true := (hexd_iff _).2 (.inr hl)
    rw [hx, Bool.true_and]
    refine Ev.step (f := fun k => impl_isSum.l0 k s ((i : Int) + 1)) (fun k => ?_) hnx
    simp only [impl_isSum.l0]; rw [if_pos hlt, if_pos h0, implIn, hb, decide_eq_false hf, Option.bind_some, if_neg (by simp), implIn, decide_eq_true hl, Option.bind_some, if_pos rfl, hw]
   ·have hx : hexd (bt s (i : Int)) = false := by rw [Bool.eq_false_iff]; intro h; rw [hexd_iff] at h; clear hw hb; omega
    rw [hx, Bool.false_and, Bool.false_and]
    refine Ev.step (f := fun _ => some false) (fun k => ?_) (Ev.now _)
    simp only [impl_isSum.l0]; rw [if_pos hlt, if_pos h0, implIn, hb, decide_eq_false hf, Option.bind_some, if_neg (by simp), implIn, decide_eq_false hl, Option.bind_some, if_neg (by simp)]
theorem implIsSum_ev (s : ByteArray) (hs : s.size ≤ 140737488351232) : Ev (fun k => impl_isSum.f k s) (sumB (bytesOf s)) := by
 have h := implIsSum_loop s hs s.size 0 (by omega)
 rw [List.drop_zero, Int.natCast_zero] at h
 unfold impl_isSum.f sumB
 rw [bytes_len]
 exact h
theorem fig_mod {b : Int} (h : hexd b = true) (h0 : 0 ≤ b) (h1 : b ≤ 255) (hg : b ≥ 97) : (b - 97) % 256 + 10 = hx b := by
 unfold hx; rw [if_pos hg]; omega
theorem fig_mod' {b : Int} (h : hexd b = true) (h0 : 0 ≤ b) (h1 : b ≤ 255) (hg : ¬ b ≥ 97) : (b - 48) % 256 = hx b := by
 rw [hexd_iff] at h; unfold hx; rw [if_neg hg]; omega
theorem specHead_loop (s : ByteArray) (hs : s.size ≤ 140737488351232) (h8 : 8 ≤ s.size) (hx_ : ∀ x ∈ bytesOf s, hexd x = true) (d : Nat) : ∀ (i : Nat) (n : Int), i + d = 8 → 0 ≤ n → n < 16 ^ i →
  Ev (fun k => spec_l1Head.l0 k s n (i : Int)) (hgo (((bytesOf s).take 8).drop i) n / 2) := by
 induction d with
 | zero =>
  intro i n hi h0 h1
  have hlt : ¬ (i : Int) < 8 := by omega
  obtain rfl : i = 8 := by omega
  have hp := pow16 8 (by omega)
  have e : wrap64 (Int.tdiv n 2) = n / 2 := by rw [Int.tdiv_eq_ediv_of_nonneg h0]; exact w64 (by omega) (by omega)
  rw [List.drop_eq_nil_of_le (by rw [List.length_take]; omega)]
  refine Ev.step (f := fun _ => some (n / 2)) (fun k => ?_) (Ev.now _)
  simp only [spec_l1Head.l0]; rw [if_neg hlt, e]
 | succ d ih =>
  intro i n hi h0 h1
  have hlt : (i : Int) < 8 := by omega
  have hi0 : (0 : Int) ≤ (i : Int) := by omega
  have his : (i : Int) < (s.size : Int) := by omega
  have hisn : i < s.size := by omega
  have hi1 : ((i + 1 : Nat) : Int) = (i : Int) + 1 := by omega
  have hd : i + 1 + d = 8 := by omega
  have hp := pow16 i (by omega)
  have hr := bt_range s (i : Int)
  have hxb : hexd (bt s (i : Int)) = true := hx_ _ (by rw [bt_nat s i hisn]; exact List.getElem_mem _)
  have hxr := hx_range hxb
  have hst := hgo_step h0 h1 hxr.1 hxr.2
  have hnx := ih (i + 1) _ hd hst.1 hst.2
  rw [hi1] at hnx
  have e : ((bytesOf s).take 8).drop i = bt s (i : Int) :: ((bytesOf s).take 8).drop (i + 1) := by
   have hl : i < ((bytesOf s).take 8).length := by rw [List.length_take, bytes_len]; omega
   rw [List.drop_eq_getElem_cons hl, List.getElem_take, bt_nat s i hisn]
  have w1 : wrap64 (n * 16) = 16 * n := by rw [Int.mul_comm]; exact w64 (by omega) (by omega)
  have w2 : wrap64 (16 * n + hx (bt s (i : Int))) = 16 * n + hx (bt s (i : Int)) := by clear w1; exact w64 (by omega) (by omega)
  have hw : wrap64 ((i : Int) + 1) = (i : Int) + 1 := by clear w1 w2; exact w64 (by omega) (by omega)
  rw [e]
  unfold hgo
  refine Ev.step (f := fun k => spec_l1Head.l0 k s (16 * n + hx (bt s (i : Int))) ((i : Int) + 1)) (fun k => ?_) hnx
  simp only [spec_l1Head.l0]
  rw [if_pos hlt, if_pos hi0, if_pos his]
  by_cases hg : bt s (i : Int) ≥ 97
  ·rw [if_pos hg, fig_mod hxb hr.1 hr.2 hg, w1, w2, hw]
  ·rw [if_neg hg, fig_mod' hxb hr.1 hr.2 hg, w1, w2, hw]
theorem specHead_ev (s : ByteArray) (hs : s.size ≤ 140737488351232) (h8 : 8 ≤ s.size) (hx_ : ∀ x ∈ bytesOf s, hexd x = true) : Ev (fun k => spec_l1Head.f k s) (head31 (bytesOf s)) := by
 have h := specHead_loop s hs h8 hx_ 8 0 0 (by omega) (by omega) (by omega)
 rw [List.drop_zero, Int.natCast_zero] at h
 unfold spec_l1Head.f head31
 exact h
def headB (p r : ByteArray) (t d n : Int) : Bool := sumB (bytesOf p) && (sumB (bytesOf r) && (decide (0 ≤ t ∧ t ≤ 99999) && (decide (1 ≤ d ∧ d ≤ 8) && decide (0 ≤ n ∧ n ≤ 400))))
theorem headB_iff (p r : ByteArray) (t d n : Int) : headB p r t d n = true ↔ sumB (bytesOf p) = true ∧ sumB (bytesOf r) = true ∧ (0 ≤ t ∧ t ≤ 99999) ∧ (1 ≤ d ∧ d ≤ 8) ∧ (0 ≤ n ∧ n ≤ 400) := by
 unfold headB
 rw [Bool.and_eq_true, Bool.and_eq_true, Bool.and_eq_true, Bool.and_eq_true, decide_eq_true_iff, decide_eq_true_iff, decide_eq_true_iff]
theorem headB_size {p r : ByteArray} {t d n : Int} (h : headB p r t d n = true) : p.size = 16 ∧ r.size = 16 := by
 have h1 := (headB_iff p r t d n).1 h
 have h2 := ((sumB_iff _).1 h1.1).2
 have h3 := ((sumB_iff _).1 h1.2.1).2
 rw [bytes_len] at h2 h3
 exact ⟨h2, h3⟩
def headS (p r : ByteArray) (t d n : Int) : ByteArray := (((((((p ++ (⟨#[32]⟩ : ByteArray)) ++ r) ++ (⟨#[32]⟩ : ByteArray)) ++ decS t) ++ (⟨#[32]⟩ : ByteArray)) ++ decS d) ++ (⟨#[32]⟩ : ByteArray)) ++ decS n
def headPut (p r : ByteArray) (t d n : Int) : ByteArray := if headB p r t d n = true then headS p r t d n else (⟨#[]⟩ : ByteArray)
theorem headPut_pos {p r : ByteArray} {t d n : Int} (h : headB p r t d n = true) : headPut p r t d n = headS p r t d n := if_pos h
theorem headPut_neg {p r : ByteArray} {t d n : Int} (h : ¬ headB p r t d n = true) : headPut p r t d n = (⟨#[]⟩ : ByteArray) := if_neg h
theorem one_size (c : UInt8) : (⟨#[c]⟩ : ByteArray).size = 1 := rfl
theorem specOk_ev (p r : ByteArray) (t d n : Int) (hp : p.size ≤ 140737488351232) (hr : r.size ≤ 140737488351232) : Ev (fun k => spec_l3Ok.f k p r t d n) (headB p r t d n) := by
 unfold spec_l3Ok.f headB
 refine Ev.bind (specIsSum_ev p hp) ?_
 by_cases h1 : sumB (bytesOf p) = true
 ·rw [h1]
  refine Ev.ifp rfl (Ev.bind (specIsSum_ev r hr) ?_)
  by_cases h2 : sumB (bytesOf r) = true
  ·rw [h2]
   refine Ev.ifp rfl (Ev.b (specIn t 0 99999) ?_)
   by_cases h3 : 0 ≤ t ∧ t ≤ 99999
   ·rw [decide_eq_true h3]
    refine Ev.ifp rfl (Ev.b (specIn d 1 8) ?_)
    by_cases h4 : 1 ≤ d ∧ d ≤ 8
    ·rw [decide_eq_true h4]
     exact Ev.ifp rfl (Ev.b (specIn n 0 400) (Ev.now _))
    ·rw [decide_eq_false h4]
     exact Ev.ifn (by simp) (Ev.now _)
   ·rw [decide_eq_false h3]
    exact Ev.ifn (by simp) (Ev.now _)
  ·rw [Bool.eq_false_iff.2 h2]
   exact Ev.ifn (by simp) (Ev.now _)
 ·rw [Bool.eq_false_iff.2 h1]
  exact Ev.ifn (by simp) (Ev.now _)
theorem implOk_ev (p r : ByteArray) (t d n : Int) (hp : p.size ≤ 140737488351232) (hr : r.size ≤ 140737488351232) : Ev (fun k => impl_headOk.f k p r t d n) (headB p r t d n) := by
 unfold impl_headOk.f headB
 refine Ev.bind (implIsSum_ev p hp) ?_
 by_cases h1 : sumB (bytesOf p) = true
 ·rw [h1]
  refine Ev.ifp rfl (Ev.bind (implIsSum_ev r hr) ?_)
  by_cases h2 : sumB (bytesOf r) = true
  ·rw [h2]
   refine Ev.ifp rfl (Ev.b (implIn t 0 99999) ?_)
   by_cases h3 : 0 ≤ t ∧ t ≤ 99999
   ·rw [decide_eq_true h3]
    refine Ev.ifp rfl (Ev.b (implIn d 1 8) ?_)
    by_cases h4 : 1 ≤ d ∧ d ≤ 8
    ·rw [decide_eq_true h4]
     exact Ev.ifp rfl (Ev.b (implIn n 0 400) (Ev.now _))
    ·rw [decide_eq_false h4]
     exact Ev.ifn (by simp) (Ev.now _)
   ·rw [decide_eq_false h3]
    exact Ev.ifn (by simp) (Ev.now _)
  ·rw [Bool.eq_false_iff.2 h2]
   exact Ev.ifn (by simp) (Ev.now _)
 ·rw [Bool.eq_false_iff.2 h1]
  exact Ev.ifn (by simp) (Ev.now _)
theorem specDec_ev (n : Nat) : (n : Int) ≤ 1000000000000 → Ev (fun k => spec_l1Dec.f k (n : Int)) (decS (n : Int)) := by
 induction n using Nat.strongRecOn with
 | ind n ih =>
  intro hn
  by_cases h : n < 10
  ·refine Ev.step (f := fun _ => some (strOfNums [(((48 + n : Nat)) : Int)])) (fun k => ?_) (Ev.at_ (Ev.now _) (by unfold decS; rw [Int.toNat_natCast, decI_lt h]))
   simp only [spec_l1Dec.f]
   rw [if_neg (by omega), if_neg (by omega), if_pos (by omega), w64 (by omega) (by omega), show ((48 : Int) + (n : Int)) % 256 = ((48 + n : Nat) : Int) by omega]
  ·have hs : (decS ((n / 10 : Nat) : Int)).size ≤ 13 := decS_size 12 (by omega)
   refine Ev.step (f := fun k => (spec_l1Dec.f k ((n / 10 : Nat) : Int)).bind fun t => (some ([((48 + n % 10 : Nat) : Int)] : List Int)).bind fun y => if t.size + (strOfNums y).size ≤ 9223372036854775807 then some (t ++ strOfNums y) else none) (fun k => ?_) (Ev.bind (ih (n / 10) (by omega) (by omega)) (Ev.b rfl (Ev.ifp (by rw [str_size, List.length_singleton]; omega) (Ev.at_ (Ev.now _) (decS_ge h).symm))))
   simp only [spec_l1Dec.f]
   rw [if_neg (by omega), if_neg (by omega), if_neg (by omega), show wrap64 (Int.tdiv (n : Int) 10) = ((n / 10 : Nat) : Int) by rw [Int.tdiv_eq_ediv_of_nonneg (by omega), w64 (by omega) (by omega)]; omega,
    show (wrap64 (48 + Int.tmod (n : Int) 10)) % 256 = ((48 + n % 10 : Nat) : Int) by rw [Int.tmod_eq_emod_of_nonneg (by omega), w64 (by omega) (by omega)]; omega]
theorem specDec {n : Int} (h0 : 0 ≤ n) (h1 : n ≤ 1000000000000) : Ev (fun k => spec_l1Dec.f k n) (decS n) := by
 obtain ⟨m, rfl⟩ := Int.eq_ofNat_of_zero_le h0
 exact specDec_ev m h1
theorem dec_small {n : Int} (h : n ≤ 99999) : (decS n).size ≤ 5 := decS_size 4 (by omega)
theorem specHeadS_ev {p r : ByteArray} {t d n : Int} (h : headB p r t d n = true) : Ev (fun k => spec_l3Put.f k p r t d n) (headS p r t d n) := by
 have hs := headB_size h
 have h1 := (headB_iff p r t d n).1 h
 have ht := dec_small (n := t) (by omega)
 have hd := dec_small (n := d) (by omega)
 have hn := dec_small (n := n) (by omega)
 unfold spec_l3Put.f
 refine Ev.ifp (by omega) (Ev.ifp (by rw [ByteArray.size_append, one_size]; omega) (Ev.ifp (by simp only [ByteArray.size_append, one_size]; omega) (Ev.bind (specDec (n := t) (by omega) (by omega)) (Ev.ifp (by simp only [ByteArray.size_append, one_size]; omega) (Ev.ifp (by simp only [ByteArray.size_append, one_size]; omega) (Ev.bind (specDec (n := d) (by omega) (by omega)) (Ev.ifp (by simp only [ByteArray.size_append, one_size]; omega) (Ev.ifp (by simp only [ByteArray.size_append, one_size]; omega) (Ev.bind (specDec (n := n) (by omega) (by omega)) (Ev.ifp (by simp only [ByteArray.size_append, one_size]; omega) (Ev.now _)))))))))))
theorem cutN_mem (b : Int) : ∀ (xs : List Int) (m : Nat), ∀ p ∈ cutN b xs m, ∀ x ∈ p, x ∈ xs
 | [], m, p, hp, x, hx => by
  rw [cutN, List.mem_singleton] at hp
  rw [hp] at hx; exact hx
 | y :: xs, 0, p, hp, x, hx => by
  rw [cutN, List.mem_singleton] at hp
  rw [hp] at hx; exact hx
 | y :: xs, m + 1, p, hp, x, hx => by
  rw [cutN] at hp
  by_cases h : y = b
  ·rw [if_pos h] at hp
   rcases List.mem_cons.1 hp with rfl | hp
   ·cases hx
   ·exact List.mem_cons_of_mem _ (cutN_mem b xs m p hp x hx)
  ·rw [if_neg h] at hp
   have ih := cutN_mem b xs (m + 1)
   revert hp ih
   rcases hc : cutN b xs (m + 1) with _ | ⟨q, qs⟩
   ·exact absurd hc (cutN_ne b xs (m + 1))
   ·intro hp ih
    rw [addH] at hp
    rcases List.mem_cons.1 hp with rfl | hp
    ·rcases List.mem_cons.1 hx with rfl | hx
     ·exact List.mem_cons_self
     ·exact List.mem_cons_of_mem _ (ih q List.mem_cons_self x hx)
    ·exact List.mem_cons_of_mem _ (ih p (List.mem_cons_of_mem _ hp) x hx)
theorem cutN_le (b : Int) : ∀ (xs : List Int) (m : Nat), ∀ p ∈ cutN b xs m, p.length ≤ xs.length
 | [], m, p, hp => by
  rw [cutN, List.mem_singleton] at hp
  rw [hp]; exact Nat.le_refl _
 | y :: xs, 0, p, hp => by
  rw [cutN, List.mem_singleton] at hp
  rw [hp]; exact Nat.le_refl _
 | y :: xs, m + 1, p, hp => by
  rw [cutN] at hp
  rw [List.length_cons]
  by_cases h : y = b
  ·rw [if_pos h] at hp
   rcases List.mem_cons.1 hp with rfl | hp
   ·exact Nat.zero_le _
   ·have := cutN_le b xs m p hp; omega
  ·rw [if_neg h] at hp
   have ih := cutN_le b xs (m + 1)
   revert hp ih
   rcases hc : cutN b xs (m + 1) with _ | ⟨q, qs⟩
   ·exact absurd hc (cutN_ne b xs (m + 1))
   ·intro hp ih
    rw [addH] at hp
    rcases List.mem_cons.1 hp with rfl | hp
    ·have := ih q List.mem_cons_self; rw [List.length_cons]; omega
    ·have := ih p (List.mem_cons_of_mem _ hp); omega
def cutS (c : Int) (s : ByteArray) (m : Nat) : List ByteArray := (cutN c (bytesOf s) m).map strOfNums
theorem cutS_len (c : Int) (s : ByteArray) (m : Nat) : (cutS c s m).length = min m (cntB c (bytesOf s)) + 1 := by
 unfold cutS; rw [List.length_map, cutN_len]
theorem cutS_size (c : Int) (s : ByteArray) (m : Nat) : ∀ p ∈ cutS c s m, p.size ≤ s.size := by
 intro p hp
 obtain ⟨q, hq, rfl⟩ := List.mem_map.1 hp
 rw [str_size, ← bytes_len]
 exact cutN_le c _ m q hq
theorem cutS_bytes (c : Int) (s : ByteArray) (m : Nat) : (cutS c s m).map bytesOf = cutN c (bytesOf s) m := by
 unfold cutS
 rw [List.map_map]
 conv => rhs; rw [← List.map_id (cutN c (bytesOf s) m)]
 refine List.map_congr_left fun p hp => ?_
 exact bytes_str _ (fun x hx => bytes_nn s x (cutN_mem c _ m p hp x hx))
theorem rdOf_size (l : List ByteArray) (n : Nat) (h : ∀ p ∈ l, p.size ≤ n) (i : Int) : (rdOf ByteArray.empty l i).size ≤ n := by
 unfold rdOf
 rw [List.getD_eq_getElem?_getD]
 rcases hc : l[i.toNat]? with _ | p
 ·exact Nat.zero_le _
 ·exact h p (List.mem_of_getElem? hc)
theorem extract_seg (s : ByteArray) (a b : Nat) : s.extract a b = strOfNums (((bytesOf s).drop a).take (b - a)) := by
 rw [str_extract, List.drop_take]
theorem specCut_end (s : ByteArray) (hs : s.size ≤ 1000000000) (b most : Int) (out : List ByteArray) (f i : Nat) (hf : f ≤ s.size) (ho : out.length ≤ s.size) : Ev (fun k => spec_l1Cut.j1 k s b most out (f : Int) (i : Int) false) (out ++ [strOfNums ((bytesOf s).drop f)]) := by
 have e : s.extract ((f : Int)).toNat s.size = strOfNums ((bytesOf s).drop f) := by
  rw [Int.toNat_natCast, extract_seg, List.take_of_length_le (by rw [List.length_drop, bytes_len]; exact Nat.le_refl _)]
 refine Ev.step (f := fun _ => some (out ++ [strOfNums ((bytesOf s).drop f)])) (fun k => ?_) (Ev.now _)
 simp only [spec_l1Cut.j1]
 rw [if_neg (by simp), if_pos (by omega), if_pos (by omega), if_pos (by omega), e]
theorem specCut_loop (s : ByteArray) (hs : s.size ≤ 1000000000) (b most : Int) : ∀ (d i f : Nat) (out : List ByteArray), i + d = s.size → f ≤ i → out.length ≤ f →
  Ev (fun k => spec_l1Cut.l0 k s b most out (f : Int) (i : Int)) (out ++ (addL (((bytesOf s).drop f).take (i - f)) (cutN b ((bytesOf s).drop i) (most - (out.length : Int)).toNat)).map strOfNums)
 | 0, i, f, out, h, hf, ho => by
  refine Ev.step (f := fun k => spec_l1Cut.j1 k s b most out (f : Int) (i : Int) false) (fun k => by simp only [spec_l1Cut.l0]; rw [if_neg (by omega)]) (Ev.at_ (specCut_end s hs b most out f i (by omega) (by omega)) ?_)
  have e0 : (bytesOf s).drop i = [] := List.drop_eq_nil_of_le (by rw [bytes_len]; omega)
  rw [e0, List.take_of_length_le (by rw [List.length_drop, bytes_len]; omega), cutN, addL, List.append_nil, List.map_cons, List.map_nil]
 | d + 1, i, f, out, h, hf, ho => by
  have hi : i < s.size := by omega
  have hd := bt_drop s i hi
  have hseg : ((bytesOf s).drop f).take (i - f) ++ (bytesOf s).drop i = (bytesOf s).drop f := by
   conv => rhs; rw [← List.take_append_drop (i - f) ((bytesOf s).drop f)]
   rw [List.drop_drop, show f + (i - f) = i by omega]
  have e1 : ((i + 1 : Nat) : Int) = (i : Int) + 1 := by omega
  by_cases hm : (out.length : Int) < most
  ·obtain ⟨m, hm1⟩ : ∃ m, (most - (out.length : Int)).toNat = m + 1 := ⟨(most - (out.length : Int)).toNat - 1, by omega⟩
   have hm2 : (most - ((out.length + 1 : Nat) : Int)).toNat = m := by omega
   refine Ev.step (f := fun k => spec_l1Cut.j1 k s b most out (f : Int) (i : Int) true) (fun k => by simp only [spec_l1Cut.l0]; rw [if_pos (by omega), decide_eq_true hm]) ?_
   rw [hd, hm1, cutN]
   by_cases hb : bt s (i : Int) = b
   ·rw [if_pos hb]
    have ih := specCut_loop s hs b most d (i + 1) (i + 1) (out ++ [s.extract f i]) (by omega) (Nat.le_refl _) (by rw [List.length_append, List.length_singleton]; omega)
    rw [List.length_append, List.length_singleton, hm2, Nat.sub_self, List.take_zero, addL_nil _ (cutN_ne _ _ _), e1] at ih
    refine Ev.step (f := fun k => spec_l1Cut.l0 k s b most (out ++ [s.extract f i]) ((i : Int) + 1) ((i : Int) + 1)) (fun k => ?_) (Ev.at_ ih ?_)
    ·simp only [spec_l1Cut.j1]
     rw [if_pos trivial, if_pos (by omega), if_pos (by omega), if_pos hb, if_pos (by omega), if_pos (by omega), if_pos (by omega), if_pos (by omega), w64 (by omega) (by omega), Int.toNat_natCast, Int.toNat_natCast]
    ·rw [addL, List.append_nil, List.map_cons, extract_seg, List.append_assoc]; rfl
   ·rw [if_neg hb]
    have ih := specCut_loop s hs b most d (i + 1) f out (by omega) (by omega) ho
    rw [hm1, e1] at ih
    refine Ev.step (f := fun k => spec_l1Cut.l0 k s b most out (f : Int) ((i : Int) + 1)) (fun k => ?_) (Ev.at_ ih ?_)
    ·simp only [spec_l1Cut.j1]
     rw [if_pos trivial, if_pos (by omega), if_pos (by omega), if_neg hb, w64 (by omega) (by omega)]
    ·rw [addL_addH]
     congr 3
     rw [show i + 1 - f = (i - f) + 1 by omega, List.take_add_one, List.getElem?_drop, show f + (i - f) = i by omega]
     congr 1
     have := congrArg (fun l => l[0]?) hd
     simp only [List.getElem?_drop, Nat.add_zero, List.getElem?_cons_zero] at this
     rw [this]; rfl
  ·refine Ev.step (f := fun k => spec_l1Cut.j1 k s b most out (f : Int) (i : Int) false) (fun k => by simp only [spec_l1Cut.l0]; rw [if_pos (by omega), decide_eq_false hm]) (Ev.at_ (specCut_end s hs b most out f i (by omega) (by omega)) ?_)
   rw [show (most - (out.length : Int)).toNat = 0 by omega, hd, cutN, addL, List.map_cons, List.map_nil, ← hd, hseg]
theorem specCut_ev (s : ByteArray) (hs : s.size ≤ 1000000000) (b : Int) (m : Nat) : Ev (fun k => spec_l1Cut.f k s b (m : Int)) (cutS b s m) := by
 have h := specCut_loop s hs b (m : Int) s.size 0 0 [] (by omega) (Nat.le_refl _) (Nat.zero_le _)
 rw [List.drop_zero, Nat.sub_self, List.take_zero, addL_nil _ (cutN_ne _ _ _), List.nil_append, List.length_nil, Int.natCast_zero, Int.sub_zero, Int.toNat_natCast] at h
 unfold spec_l1Cut.f
 exact h
theorem figs {s : ByteArray} {i : Nat} (hi : i < s.size) {q : Int → Prop} (h : ∀ x ∈ (bytesOf s).take i, q x) (h1 : q (bt s (i : Int))) : ∀ x ∈ (bytesOf s).take (i + 1), q x := by
 rw [bt_take s i hi]
 intro x hx
 rcases List.mem_append.1 hx with hx | hx
 ·exact h x hx
 ·rw [List.mem_singleton.1 hx]; exact h1
theorem numS_not {s : ByteArray} (h : ¬ numB (bytesOf s) = true) : numS s = -1 := if_neg h
theorem numS_is {s : ByteArray} (h : numB (bytesOf s) = true) : numS s = nval 0 (bytesOf s) := if_pos h
theorem bt_mem {s : ByteArray} {i : Nat} (hi : i < s.size) : bt s (i : Int) ∈ bytesOf s := by
 rw [bt_nat s i hi]; exact List.getElem_mem _
theorem num_step {s : ByteArray} {i : Nat} (hi : i < s.size) (h9 : i ≤ 9) {n : Int} (hn : n = nval 0 ((bytesOf s).take i)) (hd : ∀ x ∈ (bytesOf s).take i, 48 ≤ x ∧ x ≤ 57) (hb : 48 ≤ bt s (i : Int) ∧ bt s (i : Int) ≤ 57) :
  10 * n + (bt s (i : Int) - 48) = nval 0 ((bytesOf s).take (i + 1)) ∧ 0 ≤ n ∧ n < 1000000000 := by
 have h2 := nval_lt ((bytesOf s).take i) 0 0 hd (by omega) (by omega)
 have h3 := pow10_9 (0 + ((bytesOf s).take i).length) (by rw [List.length_take]; omega)
 rw [bt_take s i hi, nval_app, hn]
 exact ⟨rfl, h2.1, by omega⟩
theorem specNum_loop (s : ByteArray) (hs : s.size ≤ 1000000000) : ∀ (d i : Nat) (n : Int), i + d = s.size → i ≤ 9 → (∀ x ∈ (bytesOf s).take i, 48 ≤ x ∧ x ≤ 57) → n = nval 0 ((bytesOf s).take i) → Ev (fun k => spec_l1Num.l0 k s n (i : Int)) (numS s)
 | 0, i, n, h, h9, hd, hn => by
  have ht : (bytesOf s).take i = bytesOf s := List.take_of_length_le (by rw [bytes_len]; omega)
  rw [ht] at hd hn
  by_cases h0 : s.size = 0
  ·rw [numS_not (fun c => by have := ((numB_iff _).1 c).1; rw [bytes_len] at this; omega)]
   refine Ev.step (f := fun _ => some (-1)) (fun k => ?_) (Ev.now _)
   simp only [spec_l1Num.l0]
   rw [if_neg (by omega), if_pos (by omega)]
  ·have hg : bt s 0 = (bytesOf s).getD 0 0 := bt_get s 0
   by_cases h1 : s.size > 1
   ·by_cases h2 : bt s 0 = 48
    ·rw [numS_not (fun c => by have := ((numB_iff _).1 c).2.2; rw [bytes_len] at this; rcases this with h | h; omega; exact h (hg ▸ h2))]
     refine Ev.step (f := fun _ => some (-1)) (fun k => ?_) (Ev.now _)
     simp only [spec_l1Num.l0]
     rw [if_neg (by omega), if_neg (by omega), if_pos (by omega), if_pos (by omega), if_pos h2]
    ·rw [numS_is ((numB_iff _).2 ⟨by rw [bytes_len]; omega, hd, .inr (hg ▸ h2)⟩), ← hn]
     refine Ev.step (f := fun _ => some n) (fun k => ?_) (Ev.now _)
     simp only [spec_l1Num.l0]
     rw [if_neg (by omega), if_neg (by omega), if_pos (by omega), if_pos (by omega), if_neg h2]
   ·rw [numS_is ((numB_iff _).2 ⟨by rw [bytes_len]; omega, hd, .inl (by rw [bytes_len]; omega)⟩), ← hn]
    refine Ev.step (f := fun _ => some n) (fun k => ?_) (Ev.now _)
    simp only [spec_l1Num.l0]
    rw [if_neg (by omega), if_neg (by omega), if_neg (by omega)]
 | d + 1, i, n, h, h9, hd, hn => by
  have hi : i < s.size := by omega
  by_cases hb : 48 ≤ bt s (i : Int) ∧ bt s (i : Int) ≤ 57
  ·by_cases h8 : i ≥ 9
   ·rw [numS_not (fun c => by have := ((numB_iff _).1 c).1; rw [bytes_len] at this; omega)]
    refine Ev.step (f := fun _ => some (-1)) (fun k => ?_) (Ev.now _)
    simp only [spec_l1Num.l0]
    rw [if_pos (by omega), if_pos (by omega), specFigure, Option.bind_some, if_pos (decide_eq_true hb), if_pos (by omega)]
   ·obtain ⟨s1, s2, s3⟩ := num_step hi h9 hn hd hb
    refine Ev.step (f := fun k => spec_l1Num.l0 k s (10 * n + (bt s (i : Int) - 48)) ((i + 1 : Nat) : Int)) (fun k => ?_) (specNum_loop s hs d (i + 1) _ (by omega) (by omega) (figs hi hd hb) s1)
    simp only [spec_l1Num.l0]
    rw [if_pos (by omega), if_pos (by omega), specFigure, Option.bind_some, if_pos (decide_eq_true hb), if_neg (by omega), w64 (i := n * 10) (by omega) (by omega), show (bt s (i : Int) - 48) % 256 = bt s (i : Int) - 48 by omega, w64 (by omega) (by omega), w64 (by omega) (by omega), Int.mul_comm n 10]
    rfl
  ·rw [numS_not (fun c => hb (((numB_iff _).1 c).2.1 _ (bt_mem hi)))]
   refine Ev.step (f := fun _ => some (-1)) (fun k => ?_) (Ev.now _)
   simp only [spec_l1Num.l0]
   rw [if_pos (by omega), if_pos (by omega), specFigure, Option.bind_some, if_neg (by rw [decide_eq_true_iff]; exact hb)]
theorem specNum_ev (s : ByteArray) (hs : s.size ≤ 1000000000) : Ev (fun k => spec_l1Num.f k s) (numS s) := by
 unfold spec_l1Num.f
 exact specNum_loop s hs s.size 0 0 (by omega) (by omega) (fun x hx => by rw [List.take_zero] at hx; cases hx) rfl
def numP (s : ByteArray) : Int × Bool := if numB (bytesOf s) = true then (nval 0 (bytesOf s), true) else (0, false)
theorem implNum_loop (s : ByteArray) (h1 : s.size ≤ 9) (hp : 1 ≤ s.size) (hz : s.size ≤ 1 ∨ (bytesOf s).getD 0 0 ≠ 48) : ∀ (d i : Nat) (n : Int), i + d = s.size → (∀ x ∈ (bytesOf s).take i, 48 ≤ x ∧ x ≤ 57) → n = nval 0 ((bytesOf s).take i) → Ev (fun k => impl_number.l0 k s n (i : Int)) (numP s)
 | 0, i, n, h, hd, hn => by
  have ht : (bytesOf s).take i = bytesOf s := List.take_of_length_le (by rw [bytes_len]; omega)
  rw [ht] at hd hn
  unfold numP
  rw [if_pos ((numB_iff _).2 ⟨by rw [bytes_len]; omega, hd, by rw [bytes_len]; exact hz⟩), ← hn]
  refine Ev.step (f := fun _ => some (n, true)) (fun k => ?_) (Ev.now _)
  simp only [impl_number.l0]
  rw [if_neg (by omega)]
 | d + 1, i, n, h, hd, hn => by
  have hi : i < s.size := by omega
  have hr := bt_range s (i : Int)
  by_cases hb : 48 ≤ bt s (i : Int) ∧ bt s (i : Int) ≤ 57
  ·obtain ⟨s1, s2, s3⟩ := num_step hi (by omega) hn hd hb
   refine Ev.step (f := fun k => impl_number.l0 k s (10 * n + (bt s (i : Int) - 48)) ((i + 1 : Nat) : Int)) (fun k => ?_) (implNum_loop s h1 hp hz d (i + 1) _ (by omega) (figs hi hd hb) s1)
   simp only [impl_number.l0]
   rw [if_pos (by omega), if_pos (by omega), w64 (i := bt s (i : Int)) (by omega) (by omega), implIn, Option.bind_some, if_pos (decide_eq_true hb), w64 (i := 10 * n) (by omega) (by omega), show (bt s (i : Int) - 48) % 256 = bt s (i : Int) - 48 by omega, w64 (by omega) (by omega), w64 (by omega) (by omega)]
   rfl
  ·unfold numP
   rw [if_neg (fun c => hb (((numB_iff _).1 c).2.1 _ (bt_mem hi)))]
   refine Ev.step (f := fun _ => some (0, false)) (fun k => ?_) (Ev.now _)
   simp only [impl_number.l0]
   rw [if_pos (by omega), if_pos (by omega), w64 (i := bt s (i : Int)) (by omega) (by omega), implIn, Option.bind_some, if_neg (by rw [decide_eq_true_iff]; exact hb)]
theorem implNum_ev (s : ByteArray) (hs : s.size ≤ 1000000000) : Ev (fun k => impl_number.f k s) (numP s) := by
 have bad : ¬ numB (bytesOf s) = true → Ev (fun k => impl_number.j0 k s true) (numP s) := fun c => by
  unfold numP
  rw [if_neg c]
  refine Ev.step (f := fun _ => some (0, false)) (fun k => ?_) (Ev.now _)
  simp only [impl_number.j0]
  rw [if_pos trivial]
 have hg : bt s 0 = (bytesOf s).getD 0 0 := bt_get s 0
 unfold impl_number.f
 refine Ev.b (implIn _ _ _) ?_
 by_cases h1 : 1 ≤ (s.size : Int) ∧ (s.size : Int) ≤ 9
 ·refine Ev.ifp (decide_eq_true h1) (Ev.ifp (by omega) ?_)
  have go : (s.size ≤ 1 ∨ (bytesOf s).getD 0 0 ≠ 48) → Ev (fun k => impl_number.j0 k s false) (numP s) := fun hz => by
   refine Ev.step (f := fun k => impl_number.l0 k s 0 0) (fun k => ?_) (implNum_loop s (by omega) (by omega) hz s.size 0 0 (by omega) (fun x hx => by rw [List.take_zero] at hx; cases hx) rfl)
   simp only [impl_number.j0]
   rw [if_neg (by simp)]
  by_cases h2 : bt s 0 = 48
  ·refine Ev.ifp h2 ?_
   by_cases h3 : (s.size : Int) > 1
   ·rw [decide_eq_true h3]
    exact bad (fun c => by have := ((numB_iff _).1 c).2.2; rw [bytes_len] at this; rcases this with h | h; omega; exact h (hg ▸ h2))
   ·rw [decide_eq_false h3]
    exact go (.inl (by omega))
  ·exact Ev.ifn h2 (go (.inr (hg ▸ h2)))
 ·exact Ev.ifn (by rw [decide_eq_true_iff]; exact h1) (bad (fun c => by have := ((numB_iff _).1 c).1; rw [bytes_len] at this; omega))
theorem numP_true {s : ByteArray} (h : (numP s).2 = true) : (numP s).1 = numS s := by
 unfold numP numS at *
 by_cases c : numB (bytesOf s) = true
 ·rw [if_pos c, if_pos c]
 ·rw [if_neg c] at h; cases h
theorem numP_false {s : ByteArray} (h : ¬ (numP s).2 = true) : numS s = -1 := by
 unfold numP at h
 by_cases c : numB (bytesOf s) = true
 ·rw [if_pos c] at h; exact absurd rfl h
 ·exact if_neg c
def wd (s : ByteArray) (i : Int) : ByteArray := rdOf ByteArray.empty (cutS 32 s 5) i
def headGood (s : ByteArray) : Prop := (cutS 32 s 5).length = 5 ∧ headB (wd s 0) (wd s 1) (numS (wd s 2)) (numS (wd s 3)) (numS (wd s 4)) = true
instance (s : ByteArray) : Decidable (headGood s) := by unfold headGood; infer_instance
def headGet (s : ByteArray) : ByteArray × ByteArray × Int × Int × Int × Bool :=
 if headGood s then (wd s 0, wd s 1, numS (wd s 2), numS (wd s 3), numS (wd s 4), true) else ((⟨#[]⟩ : ByteArray), (⟨#[]⟩ : ByteArray), 0, 0, 0, false)
theorem wd_size (s : ByteArray) (i : Int) : (wd s i).size ≤ s.size := rdOf_size _ _ (cutS_size 32 s 5) i
theorem head_join {s : ByteArray} (h : (cutS 32 s 5).length = 5) : (((((((wd s 0 ++ (⟨#[32]⟩ : ByteArray)) ++ wd s 1) ++ (⟨#[32]⟩ : ByteArray)) ++ wd s 2) ++ (⟨#[32]⟩ : ByteArray)) ++ wd s 3) ++ (⟨#[32]⟩ : ByteArray)) ++ wd s 4 = s := by
 have hb := cutS_bytes 32 s 5
 have hj := joinB_cutN 32 (bytesOf s) 5
 rw [← hb] at hj
 unfold wd
 generalize cutS 32 s 5 = l at *
 obtain ⟨a, b, c, d, e, rfl⟩ : ∃ a b c d e, l = [a, b, c, d, e] := by
  match l, h with
  | [a, b, c, d, e], _ => exact ⟨a, b, c, d, e, rfl⟩
 apply bytes_inj
 rw [← hj]
 simp only [bytes_append]
 simp only [rdOf, List.map_cons, List.map_nil, joinB, List.append_assoc]
 rfl
theorem headS_back {s : ByteArray} (h : headGood s) : headS (wd s 0) (wd s 1) (numS (wd s 2)) (numS (wd s 3)) (numS (wd s 4)) = s := by
 have h1 := (headB_iff _ _ _ _ _).1 h.2
 unfold headS
 rw [numS_dec (s := wd s 2) (by omega), numS_dec (s := wd s 3) (by omega), numS_dec (s := wd s 4) (by omega)]
 exact head_join h.1
theorem specHeadGet_ev (s : ByteArray) (hs : s.size ≤ 100000000) : Ev (fun k => spec_HeadGet.f k s) (headGet s) := by
 have h0 := wd_size s 0
 have h1 := wd_size s 1
 have h2 := wd_size s 2
 have h3 := wd_size s 3
 have h4 := wd_size s 4
 unfold spec_HeadGet.f
 refine Ev.bind (specCut_ev s (by omega) 32 5) ?_
 by_cases hl : (cutS 32 s 5).length = 5
 ·refine Ev.ifp (by omega) (Ev.ifp (by omega) (Ev.ifp (by omega) (Ev.ifp (by omega) (Ev.bind (specNum_ev (wd s 2) (by omega)) (Ev.ifp (by omega) (Ev.bind (specNum_ev (wd s 3) (by omega)) (Ev.ifp (by omega) (Ev.bind (specNum_ev (wd s 4) (by omega)) (Ev.bind (specOk_ev (wd s 0) (wd s 1) _ _ _ (by omega) (by omega)) ?_)))))))))
  by_cases hb : headB (wd s 0) (wd s 1) (numS (wd s 2)) (numS (wd s 3)) (numS (wd s 4)) = true
  ·have hg : headGood s := ⟨hl, hb⟩
   refine Ev.ifp hb (Ev.bind (specHeadS_ev hb) (Ev.ifp (congrArg ByteArray.toList (headS_back hg)) (Ev.at_ (Ev.now _) (if_pos hg).symm)))
  ·exact Ev.ifn hb (Ev.at_ (Ev.now _) (if_neg (fun h => hb h.2)).symm)
 ·exact Ev.ifn (by omega) (Ev.at_ (Ev.now _) (if_neg (fun h => hl h.1)).symm)
theorem split_eq (s : ByteArray) (c : UInt8) (hs : s.size < 4294967281) : strings_Split.f s (⟨#[c]⟩ : ByteArray) = some (cutS ((c.toNat : Nat) : Int) s s.size) := by
 unfold strings_Split.f
 rw [if_pos ⟨hs, Nat.le_refl _⟩]
 exact congrArg some (split_cut c s.size s (Nat.le_refl _))
theorem cutS_all {c : Int} {s : ByteArray} {m : Nat} (h : (cutS c s m).length ≤ m) : cutS c s s.size = cutS c s m := by
 have hc := cntB_le c (bytesOf s)
 rw [bytes_len] at hc
 rw [cutS_len] at h
 unfold cutS
 rw [cutN_same c (bytesOf s) s.size m hc (by omega)]
theorem cutS_all' {c : Int} {s : ByteArray} {m n : Nat} (hn : n ≤ m) (h : (cutS c s s.size).length = n) : cutS c s s.size = cutS c s m := by
 have hc := cntB_le c (bytesOf s)
 rw [bytes_len] at hc
 rw [cutS_len] at h
 unfold cutS
 rw [cutN_same c (bytesOf s) s.size m hc (by omega)]
theorem implHeadGet_ev (s : ByteArray) (hs : s.size ≤ 100000000) : Ev (fun k => impl_HeadGet.f k s) (headGet s) := by
 have h0 := wd_size s 0
 have h1 := wd_size s 1
 have h2 := wd_size s 2
 have h3 := wd_size s 3
 have h4 := wd_size s 4
 unfold impl_HeadGet.f
 have e : strings_Split.f s (⟨#[32]⟩ : ByteArray) = some (cutS 32 s s.size) := split_eq s 32 (by omega)
 refine Ev.b e ?_
 by_cases hl : (cutS 32 s 5).length = 5
 ·rw [cutS_all (Nat.le_of_eq hl)]
  have no : ¬ headB (wd s 0) (wd s 1) (numS (wd s 2)) (numS (wd s 3)) (numS (wd s 4)) = true → headGet s = ((⟨#[]⟩ : ByteArray), (⟨#[]⟩ : ByteArray), 0, 0, 0, false) := fun hb => if_neg (fun h => hb h.2)
  refine Ev.ifp (by omega) (Ev.ifp (by omega) (Ev.bind (implNum_ev (wd s 2) (by omega)) (Ev.ifp (by omega) (Ev.bind (implNum_ev (wd s 3) (by omega)) (Ev.ifp (by omega) (Ev.bind (implNum_ev (wd s 4) (by omega)) (Ev.ifp (by omega) (Ev.ifp (by omega) ?_))))))))
  by_cases a2 : (numP (wd s 2)).2 = true
  ·by_cases a3 : (numP (wd s 3)).2 = true
   ·by_cases a4 : (numP (wd s 4)).2 = true
    ·have e2 := numP_true a2
     have e3 := numP_true a3
     have e4 := numP_true a4
     refine Ev.ifp a2 (Ev.ifp a3 (Ev.ifp a4 ?_))
     rw [e2, e3, e4]
     refine Ev.bind (implOk_ev (wd s 0) (wd s 1) _ _ _ (by omega) (by omega)) ?_
     by_cases hb : headB (wd s 0) (wd s 1) (numS (wd s 2)) (numS (wd s 3)) (numS (wd s 4)) = true
     ·exact Ev.ifp hb (Ev.at_ (Ev.now _) (if_pos (show headGood s from ⟨hl, hb⟩)).symm)
     ·exact Ev.ifn hb (Ev.at_ (Ev.now _) (no hb).symm)
    ·exact Ev.ifp a2 (Ev.ifp a3 (Ev.ifn a4 (Ev.at_ (Ev.now _) (no (fun h => by have := (headB_iff _ _ _ _ _).1 h; rw [numP_false a4] at this; omega)).symm)))
   ·exact Ev.ifp a2 (Ev.ifn a3 (Ev.at_ (Ev.now _) (no (fun h => by have := (headB_iff _ _ _ _ _).1 h; rw [numP_false a3] at this; omega)).symm))
  ·exact Ev.ifn a2 (Ev.at_ (Ev.now _) (no (fun h => by have := (headB_iff _ _ _ _ _).1 h; rw [numP_false a2] at this; omega)).symm)
 ·exact Ev.ifn (fun h => hl (by rw [← cutS_all' (m := 5) (Nat.le_refl 5) (by omega)]; omega)) (Ev.at_ (Ev.now _) (if_neg (fun h => hl h.1)).symm)
theorem itoa_ev {n : Int} (h0 : 0 ≤ n) (h1 : n ≤ 1000000000000) : strconv_Itoa_19.f n = some (decS n) := by
 unfold strconv_Itoa_19.f
 rw [if_pos ⟨by omega, by omega⟩]
 exact congrArg some (itoa_dec h0)
theorem implHeadPut_ev (p r : ByteArray) (t d n : Int) (hp : p.size ≤ 140737488351232) (hr : r.size ≤ 140737488351232) : Ev (fun k => impl_HeadPut.f k p r t d n) (headPut p r t d n) := by
 unfold impl_HeadPut.f
 refine Ev.bind (implOk_ev p r t d n hp hr) ?_
 by_cases h : headB p r t d n = true
 ·rw [headPut_pos h]
  have hs := headB_size h
  have h1 := (headB_iff p r t d n).1 h
  have ht := dec_small (n := t) (by omega)
  have hd := dec_small (n := d) (by omega)
  have hn := dec_small (n := n) (by omega)
  exact Ev.ifp h (Ev.ifp (by omega) (Ev.ifp (by rw [ByteArray.size_append, one_size]; omega) (Ev.ifp (by simp only [ByteArray.size_append, one_size]; omega) (Ev.b (itoa_ev (n := t) (by omega) (by omega)) (Ev.ifp (by simp only [ByteArray.size_append, one_size]; omega) (Ev.ifp (by simp only [ByteArray.size_append, one_size]; omega) (Ev.b (itoa_ev (n := d) (by omega) (by omega)) (Ev.ifp (by simp only [ByteArray.size_append, one_size]; omega) (Ev.ifp (by simp only [ByteArray.size_append, one_size]; omega) (Ev.b (itoa_ev (n := n) (by omega) (by omega)) (Ev.ifp (by simp only [ByteArray.size_append, one_size]; omega) (Ev.now _))))))))))))
 ·rw [headPut_neg h]; exact Ev.ifn h (Ev.now _)
theorem rdIP (l : List S93) (i : Nat) (h : i < l.length) : rd_T93 l (i : Int) = l[i] := by
 unfold rd_T93
 rw [Int.toNat_natCast, List.getD_eq_getElem?_getD, List.getElem?_eq_getElem h, Option.getD_some]
theorem rdID (l : List S48) (i : Nat) (h : i < l.length) : rd_T48 l (i : Int) = l[i] := by
 unfold rd_T48
 rw [Int.toNat_natCast, List.getD_eq_getElem?_getD, List.getElem?_eq_getElem h, Option.getD_some]
def two (c : Int) : Bool := decide (c = 1 ∨ c = 2 ∨ c = 4 ∨ c = 8 ∨ c = 16)
def pkB (s : ByteArray) (w c : Int) : Bool := sumB (bytesOf s) && (decide (1 ≤ c ∧ c ≤ 20) && decide (c ≤ w ∧ w ≤ c * 8))
theorem pkB_count {s : ByteArray} {w c : Int} (h : pkB s w c = true) : 1 ≤ c ∧ c ≤ 20 := by
 unfold pkB at h
 rw [Bool.and_eq_true, Bool.and_eq_true, decide_eq_true_iff] at h
 exact h.2.1
theorem pkB_work {s : ByteArray} {w c : Int} (h : pkB s w c = true) : c ≤ w ∧ w ≤ c * 8 := by
 unfold pkB at h
 rw [Bool.and_eq_true, Bool.and_eq_true, decide_eq_true_iff, decide_eq_true_iff] at h
 exact h.2.2
theorem twenty {c : Int} (h : 1 ≤ c ∧ c ≤ 20) : c = 1 ∨ c = 2 ∨ c = 3 ∨ c = 4 ∨ c = 5 ∨ c = 6 ∨ c = 7 ∨ c = 8 ∨ c = 9 ∨ c = 10 ∨ c = 11 ∨ c = 12 ∨ c = 13 ∨ c = 14 ∨ c = 15 ∨ c = 16 ∨ c = 17 ∨ c = 18 ∨ c = 19 ∨ c = 20 := by omega
def notLess : Option Int → Int → Bool
 | none, _ => false
 | some q, c => decide (c ≥ q)
def rgo : Option Int → Int → List S93 → Bool
 | _, n, [] => decide (n ≤ 20)
 | prev, n, p :: r => if pkB p.f0 p.f1 p.f2 = true then (if two p.f2 = true then (if notLess prev p.f2 = true then false else rgo (some p.f2) (n + p.f2) r) else false) else false
def rangeB (l : List S93) : Bool := rgo none 0 l
theorem rdIP_ (l : List S93) (i : Nat) (h : i < l.length) : rd_T93 l (i : Int) = l[i] := by
 unfold rd_T93
 rw [Int.toNat_natCast, List.getD_eq_getElem?_getD, List.getElem?_eq_getElem h, Option.getD_some]
def pv (l : List S93) : Nat → Option Int
 | 0 => none
 | i + 1 => some (rd_T93 l (i : Int)).f2
theorem pv_succ (l : List S93) (i : Nat) : pv l (i + 1) = some (rd_T93 l (i : Int)).f2 := rfl
theorem rgo_at (l : List S93) (i : Nat) (n : Int) (h : i < l.length) : rgo (pv l i) n (l.drop i) = if pkB l[i].f0 l[i].f1 l[i].f2 = true then (if two l[i].f2 = true then (if notLess (pv l i) l[i].f2 = true then false else rgo (pv l (i + 1)) (n + l[i].f2) (l.drop (i + 1))) else false) else false := by
 have e : pv l (i + 1) = some l[i].f2 := by rw [pv_succ, rdIP_ l i h]
 rw [List.drop_eq_getElem_cons h, e]
 rfl
theorem specTwo_ev {c : Int} (h : 1 ≤ c ∧ c ≤ 20) : Ev (fun k => spec_l5Two.f k c) (two c) := by
 rcases twenty h with rfl | rfl | rfl | rfl | rfl | rfl | rfl | rfl | rfl | rfl | rfl | rfl | rfl | rfl | rfl | rfl | rfl | rfl | rfl | rfl <;> exact Ev.of (fun k => spec_l5Two.mono _ k) (k := 7) (by decide +kernel)
theorem specPeak_ev (s : ByteArray) (w c : Int) (hs : s.size ≤ 140737488351232) : Ev (fun k => spec_l5PeakOk.f k s w c) (pkB s w c) := by
 unfold spec_l5PeakOk.f pkB
 refine Ev.bind (specIsSum_ev s hs) ?_
 by_cases h : sumB (bytesOf s) = true
 ·refine Ev.ifp h (Ev.b (specIn _ _ _) ?_)
  rw [h, Bool.true_and]
  by_cases hc : 1 ≤ c ∧ c ≤ 20
  ·have hw : wrap64 (c * 8) = c * 8 := w64 (by omega) (by omega)
   rw [decide_eq_true hc, Bool.true_and, hw]
   exact Ev.ifp rfl (Ev.b (specIn _ _ _) (Ev.now _))
  ·rw [decide_eq_false hc, Bool.false_and]
   exact Ev.ifn (by simp) (Ev.now _)
 ·rw [Bool.eq_false_iff.2 h, Bool.false_and]
  exact Ev.ifn (by simp) (Ev.now _)
theorem specRange_loop (l : List S93) (hl : l.length ≤ 1048576) (hs : ∀ p ∈ l, p.f0.size ≤ 1048576) (d : Nat) : ∀ (i : Nat) (n : Int), i + d = l.length → 0 ≤ n → n ≤ 20 * (i : Int) →
  Ev (fun k => spec_l5Ok.l0 k l n (i : Int)) (rgo (pv l i) n (l.drop i)) := by
 induction d with
 | zero =>
  intro i n hi h0 h1
  rw [List.drop_eq_nil_of_le (by omega)]
  refine Ev.step (f := fun _ => some (decide (n ≤ 20))) (fun k => ?_) (Ev.now _)
  simp only [spec_l5Ok.l0]; rw [if_neg (by omega)]
 | succ d ih =>
  intro i n hi h0 h1
  have hil : i < l.length := by omega
  have hlt : (i : Int) < (l.length : Int) := by omega
  have hi0 : (0 : Int) ≤ (i : Int) := by omega
  have hi1 : ((i + 1 : Nat) : Int) = (i : Int) + 1 := by omega
  have hd : i + 1 + d = l.length := by omega
  have hz := hs _ (List.getElem_mem hil)
  have w2 : wrap64 ((i : Int) + 1) = ((i + 1 : Nat) : Int) := by rw [hi1]; exact w64 (by omega) (by omega)
  rw [rgo_at l i n hil]
  have hpk := specPeak_ev l[i].f0 l[i].f1 l[i].f2 (by clear w2; omega)
  refine Ev.step (f := fun k => (spec_l5PeakOk.f k l[i].f0 l[i].f1 l[i].f2).bind fun t126 => (if t126 = true then ((spec_l5Two.f k l[i].f2).bind fun t128 => (if t128 = true then (if (i : Int) > 0 then (if 0 ≤ (wrap64 ((i : Int) - 1)) then (if (wrap64 ((i : Int) - 1)) < (l.length : Int) then (if l[i].f2 ≥ ((rd_T93 l (wrap64 ((i : Int) - 1))).f2) then (some false) else (spec_l5Ok.l0 k l (wrap64 (n + l[i].f2)) (wrap64 ((i : Int) + 1)))) else (none)) else (none)) else (spec_l5Ok.l0 k l (wrap64 (n + l[i].f2)) (wrap64 ((i : Int) + 1)))) else (some false))) else (some false))) (fun k => ?_) (Ev.bind hpk ?_)
  ·simp only [spec_l5Ok.l0]; rw [if_pos hlt, if_pos hi0, rdIP_ l i hil]
  by_cases hp : pkB l[i].f0 l[i].f1 l[i].f2 = true
  ·rw [if_pos hp]
   have hc := pkB_count hp
   refine Ev.ifp hp (Ev.bind (specTwo_ev hc) ?_)
   by_cases ht : two l[i].f2 = true
   ·rw [if_pos ht]
    refine Ev.ifp ht ?_
    have w3 : wrap64 (n + l[i].f2) = n + l[i].f2 := by clear w2; exact w64 (by omega) (by omega)
    have hnx := ih (i + 1) (n + l[i].f2) hd (by clear w2 w3; omega) (by clear w2 w3; omega)
    rw [w3, w2]
    cases i with
    | zero =>
     rw [if_neg (show ¬ notLess (pv l 0) l[0].f2 = true by unfold pv notLess; simp)]
     exact Ev.ifn (by clear w2 w3; omega) hnx
    | succ i =>
     have w4 : wrap64 (((i + 1 : Nat) : Int) - 1) = (i : Int) := by clear w2 w3; exact (w64 (by omega) (by omega)).trans (by omega)
     rw [w4]
     rw [pv_succ]
     refine Ev.ifp (by clear w2 w3 w4; omega) (Ev.ifp (by clear w2 w3 w4; omega) (Ev.ifp (by clear w2 w3 w4; omega) ?_))
     by_cases hg : l[i + 1].f2 ≥ (rd_T93 l (i : Int)).f2
     ·rw [if_pos (show notLess (some (rd_T93 l (i : Int)).f2) l[i + 1].f2 = true from decide_eq_true hg)]
      exact Ev.ifp hg (Ev.now _)
     ·rw [if_neg (show ¬ notLess (some (rd_T93 l (i : Int)).f2) l[i + 1].f2 = true by rw [show notLess (some (rd_T93 l (i : Int)).f2) l[i + 1].f2 = false from decide_eq_false hg]; simp)]
      exact Ev.ifn hg hnx
   ·rw [if_neg ht]
    exact Ev.ifn ht (Ev.now _)
  ·rw [if_neg hp]
   exact Ev.ifn hp (Ev.now _)
theorem specRange_ev (l : List S93) (hl : l.length ≤ 1048576) (hs : ∀ p ∈ l, p.f0.size ≤ 1048576) : Ev (fun k => spec_l5Ok.f k l) (rangeB l) := by
 have h := specRange_loop l hl hs l.length 0 0 (by omega) (by omega) (by omega)
 rw [List.drop_zero, Int.natCast_zero] at h
 unfold spec_l5Ok.f
 exact h
theorem implPeak_ev (s : ByteArray) (w c : Int) (hs : s.size ≤ 140737488351232) : Ev (fun k => impl_peakOk.f k s w c) (pkB s w c) := by
 unfold impl_peakOk.f pkB
 refine Ev.bind (implIsSum_ev s hs) ?_
 by_cases h : sumB (bytesOf s) = true
 ·refine Ev.ifp h (Ev.b (implIn _ _ _) ?_)
  rw [h, Bool.true_and]
  by_cases hc : 1 ≤ c ∧ c ≤ 20
  ·have hw : wrap64 (c * 8) = c * 8 := w64 (by omega) (by omega)
   rw [decide_eq_true hc, Bool.true_and, hw]
   exact Ev.ifp rfl (Ev.b (implIn _ _ _) (Ev.now _))
  ·rw [decide_eq_false hc, Bool.false_and]
   exact Ev.ifn (by simp) (Ev.now _)
 ·rw [Bool.eq_false_iff.2 h, Bool.false_and]
  exact Ev.ifn (by simp) (Ev.now _)
theorem two_and {c : Int} (h : 1 ≤ c ∧ c ≤ 20) : Go.bits .and .i64 c (wrap64 (c - 1)) = 0 ↔ two c = true := by
 rcases twenty h with rfl | rfl | rfl | rfl | rfl | rfl | rfl | rfl | rfl | rfl | rfl | rfl | rfl | rfl | rfl | rfl | rfl | rfl | rfl | rfl <;> decide +kernel
theorem implRange_loop (l : List S93) (hl : l.length ≤ 1048576) (hs : ∀ p ∈ l, p.f0.size ≤ 1048576) (d : Nat) : ∀ (i : Nat) (n : Int), i + d = l.length → 0 ≤ n → n ≤ 20 * (i : Int) →
  Ev (fun k => impl_RangeOk.l0 k l n l (l.length : Int) (i : Int)) (rgo (pv l i) n (l.drop i)) := by
 induction d with
 | zero =>
  intro i n hi h0 h1
  rw [List.drop_eq_nil_of_le (by omega)]
  refine Ev.step (f := fun _ => some (decide (n ≤ 20))) (fun k => ?_) (Ev.now _)
  simp only [impl_RangeOk.l0]; rw [if_neg (by omega)]
 | succ d ih =>
  intro i n hi h0 h1
  have hil : i < l.length := by omega
  have hlt : (i : Int) < (l.length : Int) := by omega
  have hi0 : (0 : Int) ≤ (i : Int) := by omega
  have hi1 : ((i + 1 : Nat) : Int) = (i : Int) + 1 := by omega
  have hd : i + 1 + d = l.length := by omega
  have hz := hs _ (List.getElem_mem hil)
  have w2 : wrap64 ((i : Int) + 1) = ((i + 1 : Nat) : Int) := by rw [hi1]; exact w64 (by omega) (by omega)
  rw [rgo_at l i n hil]
  have hpk := implPeak_ev l[i].f0 l[i].f1 l[i].f2 (by clear w2; omega)
  refine Ev.step (f := fun k => (impl_peakOk.f k l[i].f0 l[i].f1 l[i].f2).bind fun t146 => (if t146 = true then (if (Go.bits .and .i64 l[i].f2 (wrap64 (l[i].f2 - 1))) = 0 then (if (i : Int) > 0 then (if 0 ≤ (wrap64 ((i : Int) - 1)) then (if (wrap64 ((i : Int) - 1)) < (l.length : Int) then (if l[i].f2 ≥ ((rd_T93 l (wrap64 ((i : Int) - 1))).f2) then (some false) else (impl_RangeOk.l0 k l (wrap64 (n + l[i].f2)) l (l.length : Int) (wrap64 ((i : Int) + 1)))) else (none)) else (none)) else (impl_RangeOk.l0 k l (wrap64 (n + l[i].f2)) l (l.length : Int) (wrap64 ((i : Int) + 1)))) else (some false)) else (some false))) (fun k => ?_) (Ev.bind hpk ?_)
  ·simp only [impl_RangeOk.l0]; rw [if_pos hlt, if_pos hi0, if_pos hlt, rdIP_ l i hil]
  by_cases hp : pkB l[i].f0 l[i].f1 l[i].f2 = true
  ·rw [if_pos hp]
   have hc := pkB_count hp
   refine Ev.ifp hp ?_
   by_cases ht : two l[i].f2 = true
   ·rw [if_pos ht]
    refine Ev.ifp ((two_and hc).2 ht) ?_
    have w3 : wrap64 (n + l[i].f2) = n + l[i].f2 := by clear w2; exact w64 (by omega) (by omega)
    have hnx := ih (i + 1) (n + l[i].f2) hd (by clear w2 w3; omega) (by clear w2 w3; omega)
    rw [w3, w2]
    cases i with
    | zero =>
     rw [if_neg (show ¬ notLess (pv l 0) l[0].f2 = true by unfold pv notLess; simp)]
     exact Ev.ifn (by clear w2 w3; omega) hnx
    | succ i =>
     have w4 : wrap64 (((i + 1 : Nat) : Int) - 1) = (i : Int) := by clear w2 w3; exact (w64 (by omega) (by omega)).trans (by omega)
     rw [w4]
     rw [pv_succ]
     refine Ev.ifp (by clear w2 w3 w4; omega) (Ev.ifp (by clear w2 w3 w4; omega) (Ev.ifp (by clear w2 w3 w4; omega) ?_))
     by_cases hg : l[i + 1].f2 ≥ (rd_T93 l (i : Int)).f2
     ·rw [if_pos (show notLess (some (rd_T93 l (i : Int)).f2) l[i + 1].f2 = true from decide_eq_true hg)]
      exact Ev.ifp hg (Ev.now _)
     ·rw [if_neg (show ¬ notLess (some (rd_T93 l (i : Int)).f2) l[i + 1].f2 = true by rw [show notLess (some (rd_T93 l (i : Int)).f2) l[i + 1].f2 = false from decide_eq_false hg]; simp)]
      exact Ev.ifn hg hnx
   ·rw [if_neg ht]
    exact Ev.ifn (fun h => ht ((two_and hc).1 h)) (Ev.now _)
  ·rw [if_neg hp]
   exact Ev.ifn hp (Ev.now _)
theorem implRange_ev (l : List S93) (hl : l.length ≤ 1048576) (hs : ∀ p ∈ l, p.f0.size ≤ 1048576) : Ev (fun k => impl_RangeOk.f k l) (rangeB l) := by
 have h := implRange_loop l hl hs l.length 0 0 (by omega) (by omega) (by omega)
 rw [List.drop_zero, Int.natCast_zero] at h
 unfold impl_RangeOk.f
 exact h
def pkS (p : S93) : Bool := pkB p.f0 p.f1 p.f2
def sideB (p : S48) : Bool := sumB (bytesOf p.f0)
def paidB (at_ : Int) (s t : ByteArray) (x y z : Int) (l m : List S93) (q : List S48) : Bool :=
 decide (0 ≤ at_ ∧ at_ ≤ 19) && (headB s t x y z && (rangeB l && (decide (m.length ≤ 8) && (decide (q.length ≤ 8) && (m.all pkS && q.all sideB)))))
theorem paidB_iff (at_ : Int) (s t : ByteArray) (x y z : Int) (l m : List S93) (q : List S48) : paidB at_ s t x y z l m q = true ↔
  (0 ≤ at_ ∧ at_ ≤ 19) ∧ headB s t x y z = true ∧ rangeB l = true ∧ m.length ≤ 8 ∧ q.length ≤ 8 ∧ m.all pkS = true ∧ q.all sideB = true := by
 unfold paidB
 rw [Bool.and_eq_true, Bool.and_eq_true, Bool.and_eq_true, Bool.and_eq_true, Bool.and_eq_true, Bool.and_eq_true, decide_eq_true_iff, decide_eq_true_iff, decide_eq_true_iff]
theorem rgo_pk : ∀ (l : List S93) (prev : Option Int) (n : Int), rgo prev n l = true → ∀ p ∈ l, pkS p = true
 | [], _, _, _, p, hp => absurd hp List.not_mem_nil
 | a :: r, prev, n, h, p, hp => by
  unfold rgo at h
  by_cases h1 : pkB a.f0 a.f1 a.f2 = true
  ·rw [if_pos h1] at h
   by_cases h2 : two a.f2 = true
   ·rw [if_pos h2] at h
    by_cases h3 : notLess prev a.f2 = true
    ·rw [if_pos h3] at h; cases h
    ·rw [if_neg h3] at h
     rcases List.mem_cons.1 hp with rfl | hp
     ·exact h1
     ·exact rgo_pk r _ _ h p hp
   ·rw [if_neg h2] at h; cases h
  ·rw [if_neg h1] at h; cases h
theorem range_pk {l : List S93} (h : rangeB l = true) : ∀ p ∈ l, pkS p = true := rgo_pk l none 0 h
theorem pkS_facts {p : S93} (h : pkS p = true) : p.f0.size = 16 ∧ (0 ≤ p.f1 ∧ p.f1 ≤ 160) ∧ (0 ≤ p.f2 ∧ p.f2 ≤ 20) := by
 have h1 := pkB_count h
 have h2 := pkB_work h
 have h3 : sumB (bytesOf p.f0) = true := by
  unfold pkS pkB at h
  rw [Bool.and_eq_true] at h
  exact h.1
 have h4 := ((sumB_iff _).1 h3).2
 rw [bytes_len] at h4
 exact ⟨h4, by omega, by omega⟩
def peaksL : List S93 → List Int
 | [] => []
 | p :: r => 32 :: (bytesOf p.f0 ++ 58 :: (decI p.f1.toNat ++ 58 :: (decI p.f2.toNat ++ peaksL r)))
def sidesL : List S48 → List Int
 | [] => []
 | p :: r => 32 :: (if p.f1 = true then 108 else 114) :: (bytesOf p.f0 ++ sidesL r)
def paidL (at_ : Int) (s t : ByteArray) (x y z : Int) (l m : List S93) (q : List S48) : List Int :=
 decI at_.toNat ++ 32 :: (bytesOf (headS s t x y z) ++ ([10, 112, 101, 97, 107, 115] ++ (peaksL l ++ ([10, 115, 116, 101, 112, 115] ++ (peaksL m ++ ([10, 115, 105, 100, 101, 115] ++ (sidesL q ++ [10])))))))
def paidPut (at_ : Int) (s t : ByteArray) (x y z : Int) (l m : List S93) (q : List S48) : ByteArray :=
 if paidB at_ s t x y z l m q = true then strOfNums (paidL at_ s t x y z l m q) else (⟨#[]⟩ : ByteArray)
theorem paidPut_pos {at_ : Int} {s t : ByteArray} {x y z : Int} {l m : List S93} {q : List S48} (h : paidB at_ s t x y z l m q = true) : paidPut at_ s t x y z l m q = strOfNums (paidL at_ s t x y z l m q) := if_pos h
theorem paidPut_neg {at_ : Int} {s t : ByteArray} {x y z : Int} {l m : List S93} {q : List S48} (h : ¬ paidB at_ s t x y z l m q = true) : paidPut at_ s t x y z l m q = (⟨#[]⟩ : ByteArray) := if_neg h
theorem str_of {r : ByteArray} {l : List Int} (h : bytesOf r = l) : r = strOfNums l := by rw [← h, str_bytes]
theorem headS_size {s t : ByteArray} {x y z : Int} (h : headB s t x y z = true) : (headS s t x y z).size ≤ 100 := by
 have hs := headB_size h
 have h1 := (headB_iff s t x y z).1 h
 have ht := dec_small (n := x) (by omega)
 have hd := dec_small (n := y) (by omega)
 have hn := dec_small (n := z) (by omega)
 unfold headS
 simp only [ByteArray.size_append, one_size]
 omega
theorem five_size (a b c d e : UInt8) : (⟨#[a, b, c, d, e]⟩ : ByteArray).size = 5 := rfl
theorem specPeaks_loop (l : List S93) (hl : l.length ≤ 1048576) (hp : ∀ p ∈ l, pkS p = true) : ∀ (d i : Nat) (x : ByteArray), i + d = l.length → x.size ≤ 1000000 + 1000 * i →
  ∃ r, Ev (fun k => spec_l9Peaks.l0 k l x (i : Int)) r ∧ bytesOf r = bytesOf x ++ peaksL (l.drop i) ∧ r.size ≤ 1000000 + 1000 * l.length
 | 0, i, x, h, hx => by
  refine ⟨x, Ev.step (f := fun _ => some x) (fun k => ?_) (Ev.now _), ?_, by omega⟩
  ·simp only [spec_l9Peaks.l0]
   rw [if_neg (by omega)]
  ·rw [List.drop_eq_nil_of_le (by omega), peaksL, List.append_nil]
 | d + 1, i, x, h, hx => by
  have hi : i < l.length := by omega
  have hf := pkS_facts (hp _ (List.getElem_mem hi))
  have e1 := dec_small (n := l[i].f1) (by omega)
  have e2 := dec_small (n := l[i].f2) (by omega)
  obtain ⟨r, hr, hb, hs⟩ := specPeaks_loop l hl hp d (i + 1) ((((((x ++ (⟨#[32]⟩ : ByteArray)) ++ l[i].f0) ++ (⟨#[58]⟩ : ByteArray)) ++ decS l[i].f1) ++ (⟨#[58]⟩ : ByteArray)) ++ decS l[i].f2) (by omega) (by simp only [ByteArray.size_append, one_size]; omega)
  have hw : wrap64 ((i : Int) + 1) = ((i + 1 : Nat) : Int) := by rw [w64 (by omega) (by omega)]; omega
  refine ⟨r, Ev.step (f := fun k => (spec_l1Dec.f k l[i].f1).bind fun t177 => (if (((x ++ (⟨#[32]⟩ : ByteArray)) ++ l[i].f0) ++ (⟨#[58]⟩ : ByteArray)).size + t177.size ≤ 9223372036854775807 then (if ((((x ++ (⟨#[32]⟩ : ByteArray)) ++ l[i].f0) ++ (⟨#[58]⟩ : ByteArray)) ++ t177).size + 1 ≤ 9223372036854775807 then ((spec_l1Dec.f k l[i].f2).bind fun t179 => (if (((((x ++ (⟨#[32]⟩ : ByteArray)) ++ l[i].f0) ++ (⟨#[58]⟩ : ByteArray)) ++ t177) ++ (⟨#[58]⟩ : ByteArray)).size + t179.size ≤ 9223372036854775807 then (spec_l9Peaks.l0 k l ((((((x ++ (⟨#[32]⟩ : ByteArray)) ++ l[i].f0) ++ (⟨#[58]⟩ : ByteArray)) ++ t177) ++ (⟨#[58]⟩ : ByteArray)) ++ t179) ((i + 1 : Nat) : Int)) else (none))) else (none)) else (none))) (fun k => ?_) ?_, ?_, hs⟩
  ·simp only [spec_l9Peaks.l0]
   rw [rdIP l i hi, hw]
   clear hw
   rw [if_pos (by omega), if_pos (by omega), if_pos (by omega), if_pos (by rw [ByteArray.size_append, one_size]; omega), if_pos (by simp only [ByteArray.size_append, one_size]; omega)]
  ·clear hw
   exact Ev.bind (specDec (n := l[i].f1) (by omega) (by omega)) (Ev.ifp (by simp only [ByteArray.size_append, one_size]; omega) (Ev.ifp (by simp only [ByteArray.size_append, one_size]; omega) (Ev.bind (specDec (n := l[i].f2) (by omega) (by omega)) (Ev.ifp (by simp only [ByteArray.size_append, one_size]; omega) hr))))
  ·clear hw
   rw [hb, List.drop_eq_getElem_cons hi, peaksL]
   simp only [bytes_append, decS_bytes, List.append_assoc]
   rfl
theorem specSides_loop (l : List S48) (hl : l.length ≤ 1048576) (hp : ∀ p ∈ l, sideB p = true) : ∀ (d i : Nat) (x : ByteArray), i + d = l.length → x.size ≤ 1000000 + 1000 * i →
  ∃ r, Ev (fun k => spec_l9Sides.l0 k l x (i : Int)) r ∧ bytesOf r = bytesOf x ++ sidesL (l.drop i) ∧ r.size ≤ 1000000 + 1000 * l.length
 | 0, i, x, h, hx => by
  refine ⟨x, Ev.step (f := fun _ => some x) (fun k => ?_) (Ev.now _), ?_, by omega⟩
  ·simp only [spec_l9Sides.l0]
   rw [if_neg (by omega)]
  ·rw [List.drop_eq_nil_of_le (by omega), sidesL, List.append_nil]
 | d + 1, i, x, h, hx => by
  have hi : i < l.length := by omega
  have hf : l[i].f0.size = 16 := by
   have := ((sumB_iff _).1 (hp _ (List.getElem_mem hi))).2
   rw [bytes_len] at this; exact this
  by_cases c : l[i].f1 = true
  ·obtain ⟨r, hr, hb, hs⟩ := specSides_loop l hl hp d (i + 1) (((x ++ (⟨#[32]⟩ : ByteArray)) ++ (⟨#[108]⟩ : ByteArray)) ++ l[i].f0) (by omega) (by simp only [ByteArray.size_append, one_size]; omega)
   refine ⟨r, Ev.step (f := fun k => spec_l9Sides.l0 k l (((x ++ (⟨#[32]⟩ : ByteArray)) ++ (⟨#[108]⟩ : ByteArray)) ++ l[i].f0) ((i + 1 : Nat) : Int)) (fun k => ?_) hr, ?_, hs⟩
   ·simp only [spec_l9Sides.l0]
    rw [rdID l i hi, if_pos (by omega), if_pos (by omega), if_pos c, if_pos (by omega), if_pos (by rw [ByteArray.size_append, one_size]; omega), if_pos (by simp only [ByteArray.size_append, one_size]; omega), w64 (by omega) (by omega)]
    rfl
   ·rw [hb, List.drop_eq_getElem_cons hi, sidesL, if_pos c]
    simp only [bytes_append, List.append_assoc]
    rfl
  ·obtain ⟨r, hr, hb, hs⟩ := specSides_loop l hl hp d (i + 1) (((x ++ (⟨#[32]⟩ : ByteArray)) ++ (⟨#[114]⟩ : ByteArray)) ++ l[i].f0) (by omega) (by simp only [ByteArray.size_append, one_size]; omega)
   refine ⟨r, Ev.step (f := fun k => spec_l9Sides.l0 k l (((x ++ (⟨#[32]⟩ : ByteArray)) ++ (⟨#[114]⟩ : ByteArray)) ++ l[i].f0) ((i + 1 : Nat) : Int)) (fun k => ?_) hr, ?_, hs⟩
   ·simp only [spec_l9Sides.l0]
    rw [rdID l i hi, if_pos (by omega), if_pos (by omega), if_neg c, if_pos (by omega), if_pos (by rw [ByteArray.size_append, one_size]; omega), if_pos (by simp only [ByteArray.size_append, one_size]; omega), w64 (by omega) (by omega)]
    rfl
   ·rw [hb, List.drop_eq_getElem_cons hi, sidesL, if_neg c]
    simp only [bytes_append, List.append_assoc]
    rfl
theorem specPeaks_ev (l : List S93) (hl : l.length ≤ 1048576) (hp : ∀ p ∈ l, pkS p = true) : ∃ r, Ev (fun k => spec_l9Peaks.f k l) r ∧ bytesOf r = peaksL l ∧ r.size ≤ 1000000 + 1000 * l.length := by
 obtain ⟨r, hr, hb, hs⟩ := specPeaks_loop l hl hp l.length 0 (⟨#[]⟩ : ByteArray) (by omega) (Nat.zero_le _)
 exact ⟨r, hr, hb, hs⟩
theorem specSides_ev (l : List S48) (hl : l.length ≤ 1048576) (hp : ∀ p ∈ l, sideB p = true) : ∃ r, Ev (fun k => spec_l9Sides.f k l) r ∧ bytesOf r = sidesL l ∧ r.size ≤ 1000000 + 1000 * l.length := by
 obtain ⟨r, hr, hb, hs⟩ := specSides_loop l hl hp l.length 0 (⟨#[]⟩ : ByteArray) (by omega) (Nat.zero_le _)
 exact ⟨r, hr, hb, hs⟩
theorem specPaidL_ev {at_ : Int} {s t : ByteArray} {x y z : Int} {l m : List S93} {q : List S48} (hl : l.length ≤ 1048576) (h : paidB at_ s t x y z l m q = true) : Ev (fun k => spec_l9Put.f k at_ s t x y z l m q) (strOfNums (paidL at_ s t x y z l m q)) := by
 obtain ⟨h1, h2, h3, h4, h5, h6, h7⟩ := (paidB_iff at_ s t x y z l m q).1 h
 have hd := dec_small (n := at_) (by omega)
 have hh := headS_size h2
 obtain ⟨r1, k1, b1, s1⟩ := specPeaks_ev l hl (range_pk h3)
 obtain ⟨r2, k2, b2, s2⟩ := specPeaks_ev m (by omega) (List.all_eq_true.1 h6)
 obtain ⟨r3, k3, b3, s3⟩ := specSides_ev q (by omega) (List.all_eq_true.1 h7)
 unfold spec_l9Put.f
 refine Ev.at_ (Ev.bind (specDec (n := at_) (by omega) (by omega)) (Ev.ifp (by omega) (Ev.bind (specHeadS_ev h2) (Ev.ifp (by rw [ByteArray.size_append, one_size]; omega) (Ev.ifp (by simp only [ByteArray.size_append, one_size]; omega) (Ev.bind k1 (Ev.ifp (by simp only [ByteArray.size_append, one_size, six_size]; omega) (Ev.ifp (by simp only [ByteArray.size_append, one_size, six_size]; omega) (Ev.bind k2 (Ev.ifp (by simp only [ByteArray.size_append, one_size, six_size]; omega) (Ev.ifp (by simp only [ByteArray.size_append, one_size, six_size]; omega) (Ev.bind k3 (Ev.ifp (by simp only [ByteArray.size_append, one_size, six_size]; omega) (Ev.ifp (by simp only [ByteArray.size_append, one_size, six_size]; omega) (Ev.now _))))))))))))))) ?_
 apply str_of
 simp only [bytes_append, decS_bytes, b1, b2, b3, List.append_assoc]
 rfl
theorem specOk_l1 (at_ : Int) (s t : ByteArray) (x y z : Int) (l m : List S93) (q : List S48) (hm : m.length ≤ 1048576) (hs : ∀ p ∈ m, p.f0.size ≤ 1048576) {r2 : Bool}
  (h2 : Ev (fun k => (spec_l1In.f at_ 0 19).bind fun t160 => (if t160 = true then ((spec_l3Ok.f k s t x y z).bind fun t161 => (if t161 = true then ((spec_l5Ok.f k l).bind fun t162 => (if t162 = true then (if (q.length : Int) ≤ 8 then (some (decide ((m.length : Int) ≤ 8))) else (some false)) else (some false))) else (some false))) else (some false))) r2) :
  ∀ (d i : Nat), i + d = m.length → Ev (fun k => spec_l9Ok.l1 k (i : Int) at_ s t x y z l m q) ((m.drop i).all pkS && r2)
 | 0, i, h => by
  refine Ev.step (fun k => ?_) (Ev.at_ h2 (by rw [List.drop_eq_nil_of_le (by omega)]; rfl))
  simp only [spec_l9Ok.l1]
  rw [if_neg (by omega)]
 | d + 1, i, h => by
  have hi : i < m.length := by omega
  have hw : wrap64 ((i : Int) + 1) = ((i + 1 : Nat) : Int) := by rw [w64 (by omega) (by omega)]; omega
  have hz := hs _ (List.getElem_mem hi)
  have hp : Ev (fun k => spec_l5PeakOk.f k m[i].f0 m[i].f1 m[i].f2) (pkS m[i]) := specPeak_ev _ _ _ (by clear hw; omega)
  rw [List.drop_eq_getElem_cons hi, List.all_cons]
  refine Ev.step (f := fun k => (spec_l5PeakOk.f k m[i].f0 m[i].f1 m[i].f2).bind fun t159 => (if t159 = true then (spec_l9Ok.l1 k ((i + 1 : Nat) : Int) at_ s t x y z l m q) else (some false))) (fun k => ?_) (Ev.bind hp ?_)
  ·simp only [spec_l9Ok.l1]
   rw [rdIP m i hi, hw]
   clear hw
   rw [if_pos (by omega), if_pos (by omega)]
  ·by_cases c : pkS m[i] = true
   ·rw [c]; exact Ev.ifp rfl (specOk_l1 at_ s t x y z l m q hm hs h2 d (i + 1) (by clear hw; omega))
   ·rw [Bool.eq_false_iff.2 c]; exact Ev.ifn (by simp) (Ev.now _)
theorem specOk_l0 (at_ : Int) (s t : ByteArray) (x y z : Int) (l m : List S93) (q : List S48) (hq : q.length ≤ 1048576) (hs : ∀ p ∈ q, p.f0.size ≤ 1048576) {r1 : Bool}
  (h1 : Ev (fun k => spec_l9Ok.l1 k 0 at_ s t x y z l m q) r1) : ∀ (d i : Nat), i + d = q.length → Ev (fun k => spec_l9Ok.l0 k (i : Int) at_ s t x y z l m q) ((q.drop i).all sideB && r1)
 | 0, i, h => by
  refine Ev.step (fun k => ?_) (Ev.at_ h1 (by rw [List.drop_eq_nil_of_le (by omega)]; rfl))
  simp only [spec_l9Ok.l0]
  rw [if_neg (by omega)]
 | d + 1, i, h => by
  have hi : i < q.length := by omega
  have hw : wrap64 ((i : Int) + 1) = ((i + 1 : Nat) : Int) := by rw [w64 (by omega) (by omega)]; omega
  have hz := hs _ (List.getElem_mem hi)
  have hp : Ev (fun k => spec_l1IsSum.f k q[i].f0) (sideB q[i]) := specIsSum_ev _ (by clear hw; omega)
  rw [List.drop_eq_getElem_cons hi, List.all_cons]
  refine Ev.step (f := fun k => (spec_l1IsSum.f k q[i].f0).bind fun t157 => (if t157 = true then (spec_l9Ok.l0 k ((i + 1 : Nat) : Int) at_ s t x y z l m q) else (some false))) (fun k => ?_) (Ev.bind hp ?_)
  ·simp only [spec_l9Ok.l0]
   rw [rdID q i hi, hw]
   clear hw
   rw [if_pos (by omega), if_pos (by omega)]
  ·by_cases c : sideB q[i] = true
   ·rw [c]; exact Ev.ifp rfl (specOk_l0 at_ s t x y z l m q hq hs h1 d (i + 1) (by clear hw; omega))
   ·rw [Bool.eq_false_iff.2 c]; exact Ev.ifn (by simp) (Ev.now _)
theorem specPaidOk_ev (at_ : Int) (s t : ByteArray) (x y z : Int) (l m : List S93) (q : List S48) (hst : s.size ≤ 1048576 ∧ t.size ≤ 1048576) (hl : l.length ≤ 1048576 ∧ ∀ p ∈ l, p.f0.size ≤ 1048576) (hm : m.length ≤ 1048576 ∧ ∀ p ∈ m, p.f0.size ≤ 1048576) (hq : q.length ≤ 1048576 ∧ ∀ p ∈ q, p.f0.size ≤ 1048576) :
  Ev (fun k => spec_l9Ok.f k at_ s t x y z l m q) (paidB at_ s t x y z l m q) := by
 have e2 : Ev (fun k => (spec_l1In.f at_ 0 19).bind fun t160 => (if t160 = true then ((spec_l3Ok.f k s t x y z).bind fun t161 => (if t161 = true then ((spec_l5Ok.f k l).bind fun t162 => (if t162 = true then (if (q.length : Int) ≤ 8 then (some (decide ((m.length : Int) ≤ 8))) else (some false)) else (some false))) else (some false))) else (some false)))
   (decide (0 ≤ at_ ∧ at_ ≤ 19) && (headB s t x y z && (rangeB l && (decide (q.length ≤ 8) && decide (m.length ≤ 8))))) := by
  refine Ev.b (specIn _ _ _) ?_
  by_cases c1 : 0 ≤ at_ ∧ at_ ≤ 19
  ·rw [decide_eq_true c1]
   refine Ev.ifp rfl (Ev.bind (specOk_ev s t x y z (by omega) (by omega)) ?_)
   by_cases c2 : headB s t x y z = true
   ·rw [c2]
    refine Ev.ifp rfl (Ev.bind (specRange_ev l hl.1 hl.2) ?_)
    by_cases c3 : rangeB l = true
    ·rw [c3]
     refine Ev.ifp rfl ?_
     by_cases c4 : q.length ≤ 8
     ·rw [decide_eq_true c4]
      exact Ev.ifp (by omega) (Ev.at_ (Ev.now _) (decide_eq_decide.2 (by omega)))
     ·rw [decide_eq_false c4]
      exact Ev.ifn (by omega) (Ev.now _)
    ·rw [Bool.eq_false_iff.2 c3]; exact Ev.ifn (by simp) (Ev.now _)
   ·rw [Bool.eq_false_iff.2 c2]; exact Ev.ifn (by simp) (Ev.now _)
  ·rw [decide_eq_false c1]; exact Ev.ifn (by simp) (Ev.now _)
 have e1 := specOk_l1 at_ s t x y z l m q hm.1 hm.2 e2 m.length 0 (by omega)
 have e0 := specOk_l0 at_ s t x y z l m q hq.1 hq.2 e1 q.length 0 (by omega)
 unfold spec_l9Ok.f
 refine Ev.at_ e0 ?_
 rw [List.drop_zero, List.drop_zero]
 unfold paidB
 generalize decide (0 ≤ at_ ∧ at_ ≤ 19) = a
 generalize headB s t x y z = b
 generalize rangeB l = c
 generalize decide (m.length ≤ 8) = d
 generalize decide (q.length ≤ 8) = e
 generalize m.all pkS = f
 generalize q.all sideB = g
 revert a b c d e f g
 decide
theorem specPaidPut_ev (at_ : Int) (s t : ByteArray) (x y z : Int) (l m : List S93) (q : List S48) (hst : s.size ≤ 1048576 ∧ t.size ≤ 1048576) (hl : l.length ≤ 1048576 ∧ ∀ p ∈ l, p.f0.size ≤ 1048576) (hm : m.length ≤ 1048576 ∧ ∀ p ∈ m, p.f0.size ≤ 1048576) (hq : q.length ≤ 1048576 ∧ ∀ p ∈ q, p.f0.size ≤ 1048576) :
  Ev (fun k => spec_PaidPut.f k at_ s t x y z l m q) (paidPut at_ s t x y z l m q) := by
 unfold spec_PaidPut.f
 refine Ev.bind (specPaidOk_ev at_ s t x y z l m q hst hl hm hq) ?_
 by_cases h : paidB at_ s t x y z l m q = true
 ·rw [paidPut_pos h]; exact Ev.ifp h (Ev.bind (specPaidL_ev hl.1 h) (Ev.now _))
 ·rw [paidPut_neg h]; exact Ev.ifn h (Ev.now _)
theorem implPeaks_loop (l : List S93) (hl : l.length ≤ 1048576) (hp : ∀ p ∈ l, pkS p = true) : ∀ (d i : Nat) (x : ByteArray), i + d = l.length → x.size ≤ 1000000 + 1000 * i →
  ∃ r, Ev (fun k => impl_peaksPut.l0 k x l (l.length : Int) (i : Int)) r ∧ bytesOf r = bytesOf x ++ (peaksL (l.drop i) ++ [10]) ∧ r.size ≤ 1000001 + 1000 * l.length
 | 0, i, x, h, hx => by
  refine ⟨x ++ (⟨#[10]⟩ : ByteArray), Ev.step (f := fun _ => some (x ++ (⟨#[10]⟩ : ByteArray))) (fun k => ?_) (Ev.now _), ?_, by rw [ByteArray.size_append, one_size]; omega⟩
  ·simp only [impl_peaksPut.l0]
   rw [if_neg (by omega), if_pos (by omega)]
  ·rw [List.drop_eq_nil_of_le (by omega), peaksL, bytes_append]; rfl
 | d + 1, i, x, h, hx => by
  have hi : i < l.length := by omega
  have hf := pkS_facts (hp _ (List.getElem_mem hi))
  have e1 := dec_small (n := l[i].f1) (by omega)
  have e2 := dec_small (n := l[i].f2) (by omega)
  obtain ⟨r, hr, hb, hs⟩ := implPeaks_loop l hl hp d (i + 1) (x ++ ((((((⟨#[32]⟩ : ByteArray) ++ l[i].f0) ++ (⟨#[58]⟩ : ByteArray)) ++ decS l[i].f1) ++ (⟨#[58]⟩ : ByteArray)) ++ decS l[i].f2)) (by omega) (by simp only [ByteArray.size_append, one_size]; omega)
  refine ⟨r, Ev.step (f := fun k => impl_peaksPut.l0 k (x ++ ((((((⟨#[32]⟩ : ByteArray) ++ l[i].f0) ++ (⟨#[58]⟩ : ByteArray)) ++ decS l[i].f1) ++ (⟨#[58]⟩ : ByteArray)) ++ decS l[i].f2)) l (l.length : Int) ((i + 1 : Nat) : Int)) (fun k => ?_) hr, ?_, hs⟩
  ·simp only [impl_peaksPut.l0]
   rw [rdIP l i hi, if_pos (by omega), if_pos (by omega), if_pos (by omega), if_pos (by omega), if_pos (by rw [ByteArray.size_append, one_size]; omega), itoa_ev (n := l[i].f1) (by omega) (by omega), Option.bind_some, if_pos (by simp only [ByteArray.size_append, one_size]; omega), if_pos (by simp only [ByteArray.size_append, one_size]; omega), itoa_ev (n := l[i].f2) (by omega) (by omega), Option.bind_some, if_pos (by simp only [ByteArray.size_append, one_size]; omega), if_pos (by simp only [ByteArray.size_append, one_size]; omega), w64 (by omega) (by omega)]
   rfl
  ·rw [hb, List.drop_eq_getElem_cons hi, peaksL]
   simp only [bytes_append, decS_bytes, List.append_assoc, List.cons_append]
   rfl
theorem implPeaks_ev (w : ByteArray) (hw : w.size ≤ 100) (l : List S93) (hl : l.length ≤ 1048576) (hp : ∀ p ∈ l, pkS p = true) : ∃ r, Ev (fun k => impl_peaksPut.f k w l) r ∧ bytesOf r = bytesOf w ++ (peaksL l ++ [10]) ∧ r.size ≤ 1000001 + 1000 * l.length := by
 obtain ⟨r, hr, hb, hs⟩ := implPeaks_loop l hl hp l.length 0 w (by omega) (by omega)
 exact ⟨r, hr, hb, hs⟩
theorem implSides_loop (l : List S48) (hl : l.length ≤ 8) (hp : ∀ p ∈ l, sideB p = true) : ∀ (d i : Nat) (x : ByteArray), i + d = l.length → x.size ≤ 10000000000 + 1000 * i →
  ∃ r, Ev (fun k => impl_PaidPut.l0 k x l (l.length : Int) (i : Int)) r ∧ bytesOf r = bytesOf x ++ (sidesL (l.drop i) ++ [10])
 | 0, i, x, h, hx => by
  refine ⟨x ++ (⟨#[10]⟩ : ByteArray), Ev.step (f := fun _ => some (x ++ (⟨#[10]⟩ : ByteArray))) (fun k => ?_) (Ev.now _), ?_⟩
  ·simp only [impl_PaidPut.l0]
   rw [if_neg (by omega), if_pos (by omega)]
  ·rw [List.drop_eq_nil_of_le (by omega), sidesL, bytes_append]; rfl
 | d + 1, i, x, h, hx => by
  have hi : i < l.length := by omega
  have hf : l[i].f0.size = 16 := by
   have := ((sumB_iff _).1 (hp _ (List.getElem_mem hi))).2
   rw [bytes_len] at this; exact this
  by_cases c : l[i].f1 = true
  ·obtain ⟨r, hr, hb⟩ := implSides_loop l hl hp d (i + 1) (x ++ ((⟨#[32, 108]⟩ : ByteArray) ++ l[i].f0)) (by omega) (by simp only [ByteArray.size_append, two_size]; omega)
   refine ⟨r, Ev.step (f := fun k => impl_PaidPut.l0 k (x ++ ((⟨#[32, 108]⟩ : ByteArray) ++ l[i].f0)) l (l.length : Int) ((i + 1 : Nat) : Int)) (fun k => ?_) hr, ?_⟩
   ·simp only [impl_PaidPut.l0]
    rw [rdID l i hi, if_pos (by omega), if_pos (by omega), if_pos (by omega), if_pos c, if_pos (by omega), if_pos (by simp only [ByteArray.size_append, two_size]; omega), w64 (by omega) (by omega)]
    rfl
   ·rw [hb, List.drop_eq_getElem_cons hi, sidesL, if_pos c]
    simp only [bytes_append, List.append_assoc, List.cons_append]
    rfl
  ·obtain ⟨r, hr, hb⟩ := implSides_loop l hl hp d (i + 1) (x ++ ((⟨#[32, 114]⟩ : ByteArray) ++ l[i].f0)) (by omega) (by simp only [ByteArray.size_append, two_size]; omega)
   refine ⟨r, Ev.step (f := fun k => impl_PaidPut.l0 k (x ++ ((⟨#[32, 114]⟩ : ByteArray) ++ l[i].f0)) l (l.length : Int) ((i + 1 : Nat) : Int)) (fun k => ?_) hr, ?_⟩
   ·simp only [impl_PaidPut.l0]
    rw [rdID l i hi, if_pos (by omega), if_pos (by omega), if_pos (by omega), if_neg c, if_pos (by omega), if_pos (by simp only [ByteArray.size_append, two_size]; omega), w64 (by omega) (by omega)]
    rfl
   ·rw [hb, List.drop_eq_getElem_cons hi, sidesL, if_neg c]
    simp only [bytes_append, List.append_assoc, List.cons_append]
    rfl
theorem implOk_l1 (q : List S48) (hq : q.length ≤ 1048576) (hs : ∀ p ∈ q, p.f0.size ≤ 1048576) : ∀ (d i : Nat), i + d = q.length → Ev (fun k => impl_paidOk.l1 k q (q.length : Int) (i : Int)) ((q.drop i).all sideB)
 | 0, i, h => by
  refine Ev.step (f := fun _ => some true) (fun k => ?_) (Ev.at_ (Ev.now _) (by rw [List.drop_eq_nil_of_le (by omega)]; rfl))
  simp only [impl_paidOk.l1]
  rw [if_neg (by omega)]
 | d + 1, i, h => by
  have hi : i < q.length := by omega
  have hw : wrap64 ((i : Int) + 1) = ((i + 1 : Nat) : Int) := by rw [w64 (by omega) (by omega)]; omega
  have hz := hs _ (List.getElem_mem hi)
  have hp : Ev (fun k => impl_isSum.f k q[i].f0) (sideB q[i]) := implIsSum_ev _ (by clear hw; omega)
  rw [List.drop_eq_getElem_cons hi, List.all_cons]
  refine Ev.step (f := fun k => (impl_isSum.f k q[i].f0).bind fun t272 => (if t272 = true then (impl_paidOk.l1 k q (q.length : Int) ((i + 1 : Nat) : Int)) else (some false))) (fun k => ?_) (Ev.bind hp ?_)
  ·simp only [impl_paidOk.l1]
   rw [rdID q i hi, hw]
   clear hw
   rw [if_pos (by omega), if_pos (by omega), if_pos (by omega)]
  ·by_cases c : sideB q[i] = true
   ·rw [c]; exact Ev.ifp rfl (implOk_l1 q hq hs d (i + 1) (by clear hw; omega))
   ·rw [Bool.eq_false_iff.2 c]; exact Ev.ifn (by simp) (Ev.now _)
theorem implOk_l0 (at_ : Int) (s t : ByteArray) (x y z : Int) (l m : List S93) (q : List S48) (hm : m.length ≤ 1048576) (hs : ∀ p ∈ m, p.f0.size ≤ 1048576) {r1 : Bool}
  (h1 : Ev (fun k => impl_paidOk.l1 k q (q.length : Int) 0) r1) : ∀ (d i : Nat), i + d = m.length → Ev (fun k => impl_paidOk.l0 k m (m.length : Int) (i : Int) at_ s t x y z l m q) ((m.drop i).all pkS && r1)
 | 0, i, h => by
  refine Ev.step (fun k => ?_) (Ev.at_ h1 (by rw [List.drop_eq_nil_of_le (by omega)]; rfl))
  simp only [impl_paidOk.l0]
  rw [if_neg (by omega)]
 | d + 1, i, h => by
  have hi : i < m.length := by omega
  have hw : wrap64 ((i : Int) + 1) = ((i + 1 : Nat) : Int) := by rw [w64 (by omega) (by omega)]; omega
  have hz := hs _ (List.getElem_mem hi)
  have hp : Ev (fun k => impl_peakOk.f k m[i].f0 m[i].f1 m[i].f2) (pkS m[i]) := implPeak_ev _ _ _ (by clear hw; omega)
  rw [List.drop_eq_getElem_cons hi, List.all_cons]
  refine Ev.step (f := fun k => (impl_peakOk.f k m[i].f0 m[i].f1 m[i].f2).bind fun t269 => (if t269 = true then (impl_paidOk.l0 k m (m.length : Int) ((i + 1 : Nat) : Int) at_ s t x y z l m q) else (some false))) (fun k => ?_) (Ev.bind hp ?_)
  ·simp only [impl_paidOk.l0]
   rw [rdIP m i hi, hw]
   clear hw
   rw [if_pos (by omega), if_pos (by omega), if_pos (by omega)]
  ·by_cases c : pkS m[i] = true
   ·rw [c]; exact Ev.ifp rfl (implOk_l0 at_ s t x y z l m q hm hs h1 d (i + 1) (by clear hw; omega))
   ·rw [Bool.eq_false_iff.2 c]; exact Ev.ifn (by simp) (Ev.now _)
theorem implPaidOk_ev (at_ : Int) (s t : ByteArray) (x y z : Int) (l m : List S93) (q : List S48) (hst : s.size ≤ 1048576 ∧ t.size ≤ 1048576) (hl : l.length ≤ 1048576 ∧ ∀ p ∈ l, p.f0.size ≤ 1048576) (hm : m.length ≤ 1048576 ∧ ∀ p ∈ m, p.f0.size ≤ 1048576) (hq : q.length ≤ 1048576 ∧ ∀ p ∈ q, p.f0.size ≤ 1048576) :
  Ev (fun k => impl_paidOk.f k at_ s t x y z l m q) (paidB at_ s t x y z l m q) := by
 have e1 := implOk_l1 q hq.1 hq.2 q.length 0 (by omega)
 have e0 := implOk_l0 at_ s t x y z l m q hm.1 hm.2 e1 m.length 0 (by omega)
 rw [List.drop_zero, List.drop_zero] at e0
 have bad : Ev (fun k => impl_paidOk.j0 k true at_ s t x y z l m q) false := by
  refine Ev.step (f := fun _ => some false) (fun k => ?_) (Ev.now _)
  simp only [impl_paidOk.j0]; rw [if_pos trivial]
 have good : Ev (fun k => impl_paidOk.j0 k false at_ s t x y z l m q) (m.all pkS && q.all sideB) := by
  refine Ev.step (f := fun k => impl_paidOk.l0 k m (m.length : Int) 0 at_ s t x y z l m q) (fun k => ?_) e0
  simp only [impl_paidOk.j0]; rw [if_neg (by simp)]
 unfold impl_paidOk.f paidB
 refine Ev.b (implIn _ _ _) ?_
 by_cases c1 : 0 ≤ at_ ∧ at_ ≤ 19
 ·rw [decide_eq_true c1]
  refine Ev.ifp rfl (Ev.bind (implOk_ev s t x y z (by omega) (by omega)) ?_)
  by_cases c2 : headB s t x y z = true
  ·rw [c2]
   refine Ev.ifp rfl (Ev.bind (implRange_ev l hl.1 hl.2) ?_)
   by_cases c3 : rangeB l = true
   ·rw [c3]
    refine Ev.ifp rfl ?_
    by_cases c4 : m.length ≤ 8
    ·rw [decide_eq_true c4]
     refine Ev.ifn (by omega) ?_
     by_cases c5 : q.length ≤ 8
     ·rw [decide_eq_true c5, decide_eq_false (show ¬ (q.length : Int) > 8 by omega)]
      exact good
     ·rw [decide_eq_false c5, decide_eq_true (show (q.length : Int) > 8 by omega)]
      exact bad
    ·rw [decide_eq_false c4]
     exact Ev.ifp (by omega) bad
   ·rw [Bool.eq_false_iff.2 c3]; exact Ev.ifn (by simp) bad
  ·rw [Bool.eq_false_iff.2 c2]; exact Ev.ifn (by simp) bad
 ·rw [decide_eq_false c1]; exact Ev.ifn (by simp) bad
theorem implPaidPut_ev (at_ : Int) (s t : ByteArray) (x y z : Int) (l m : List S93) (q : List S48) (hst : s.size ≤ 1048576 ∧ t.size ≤ 1048576) (hl : l.length ≤ 1048576 ∧ ∀ p ∈ l, p.f0.size ≤ 1048576) (hm : m.length ≤ 1048576 ∧ ∀ p ∈ m, p.f0.size ≤ 1048576) (hq : q.length ≤ 1048576 ∧ ∀ p ∈ q, p.f0.size ≤ 1048576) :
  Ev (fun k => impl_PaidPut.f k at_ s t x y z l m q) (paidPut at_ s t x y z l m q) := by
 unfold impl_PaidPut.f
 refine Ev.bind (implPaidOk_ev at_ s t x y z l m q hst hl hm hq) ?_
 by_cases h : paidB at_ s t x y z l m q = true
 ·rw [paidPut_pos h]
  obtain ⟨h1, h2, h3, h4, h5, h6, h7⟩ := (paidB_iff at_ s t x y z l m q).1 h
  have hd := dec_small (n := at_) (by omega)
  have hh := headS_size h2
  have hp := implHeadPut_ev s t x y z (by omega) (by omega)
  rw [headPut_pos h2] at hp
  obtain ⟨r1, k1, b1, s1⟩ := implPeaks_ev (⟨#[112, 101, 97, 107, 115]⟩ : ByteArray) (by rw [five_size]; omega) l hl.1 (range_pk h3)
  obtain ⟨r2, k2, b2, s2⟩ := implPeaks_ev (⟨#[115, 116, 101, 112, 115]⟩ : ByteArray) (by rw [five_size]; omega) m (by omega) (List.all_eq_true.1 h6)
  obtain ⟨r3, k3, b3⟩ := implSides_loop q h5 (List.all_eq_true.1 h7) q.length 0 ((((((decS at_ ++ (⟨#[32]⟩ : ByteArray)) ++ headS s t x y z) ++ (⟨#[10]⟩ : ByteArray)) ++ r1) ++ r2) ++ (⟨#[115, 105, 100, 101, 115]⟩ : ByteArray)) (by omega) (by simp only [ByteArray.size_append, one_size, five_size]; omega)
  refine Ev.ifp h (Ev.b (itoa_ev (n := at_) (by omega) (by omega)) (Ev.ifp (by omega) (Ev.bind hp (Ev.ifp (by rw [ByteArray.size_append, one_size]; omega) (Ev.ifp (by simp only [ByteArray.size_append, one_size]; omega) (Ev.bind k1 (Ev.ifp (by simp only [ByteArray.size_append, one_size]; omega) (Ev.bind k2 (Ev.ifp (by simp only [ByteArray.size_append, one_size]; omega) (Ev.ifp (by simp only [ByteArray.size_append, one_size]; omega) (Ev.at_ k3 ?_)))))))))))
  apply str_of
  rw [b3, List.drop_zero]
  simp only [bytes_append, decS_bytes, b1, b2, List.append_assoc]
  rfl
 ·rw [paidPut_neg h]; exact Ev.ifn h (Ev.now _)
theorem cutN_zero (b : Int) (xs : List Int) : cutN b xs 0 = [xs] := by cases xs <;> rfl
theorem dec_ne {n : Nat} {c : Int} (hc : c < 48 ∨ 57 < c) : ∀ x ∈ decI n, x ≠ c := fun x hx => by have := decI_dig n x hx; omega
theorem sum_ne {s : ByteArray} {c : Int} (h : sumB (bytesOf s) = true) (hc : c < 48 ∨ (57 < c ∧ c < 97)) : ∀ x ∈ bytesOf s, x ≠ c := fun x hx => by
 have := (hexd_iff x).1 (((sumB_iff _).1 h).1 x hx); omega
def pkL (p : S93) : List Int := bytesOf p.f0 ++ 58 :: (decI p.f1.toNat ++ 58 :: decI p.f2.toNat)
def sdL (p : S48) : List Int := (if p.f1 = true then 108 else 114) :: bytesOf p.f0
theorem peaksL_cons (p : S93) (r : List S93) : peaksL (p :: r) = 32 :: (pkL p ++ peaksL r) := by
 rw [peaksL, pkL]; simp only [List.append_assoc, List.cons_append]
theorem sidesL_cons (p : S48) (r : List S48) : sidesL (p :: r) = 32 :: (sdL p ++ sidesL r) := by
 rw [sidesL, sdL]; simp only [List.cons_append]
theorem pkS_sum {p : S93} (h : pkS p = true) : sumB (bytesOf p.f0) = true := by
 unfold pkS pkB at h
 rw [Bool.and_eq_true] at h
 exact h.1
theorem pkL_nn {p : S93} : ∀ x ∈ pkL p, 0 ≤ x ∧ x ≤ 255 := by
 intro x hx
 unfold pkL at hx
 simp only [List.mem_append, List.mem_cons] at hx
 rcases hx with h | h | h | h | h
 ·exact bytes_nn _ x h
 ·omega
 ·have := decI_dig _ x h; omega
 ·omega
 ·have := decI_dig _ x h; omega
theorem pkL_ne {p : S93} (h : pkS p = true) {c : Int} (hc : c < 48) : ∀ x ∈ pkL p, x ≠ c := by
 intro x hx
 unfold pkL at hx
 simp only [List.mem_append, List.mem_cons] at hx
 rcases hx with h1 | h1 | h1 | h1 | h1
 ·exact sum_ne (pkS_sum h) (.inl hc) x h1
 ·omega
 ·exact dec_ne (.inl hc) x h1
 ·omega
 ·exact dec_ne (.inl hc) x h1
theorem sdL_nn {p : S48} : ∀ x ∈ sdL p, 0 ≤ x ∧ x ≤ 255 := by
 intro x hx
 unfold sdL at hx
 rcases List.mem_cons.1 hx with h | h
 ·split at h <;> omega
 ·exact bytes_nn _ x h
theorem sdL_ne {p : S48} (h : sideB p = true) {c : Int} (hc : c < 48) : ∀ x ∈ sdL p, x ≠ c := by
 intro x hx
 unfold sdL at hx
 rcases List.mem_cons.1 hx with h1 | h1
 ·split at h1 <;> omega
 ·exact sum_ne h (.inl hc) x h1
theorem peaksL_ne {c : Int} (hc : c < 48) (h32 : c ≠ 32) : ∀ l : List S93, (∀ p ∈ l, pkS p = true) → ∀ x ∈ peaksL l, x ≠ c
 | [], _, x, hx => absurd hx List.not_mem_nil
 | p :: r, h, x, hx => by
  rw [peaksL_cons] at hx
  rcases List.mem_cons.1 hx with h1 | h1
  ·omega
  ·rcases List.mem_append.1 h1 with h1 | h1
   ·exact pkL_ne (h p List.mem_cons_self) hc x h1
   ·exact peaksL_ne hc h32 r (fun q hq => h q (List.mem_cons_of_mem _ hq)) x h1
theorem sidesL_ne {c : Int} (hc : c < 48) (h32 : c ≠ 32) : ∀ l : List S48, (∀ p ∈ l, sideB p = true) → ∀ x ∈ sidesL l, x ≠ c
 | [], _, x, hx => absurd hx List.not_mem_nil
 | p :: r, h, x, hx => by
  rw [sidesL_cons] at hx
  rcases List.mem_cons.1 hx with h1 | h1
  ·omega
  ·rcases List.mem_append.1 h1 with h1 | h1
   ·exact sdL_ne (h p List.mem_cons_self) hc x h1
   ·exact sidesL_ne hc h32 r (fun q hq => h q (List.mem_cons_of_mem _ hq)) x h1
theorem peaksL_len : ∀ l : List S93, l.length ≤ (peaksL l).length
 | [] => Nat.le_refl _
 | p :: r => by
  have := peaksL_len r
  rw [peaksL_cons, List.length_cons, List.length_cons, List.length_append]; omega
theorem sidesL_len : ∀ l : List S48, l.length ≤ (sidesL l).length
 | [] => Nat.le_refl _
 | p :: r => by
  have := sidesL_len r
  rw [sidesL_cons, List.length_cons, List.length_cons, List.length_append]; omega
theorem peaksL_nn : ∀ l : List S93, ∀ x ∈ peaksL l, 0 ≤ x ∧ x ≤ 255
 | [], x, hx => absurd hx List.not_mem_nil
 | p :: r, x, hx => by
  rw [peaksL_cons] at hx
  rcases List.mem_cons.1 hx with h1 | h1
  ·omega
  ·rcases List.mem_append.1 h1 with h1 | h1
   ·exact pkL_nn x h1
   ·exact peaksL_nn r x h1
theorem sidesL_nn : ∀ l : List S48, ∀ x ∈ sidesL l, 0 ≤ x ∧ x ≤ 255
 | [], x, hx => absurd hx List.not_mem_nil
 | p :: r, x, hx => by
  rw [sidesL_cons] at hx
  rcases List.mem_cons.1 hx with h1 | h1
  ·omega
  ·rcases List.mem_append.1 h1 with h1 | h1
   ·exact sdL_nn x h1
   ·exact sidesL_nn r x h1
theorem cut_peaks : ∀ (l : List S93) (w : List Int) (m : Nat), (∀ x ∈ w, x ≠ 32) → (∀ p ∈ l, pkS p = true) → l.length ≤ m → cutN 32 (w ++ peaksL l) m = w :: l.map pkL
 | [], w, m, hw, _, _ => by rw [peaksL, List.append_nil, cutN_none 32 w m hw]; rfl
 | p :: r, w, m, hw, hp, hm => by
  rw [List.length_cons] at hm
  obtain ⟨n, rfl⟩ : ∃ n, m = n + 1 := ⟨m - 1, by omega⟩
  rw [peaksL_cons, cutN_seg 32 w _ n hw, cut_peaks r (pkL p) n (pkL_ne (hp p List.mem_cons_self) (by omega)) (fun q hq => hp q (List.mem_cons_of_mem _ hq)) (by omega)]; rfl
theorem cut_sides : ∀ (l : List S48) (w : List Int) (m : Nat), (∀ x ∈ w, x ≠ 32) → (∀ p ∈ l, sideB p = true) → l.length ≤ m → cutN 32 (w ++ sidesL l) m = w :: l.map sdL
 | [], w, m, hw, _, _ => by rw [sidesL, List.append_nil, cutN_none 32 w m hw]; rfl
 | p :: r, w, m, hw, hp, hm => by
  rw [List.length_cons] at hm
  obtain ⟨n, rfl⟩ : ∃ n, m = n + 1 := ⟨m - 1, by omega⟩
  rw [sidesL_cons, cutN_seg 32 w _ n hw, cut_sides r (sdL p) n (sdL_ne (hp p List.mem_cons_self) (by omega)) (fun q hq => hp q (List.mem_cons_of_mem _ hq)) (by omega)]; rfl
theorem cut_pk {p : S93} (h : pkS p = true) (m : Nat) (hm : 2 ≤ m) : cutN 58 (pkL p) m = [bytesOf p.f0, decI p.f1.toNat, decI p.f2.toNat] := by
 obtain ⟨n, rfl⟩ : ∃ n, m = n + 1 + 1 := ⟨m - 2, by omega⟩
 rw [pkL, cutN_seg 58 _ _ _ (sum_ne (pkS_sum h) (.inr (by omega))), cutN_seg 58 _ _ _ (dec_ne (.inr (by omega))), cutN_none 58 _ _ (dec_ne (.inr (by omega)))]
abbrev pkT (p : S93) : ByteArray := strOfNums (pkL p)
abbrev sdT (p : S48) : ByteArray := strOfNums (sdL p)
theorem pkT_bytes (p : S93) : bytesOf (pkT p) = pkL p := bytes_str _ pkL_nn
theorem sdT_bytes (p : S48) : bytesOf (sdT p) = sdL p := bytes_str _ sdL_nn
theorem cutS_pk {p : S93} (h : pkS p = true) (m : Nat) (hm : 2 ≤ m) : cutS 58 (pkT p) m = [p.f0, decS p.f1, decS p.f2] := by
 unfold cutS
 rw [pkT_bytes, cut_pk h m hm, List.map_cons, List.map_cons, List.map_cons, List.map_nil, str_bytes]; rfl
theorem pkS_num {p : S93} (h : pkS p = true) : numS (decS p.f1) = p.f1 ∧ numS (decS p.f2) = p.f2 := by
 have := pkS_facts h
 exact ⟨numS_decS (by omega) (by omega), numS_decS (by omega) (by omega)⟩
theorem sdT_size {p : S48} (h : sideB p = true) : (sdT p).size = 17 := by
 have := ((sumB_iff _).1 h).2
 rw [← bytes_len, sdT_bytes, sdL, List.length_cons, this]
theorem sdT_tail (p : S48) : (sdT p).extract 1 (sdT p).size = p.f0 := bytes_inj (by
 rw [bytes_extract, List.take_of_length_le (by rw [bytes_len]; exact Nat.le_refl _), sdT_bytes, sdL, List.drop_succ_cons, List.drop_zero])
theorem sdT_head (p : S48) : bt (sdT p) 0 = if p.f1 = true then 108 else 114 := by
 rw [bt_get, sdT_bytes, sdL]; rfl
def line0 (at_ : Int) (s t : ByteArray) (x y z : Int) : List Int := decI at_.toNat ++ 32 :: bytesOf (headS s t x y z)
def line1 (l : List S93) : List Int := [112, 101, 97, 107, 115] ++ peaksL l
def line2 (l : List S93) : List Int := [115, 116, 101, 112, 115] ++ peaksL l
def line3 (l : List S48) : List Int := [115, 105, 100, 101, 115] ++ sidesL l
theorem paidL_lines (at_ : Int) (s t : ByteArray) (x y z : Int) (l m : List S93) (q : List S48) : paidL at_ s t x y z l m q = line0 at_ s t x y z ++ 10 :: (line1 l ++ 10 :: (line2 m ++ 10 :: (line3 q ++ 10 :: []))) := by
 unfold paidL line0 line1 line2 line3
 simp only [List.append_assoc, List.cons_append, List.nil_append]
theorem headS_bytes (s t : ByteArray) (x y z : Int) : bytesOf (headS s t x y z) = bytesOf s ++ 32 :: (bytesOf t ++ 32 :: (decI x.toNat ++ 32 :: (decI y.toNat ++ 32 :: decI z.toNat))) := by
 unfold headS
 simp only [bytes_append, decS_bytes, List.append_assoc]
 rfl
theorem headS_ne {s t : ByteArray} {x y z c : Int} (h : headB s t x y z = true) (hc : c < 48) (h32 : c ≠ 32) : ∀ b ∈ bytesOf (headS s t x y z), b ≠ c := by
 have h1 := (headB_iff s t x y z).1 h
 intro b hb
 rw [headS_bytes] at hb
 simp only [List.mem_append, List.mem_cons] at hb
 rcases hb with hb | hb | hb | hb | hb | hb | hb | hb | hb
 ·exact sum_ne h1.1 (.inl hc) b hb
 ·omega
 ·exact sum_ne h1.2.1 (.inl hc) b hb
 ·omega
 ·exact dec_ne (.inl hc) b hb
 ·omega
 ·exact dec_ne (.inl hc) b hb
 ·omega
 ·exact dec_ne (.inl hc) b hb
theorem cut_head {s t : ByteArray} {x y z : Int} (h : headB s t x y z = true) (m : Nat) (hm : 4 ≤ m) : cutS 32 (headS s t x y z) m = [s, t, decS x, decS y, decS z] := by
 have h1 := (headB_iff s t x y z).1 h
 obtain ⟨n, rfl⟩ : ∃ n, m = n + 1 + 1 + 1 + 1 := ⟨m - 4, by omega⟩
 unfold cutS
 rw [headS_bytes, cutN_seg 32 _ _ _ (sum_ne h1.1 (.inl (by omega))), cutN_seg 32 _ _ _ (sum_ne h1.2.1 (.inl (by omega))), cutN_seg 32 _ _ _ (dec_ne (.inl (by omega))), cutN_seg 32 _ _ _ (dec_ne (.inl (by omega))), cutN_none 32 _ _ (dec_ne (.inl (by omega)))]
 simp only [List.map_cons, List.map_nil, str_bytes]
 rfl
theorem headGet_put {s t : ByteArray} {x y z : Int} (h : headB s t x y z = true) : headGet (headS s t x y z) = (s, t, x, y, z, true) := by
 have h1 := (headB_iff s t x y z).1 h
 have e := cut_head h 5 (by omega)
 have w0 : wd (headS s t x y z) 0 = s := by unfold wd; rw [e]; rfl
 have w1 : wd (headS s t x y z) 1 = t := by unfold wd; rw [e]; rfl
 have w2 : numS (wd (headS s t x y z) 2) = x := by unfold wd; rw [e]; exact numS_decS (by omega) (by omega)
 have w3 : numS (wd (headS s t x y z) 3) = y := by unfold wd; rw [e]; exact numS_decS (by omega) (by omega)
 have w4 : numS (wd (headS s t x y z) 4) = z := by unfold wd; rw [e]; exact numS_decS (by omega) (by omega)
 have hg : headGood (headS s t x y z) := ⟨by rw [e]; rfl, by rw [w0, w1, w2, w3, w4]; exact h⟩
 unfold headGet
 rw [if_pos hg, w0, w1, w2, w3, w4]
section
variable {at_ : Int} {s t : ByteArray} {x y z : Int} {l m : List S93} {q : List S48} (h : paidB at_ s t x y z l m q = true)
include h
theorem line0_ne : ∀ b ∈ line0 at_ s t x y z, b ≠ 10 := by
 have h1 := (paidB_iff at_ s t x y z l m q).1 h
 intro b hb
 unfold line0 at hb
 rcases List.mem_append.1 hb with hb | hb
 ·exact dec_ne (.inl (by omega)) b hb
 ·rcases List.mem_cons.1 hb with hb | hb
  ·omega
  ·exact headS_ne h1.2.1 (by omega) (by omega) b hb
theorem cut_lines (k : Nat) (hk : 4 ≤ k) : cutN 10 (paidL at_ s t x y z l m q) k = [line0 at_ s t x y z, line1 l, line2 m, line3 q, []] := by
 have h1 := (paidB_iff at_ s t x y z l m q).1 h
 obtain ⟨n, rfl⟩ : ∃ n, k = n + 1 + 1 + 1 + 1 := ⟨k - 4, by omega⟩
 have wd5 : ∀ (a b c d e : Int) (r : List Int), (a ≠ 10 ∧ b ≠ 10 ∧ c ≠ 10 ∧ d ≠ 10 ∧ e ≠ 10) → (∀ x ∈ r, x ≠ 10) → ∀ x ∈ [a, b, c, d, e] ++ r, x ≠ 10 := by
  intro a b c d e r ha hr x hx
  rcases List.mem_append.1 hx with hx | hx
  ·simp only [List.mem_cons, List.not_mem_nil, or_false] at hx
   rcases hx with rfl | rfl | rfl | rfl | rfl <;> omega
  ·exact hr x hx
 have n1 : ∀ x ∈ line1 l, x ≠ 10 := wd5 _ _ _ _ _ _ (by omega) (peaksL_ne (by omega) (by omega) l (range_pk h1.2.2.1))
 have n2 : ∀ x ∈ line2 m, x ≠ 10 := wd5 _ _ _ _ _ _ (by omega) (peaksL_ne (by omega) (by omega) m (List.all_eq_true.1 h1.2.2.2.2.2.1))
 have n3 : ∀ x ∈ line3 q, x ≠ 10 := wd5 _ _ _ _ _ _ (by omega) (sidesL_ne (by omega) (by omega) q (List.all_eq_true.1 h1.2.2.2.2.2.2))
 rw [paidL_lines, cutN_seg 10 _ _ _ (line0_ne h), cutN_seg 10 _ _ _ n1, cutN_seg 10 _ _ _ n2, cutN_seg 10 _ _ _ n3]
 cases n <;> rfl
omit h in
theorem cut_line0 : cutN 32 (line0 at_ s t x y z) 1 = [decI at_.toNat, bytesOf (headS s t x y z)] := by
 unfold line0
 rw [cutN_seg 32 _ _ _ (dec_ne (.inl (by omega))), cutN_zero]
end
theorem nn_app {a b : List Int} (ha : ∀ x ∈ a, 0 ≤ x ∧ x ≤ 255) (hb : ∀ x ∈ b, 0 ≤ x ∧ x ≤ 255) : ∀ x ∈ a ++ b, 0 ≤ x ∧ x ≤ 255 := fun x hx => (List.mem_append.1 hx).elim (ha x) (hb x)
theorem nn_cons {c : Int} {b : List Int} (hc : 0 ≤ c ∧ c ≤ 255) (hb : ∀ x ∈ b, 0 ≤ x ∧ x ≤ 255) : ∀ x ∈ c :: b, 0 ≤ x ∧ x ≤ 255 := fun x hx => (List.mem_cons.1 hx).elim (fun e => by rw [e]; exact hc) (hb x)
theorem nn_dec (n : Nat) : ∀ x ∈ decI n, 0 ≤ x ∧ x ≤ 255 := fun x hx => by have := decI_dig n x hx; omega
theorem line0_nn (at_ : Int) (s t : ByteArray) (x y z : Int) : ∀ b ∈ line0 at_ s t x y z, 0 ≤ b ∧ b ≤ 255 := nn_app (nn_dec _) (nn_cons (by omega) (bytes_nn _))
theorem line1_nn (l : List S93) : ∀ b ∈ line1 l, 0 ≤ b ∧ b ≤ 255 := nn_app (by decide) (peaksL_nn l)
theorem line2_nn (l : List S93) : ∀ b ∈ line2 l, 0 ≤ b ∧ b ≤ 255 := nn_app (by decide) (peaksL_nn l)
theorem line3_nn (l : List S48) : ∀ b ∈ line3 l, 0 ≤ b ∧ b ≤ 255 := nn_app (by decide) (sidesL_nn l)
theorem paidL_nn (at_ : Int) (s t : ByteArray) (x y z : Int) (l m : List S93) (q : List S48) : ∀ b ∈ paidL at_ s t x y z l m q, 0 ≤ b ∧ b ≤ 255 := by
 rw [paidL_lines]
 exact nn_app (line0_nn _ _ _ _ _ _) (nn_cons (by omega) (nn_app (line1_nn _) (nn_cons (by omega) (nn_app (line2_nn _) (nn_cons (by omega) (nn_app (line3_nn _) (nn_cons (by omega) (by simp))))))))
theorem cutS_lines {at_ : Int} {s t : ByteArray} {x y z : Int} {l m : List S93} {q : List S48} (h : paidB at_ s t x y z l m q = true) (k : Nat) (hk : 4 ≤ k) :
  cutS 10 (strOfNums (paidL at_ s t x y z l m q)) k = [strOfNums (line0 at_ s t x y z), strOfNums (line1 l), strOfNums (line2 m), strOfNums (line3 q), (⟨#[]⟩ : ByteArray)] := by
 unfold cutS
 rw [bytes_str _ (paidL_nn at_ s t x y z l m q), cut_lines h k hk]; rfl
theorem cutS_line0 {at_ : Int} {s t : ByteArray} {x y z : Int} {l m : List S93} {q : List S48} (h : paidB at_ s t x y z l m q = true) : cutS 32 (strOfNums (line0 at_ s t x y z)) 1 = [decS at_, headS s t x y z] := by
 unfold cutS
 rw [bytes_str _ (line0_nn at_ s t x y z), cut_line0, List.map_cons, List.map_cons, List.map_nil, str_bytes]; rfl
theorem cutS_row (w : List Int) (hw : ∀ x ∈ w, x ≠ 32) (hn : ∀ x ∈ w, 0 ≤ x ∧ x ≤ 255) (l : List S93) (hl : ∀ p ∈ l, pkS p = true) : cutS 32 (strOfNums (w ++ peaksL l)) (strOfNums (w ++ peaksL l)).size = strOfNums w :: l.map pkT := by
 have hb := bytes_str _ (nn_app hn (peaksL_nn l))
 have hz : l.length ≤ (strOfNums (w ++ peaksL l)).size := by
  rw [← bytes_len, hb, List.length_append]
  have := peaksL_len l; omega
 unfold cutS
 rw [hb, cut_peaks l w _ hw hl hz, List.map_cons, List.map_map]; rfl
theorem cutS_sides (w : List Int) (hw : ∀ x ∈ w, x ≠ 32) (hn : ∀ x ∈ w, 0 ≤ x ∧ x ≤ 255) (l : List S48) (hl : ∀ p ∈ l, sideB p = true) : cutS 32 (strOfNums (w ++ sidesL l)) (strOfNums (w ++ sidesL l)).size = strOfNums w :: l.map sdT := by
 have hb := bytes_str _ (nn_app hn (sidesL_nn l))
 have hz : l.length ≤ (strOfNums (w ++ sidesL l)).size := by
  rw [← bytes_len, hb, List.length_append]
  have := sidesL_len l; omega
 unfold cutS
 rw [hb, cut_sides l w _ hw hl hz, List.map_cons, List.map_map]; rfl
theorem cut_one (s : ByteArray) (c : UInt8) : (cutS ((c.toNat : Nat) : Int) s 1 = [(Sh.cutS s (⟨#[c]⟩ : ByteArray)).1, (Sh.cutS s (⟨#[c]⟩ : ByteArray)).2.1] ∧ (Sh.cutS s (⟨#[c]⟩ : ByteArray)).2.2 = true) ∨ (cutS ((c.toNat : Nat) : Int) s 1 = [s] ∧ (Sh.cutS s (⟨#[c]⟩ : ByteArray)).1 = s ∧ (Sh.cutS s (⟨#[c]⟩ : ByteArray)).2.1 = ByteArray.empty) := by
 rcases Lib.indexB_cases s (⟨#[c]⟩ : ByteArray) with h | ⟨i, h, hi⟩
 ·right
  have h2 : Lib.indexByte s.data.toList c = -1 := by rw [← Lib.index_one]; exact h
  obtain ⟨e1, e2, e3⟩ := Lib.cutB_miss s _ h
  refine ⟨?_, e1, e2⟩
  unfold cutS
  rw [cutN_none _ _ _ (by rw [bytes_data]; exact u8_ne (indexByte_none h2)), List.map_cons, List.map_nil, str_bytes]
 ·left
  have h2 : Lib.indexByte s.data.toList c = (i : Int) := by rw [← Lib.index_one]; exact h
  obtain ⟨h3, h4, h5⟩ := indexByte_some h2
  obtain ⟨e1, e2, e3⟩ := Lib.cutB_hit s _ i h
  have hi1 : i + 1 ≤ s.size := hi
  have b1 : bytesOf s = (bytesOf s).take i ++ ((c.toNat : Nat) : Int) :: (bytesOf s).drop (i + 1) := by
   conv => lhs; rw [bytes_data, h4]
   rw [List.map_append, List.map_cons, List.map_take, List.map_drop]; rfl
  have b2 : ∀ x ∈ (bytesOf s).take i, x ≠ ((c.toNat : Nat) : Int) := by
   rw [bytes_data, ← List.map_take]; exact u8_ne h5
  refine ⟨?_, e3⟩
  have f1 : (Sh.cutS s (⟨#[c]⟩ : ByteArray)).1 = s.extract 0 i := e1
  have f2 : (Sh.cutS s (⟨#[c]⟩ : ByteArray)).2.1 = s.extract (i + 1) s.size := e2
  rw [f1, f2]
  unfold cutS
  conv => lhs; rw [b1, cutN_seg _ _ _ _ b2, cutN_zero]
  rw [List.map_cons, List.map_cons, List.map_nil, str_extract, str_extract, List.drop_zero, List.take_of_length_le (by rw [bytes_len]; exact Nat.le_refl _ : (bytesOf s).length ≤ s.size)]
theorem cut_one_size (s : ByteArray) (c : UInt8) : (Sh.cutS s (⟨#[c]⟩ : ByteArray)).1.size ≤ s.size ∧ (Sh.cutS s (⟨#[c]⟩ : ByteArray)).2.1.size ≤ s.size := by
 have hsz := cutS_size ((c.toNat : Nat) : Int) s 1
 rcases cut_one s c with ⟨e, _⟩ | ⟨_, e1, e2⟩
 ·rw [e] at hsz
  exact ⟨hsz _ List.mem_cons_self, hsz _ (List.mem_cons_of_mem _ List.mem_cons_self)⟩
 ·rw [e1, e2]; exact ⟨Nat.le_refl _, Nat.zero_le _⟩
theorem bl_inj {x y : ByteArray} (h : x.toList = y.toList) : x = y := by
 rw [ByteArray.toList_eq, ByteArray.toList_eq] at h
 exact ByteArray.ext (Array.toList_inj.mp h)
theorem specWords_ev (s w : ByteArray) (hs : s.size ≤ 1000000000) : Ev (fun k => spec_l9Words.f k s w) ((cutS 32 s s.size).drop 1, (rdOf ByteArray.empty (cutS 32 s s.size) 0).toList == w.toList) := by
 unfold spec_l9Words.f
 exact Ev.bind (specCut_ev s hs 32 s.size) (Ev.ifp (by rw [cutS_len]; omega) (Ev.now _))
def gpk (w : ByteArray) : Option S93 := if (cutS 58 w 2).length = 3 then some (⟨rdOf ByteArray.empty (cutS 58 w 2) 0, numS (rdOf ByteArray.empty (cutS 58 w 2) 1), numS (rdOf ByteArray.empty (cutS 58 w 2) 2)⟩ : S93) else none
def gsd (w : ByteArray) : Option S48 := if (w.size : Int) > 1 then some (⟨w.extract 1 w.size, (bt w 0 == 108)⟩ : S48) else none
theorem rdW (l : List ByteArray) (i : Nat) (h : i < l.length) : rdOf ByteArray.empty l (i : Int) = l[i] := by
 unfold rdOf
 rw [Int.toNat_natCast, List.getD_eq_getElem?_getD, List.getElem?_eq_getElem h, Option.getD_some]
theorem specGetPeaks_loop (l : List ByteArray) (hl : l.length ≤ 100000000) (hs : ∀ w ∈ l, w.size ≤ 1000000000) : ∀ (d i : Nat) (x : List S93), i + d = l.length → x.length ≤ i → Ev (fun k => spec_l9GetPeaks.l0 k l x (i : Int)) (x ++ (l.drop i).filterMap gpk)
 | 0, i, x, h, hx => by
  refine Ev.step (f := fun _ => some x) (fun k => ?_) (Ev.at_ (Ev.now _) (by rw [List.drop_eq_nil_of_le (by omega), List.filterMap_nil, List.append_nil]))
  simp only [spec_l9GetPeaks.l0]
  rw [if_neg (by omega)]
 | d + 1, i, x, h, hx => by
  have hi : i < l.length := by omega
  have hw := hs _ (List.getElem_mem hi)
  have hsz := cutS_size 58 l[i] 2
  have e4 : wrap64 ((i : Int) + 1) = ((i + 1 : Nat) : Int) := by rw [w64 (by omega) (by omega)]; omega
  refine Ev.step (f := fun k => spec_l9GetPeaks.l0 (k + 1) l x (i : Int)) (fun k => rfl) ?_
  simp only [spec_l9GetPeaks.l0]
  rw [rdW l i hi, e4]
  clear e4
  refine Ev.ifp (by omega) (Ev.ifp (by omega) (Ev.bind (specCut_ev l[i] hw 58 2) ?_))
  rw [List.drop_eq_getElem_cons hi, List.filterMap_cons]
  by_cases h3 : (cutS 58 l[i] 2).length = 3
  ·have ih := specGetPeaks_loop l hl hs d (i + 1) (x ++ [(⟨rdOf ByteArray.empty (cutS 58 l[i] 2) 0, numS (rdOf ByteArray.empty (cutS 58 l[i] 2) 1), numS (rdOf ByteArray.empty (cutS 58 l[i] 2) 2)⟩ : S93)]) (by omega) (by rw [List.length_append, List.length_singleton]; omega)
   refine Ev.ifp (by omega) (Ev.ifp (by omega) (Ev.ifp (by omega) (Ev.bind (specNum_ev _ (Nat.le_trans (rdOf_size _ _ hsz 1) hw)) (Ev.ifp (by omega) (Ev.bind (specNum_ev _ (Nat.le_trans (rdOf_size _ _ hsz 2) hw)) (Ev.ifp (by omega) (Ev.at_ ih ?_)))))))
   rw [gpk, if_pos h3, List.append_assoc]; rfl
  ·have ih := specGetPeaks_loop l hl hs d (i + 1) x (by omega) (by omega)
   refine Ev.ifn (by omega) (Ev.at_ ih ?_)
   rw [gpk, if_neg h3]
theorem specGetPeaks_ev (l : List ByteArray) (hl : l.length ≤ 100000000) (hs : ∀ w ∈ l, w.size ≤ 1000000000) : Ev (fun k => spec_l9GetPeaks.f k l) (l.filterMap gpk) := by
 unfold spec_l9GetPeaks.f
 exact specGetPeaks_loop l hl hs l.length 0 [] (by omega) (Nat.zero_le _)
theorem specGetSides_loop (l : List ByteArray) (hl : l.length ≤ 100000000) : ∀ (d i : Nat) (x : List S48), i + d = l.length → x.length ≤ i → Ev (fun k => spec_l9GetSides.l0 k l x (i : Int)) (x ++ (l.drop i).filterMap gsd)
 | 0, i, x, h, hx => by
  refine Ev.step (f := fun _ => some x) (fun k => ?_) (Ev.at_ (Ev.now _) (by rw [List.drop_eq_nil_of_le (by omega), List.filterMap_nil, List.append_nil]))
  simp only [spec_l9GetSides.l0]
  rw [if_neg (by omega)]
 | d + 1, i, x, h, hx => by
  have hi : i < l.length := by omega
  have e4 : wrap64 ((i : Int) + 1) = ((i + 1 : Nat) : Int) := by rw [w64 (by omega) (by omega)]; omega
  refine Ev.step (f := fun k => spec_l9GetSides.l0 (k + 1) l x (i : Int)) (fun k => rfl) ?_
  simp only [spec_l9GetSides.l0]
  rw [rdW l i hi, e4]
  clear e4
  rw [List.drop_eq_getElem_cons hi, List.filterMap_cons]
  refine Ev.ifp (by omega) (Ev.ifp (by omega) ?_)
  by_cases h3 : (l[i].size : Int) > 1
  ·have ih := specGetSides_loop l hl d (i + 1) (x ++ [(⟨l[i].extract 1 l[i].size, (bt l[i] 0 == 108)⟩ : S48)]) (by omega) (by rw [List.length_append, List.length_singleton]; omega)
   refine Ev.ifp h3 (Ev.ifp (by omega) (Ev.ifp (by omega) (Ev.ifp (by omega) (Ev.at_ ih ?_))))
   rw [gsd, if_pos h3, List.append_assoc]; rfl
  ·have ih := specGetSides_loop l hl d (i + 1) x (by omega) (by omega)
   refine Ev.ifn h3 (Ev.at_ ih ?_)
   rw [gsd, if_neg h3]
theorem specGetSides_ev (l : List ByteArray) (hl : l.length ≤ 100000000) : Ev (fun k => spec_l9GetSides.f k l) (l.filterMap gsd) := by
 unfold spec_l9GetSides.f
 exact specGetSides_loop l hl l.length 0 [] (by omega) (Nat.zero_le _)
theorem gpk_size {w : ByteArray} {p : S93} (h : gpk w = some p) : p.f0.size ≤ w.size := by
 unfold gpk at h
 by_cases h3 : (cutS 58 w 2).length = 3
 ·rw [if_pos h3] at h
  obtain rfl := Option.some.inj h
  exact rdOf_size _ _ (cutS_size 58 w 2) 0
 ·rw [if_neg h3] at h; cases h
theorem gsd_size {w : ByteArray} {p : S48} (h : gsd w = some p) : p.f0.size ≤ w.size := by
 unfold gsd at h
 by_cases h3 : (w.size : Int) > 1
 ·rw [if_pos h3] at h
  obtain rfl := Option.some.inj h
  show (w.extract 1 w.size).size ≤ w.size
  rw [ByteArray.size_extract]; omega
 ·rw [if_neg h3] at h; cases h
theorem gpk_list (l : List ByteArray) (n : Nat) (hs : ∀ w ∈ l, w.size ≤ n) : (l.filterMap gpk).length ≤ l.length ∧ ∀ p ∈ l.filterMap gpk, p.f0.size ≤ n :=
 ⟨List.length_filterMap_le _ _, fun p hp => by
  obtain ⟨w, hw, h⟩ := List.mem_filterMap.1 hp
  exact Nat.le_trans (gpk_size h) (hs w hw)⟩
theorem gsd_list (l : List ByteArray) (n : Nat) (hs : ∀ w ∈ l, w.size ≤ n) : (l.filterMap gsd).length ≤ l.length ∧ ∀ p ∈ l.filterMap gsd, p.f0.size ≤ n :=
 ⟨List.length_filterMap_le _ _, fun p hp => by
  obtain ⟨w, hw, h⟩ := List.mem_filterMap.1 hp
  exact Nat.le_trans (gsd_size h) (hs w hw)⟩
theorem gpk_pk {p : S93} (h : pkS p = true) : gpk (pkT p) = some p := by
 unfold gpk
 have hn := pkS_num h
 rw [cutS_pk h 2 (Nat.le_refl _), if_pos (show [p.f0, decS p.f1, decS p.f2].length = 3 from rfl)]
 show some (⟨p.f0, numS (decS p.f1), numS (decS p.f2)⟩ : S93) = some p
 rw [hn.1, hn.2]
theorem gsd_sd {p : S48} (h : sideB p = true) : gsd (sdT p) = some p := by
 unfold gsd
 rw [if_pos (by rw [sdT_size h]; omega), sdT_tail, sdT_head]
 congr 1
 obtain ⟨f0, f1⟩ := p
 cases f1 <;> rfl
theorem fm_all {α β : Type} {f : α → β} {g : β → Option α} : ∀ l : List α, (∀ p ∈ l, g (f p) = some p) → (l.map f).filterMap g = l
 | [], _ => rfl
 | p :: r, h => by rw [List.map_cons, List.filterMap_cons, h p List.mem_cons_self, fm_all r (fun q hq => h q (List.mem_cons_of_mem _ hq))]
theorem gpk_all (l : List S93) (h : ∀ p ∈ l, pkS p = true) : (l.map pkT).filterMap gpk = l := by
 exact fm_all l fun p hp => gpk_pk (h p hp)
theorem gsd_all (l : List S48) (h : ∀ p ∈ l, sideB p = true) : (l.map sdT).filterMap gsd = l := by
 exact fm_all l fun p hp => gsd_sd (h p hp)
def Written (s : ByteArray) : Prop := ∃ (at_ : Int) (p r : ByteArray) (x y z : Int) (l m : List S93) (q : List S48), paidB at_ p r x y z l m q = true ∧ s = strOfNums (paidL at_ p r x y z l m q)
abbrev noPaid : Int × ByteArray × ByteArray × Int × Int × Int × List S93 × List S93 × List S48 × Bool := (0, (⟨#[]⟩ : ByteArray), (⟨#[]⟩ : ByteArray), 0, 0, 0, ([] : List S93), ([] : List S93), ([] : List S48), false)
theorem words_len (s : ByteArray) : ((cutS 32 s s.size).drop 1).length ≤ s.size := by
 rw [List.length_drop, cutS_len]; omega
theorem words_size (s : ByteArray) : ∀ w ∈ (cutS 32 s s.size).drop 1, w.size ≤ s.size := fun w hw => cutS_size 32 s s.size w (List.mem_of_mem_drop hw)
theorem headGet_size (s : ByteArray) : (headGet s).1.size ≤ s.size ∧ (headGet s).2.1.size ≤ s.size := by
 unfold headGet
 by_cases h : headGood s
 ·rw [if_pos h]; exact ⟨wd_size s 0, wd_size s 1⟩
 ·rw [if_neg h]; exact ⟨Nat.zero_le _, Nat.zero_le _⟩
theorem specJ_flag (s : ByteArray) (a b c d : List ByteArray) : Ev (fun k => spec_PaidGet.j0 k s a b c d true) noPaid := by
 refine Ev.step (f := fun _ => some noPaid) (fun k => ?_) (Ev.now _)
 simp only [spec_PaidGet.j0]
 rw [if_pos trivial]
theorem specPaidGet_no (s : ByteArray) (hs : s.size ≤ 1048576) (hW : ¬ Written s) : Ev (fun k => spec_PaidGet.f k s) noPaid := by
 have hz := cutS_size 10 s 5
 have z0 := rdOf_size _ _ hz 0
 have z1 := rdOf_size _ _ hz 1
 have z2 := rdOf_size _ _ hz 2
 have z3 := rdOf_size _ _ hz 3
 unfold spec_PaidGet.f
 refine Ev.bind (specCut_ev s (by omega) 10 5) ?_
 generalize cutS 10 s 5 = L at *
 by_cases hl : L.length = 5
 ·refine Ev.ifp (by omega) (Ev.ifp (by omega) (Ev.bind (specCut_ev _ (by omega) 32 1) (Ev.ifp (by omega) (Ev.bind (specWords_ev _ _ (by omega)) (Ev.ifp (by omega) (Ev.bind (specWords_ev _ _ (by omega)) (Ev.ifp (by omega) (Ev.bind (specWords_ev _ _ (by omega)) ?_))))))))
  have hw := cutS_size 32 (rdOf ByteArray.empty L 0) 1
  generalize rdOf ByteArray.empty L 0 = L0 at *
  generalize rdOf ByteArray.empty L 1 = L1 at *
  generalize rdOf ByteArray.empty L 2 = L2 at *
  generalize rdOf ByteArray.empty L 3 = L3 at *
  have w0 := rdOf_size _ _ hw 0
  have w1 := rdOf_size _ _ hw 1
  generalize cutS 32 L0 1 = W at *
  have J : W.length = 2 → ∀ f : Bool, Ev (fun k => spec_PaidGet.j0 k s W ((cutS 32 L1 L1.size).drop 1) ((cutS 32 L2 L2.size).drop 1) ((cutS 32 L3 L3.size).drop 1) f) noPaid := by
   intro h2 f
   cases f with
   | true => exact specJ_flag _ _ _ _ _
   | false =>
    have l1 := words_len L1
    have l2 := words_len L2
    have l3 := words_len L3
    have g1 := gpk_list _ _ (words_size L1)
    have g2 := gpk_list _ _ (words_size L2)
    have g3 := gsd_list _ _ (words_size L3)
    have e1 := specGetPeaks_ev _ (by omega) (fun w hw => Nat.le_trans (words_size L1 w hw) (by omega : L1.size ≤ 1000000000))
    have e2 := specGetPeaks_ev _ (by omega) (fun w hw => Nat.le_trans (words_size L2 w hw) (by omega : L2.size ≤ 1000000000))
    have e3 := specGetSides_ev ((cutS 32 L3 L3.size).drop 1) (by omega)
    refine Ev.step (f := fun k => spec_PaidGet.j0 (k + 1) s W ((cutS 32 L1 L1.size).drop 1) ((cutS 32 L2 L2.size).drop 1) ((cutS 32 L3 L3.size).drop 1) false) (fun k => rfl) ?_
    simp only [spec_PaidGet.j0]
    have hh := headGet_size (rdOf ByteArray.empty W 1)
    refine Ev.ifn (by simp) (Ev.ifp (by omega) (Ev.bind (specHeadGet_ev _ (by omega)) (Ev.ifp (by omega) (Ev.bind (specNum_ev _ (by omega)) (Ev.bind e1 (Ev.bind e2 (Ev.bind e3 ?_)))))))
    generalize ((cutS 32 L1 L1.size).drop 1).filterMap gpk = pl at *
    generalize ((cutS 32 L2 L2.size).drop 1).filterMap gpk = pm at *
    generalize ((cutS 32 L3 L3.size).drop 1).filterMap gsd = pq at *
    generalize numS (rdOf ByteArray.empty W 0) = at_ at *
    generalize headGet (rdOf ByteArray.empty W 1) = hd at *
    obtain ⟨hp, hr, hx, hy, hz', ok⟩ := hd
    have ho := specPaidOk_ev at_ hp hr hx hy hz' pl pm pq ⟨Nat.le_trans hh.1 (by omega), Nat.le_trans hh.2 (by omega)⟩ ⟨by omega, fun p hp => Nat.le_trans (g1.2 p hp) (by omega)⟩ ⟨by omega, fun p hp => Nat.le_trans (g2.2 p hp) (by omega)⟩ ⟨by omega, fun p hp => Nat.le_trans (g3.2 p hp) (by omega)⟩
    by_cases hok : ok = true
    ·refine Ev.ifp hok (Ev.bind ho ?_)
     by_cases hb : paidB at_ hp hr hx hy hz' pl pm pq = true
     ·refine Ev.ifp hb (Ev.bind (specPaidL_ev (by omega) hb) (Ev.ifn (fun h => hW ⟨at_, hp, hr, hx, hy, hz', pl, pm, pq, hb, ?_⟩) (Ev.now _)))
      exact bl_inj h.symm
     ·exact Ev.ifn hb (Ev.now _)
    ·exact Ev.ifn hok (Ev.now _)
  by_cases h2 : W.length = 2
  ·refine Ev.ifp (by omega) ?_
   by_cases a : ((rdOf ByteArray.empty (cutS 32 L1 L1.size) 0).toList == (⟨#[112, 101, 97, 107, 115]⟩ : ByteArray).toList) = true
   ·refine Ev.ifp a ?_
    by_cases b : ((rdOf ByteArray.empty (cutS 32 L2 L2.size) 0).toList == (⟨#[115, 116, 101, 112, 115]⟩ : ByteArray).toList) = true
    ·exact Ev.ifp b (J h2 _)
    ·exact Ev.ifn b (J h2 _)
   ·exact Ev.ifn a (J h2 _)
  ·exact Ev.ifn (by omega) (specJ_flag _ _ _ _ _)
 ·exact Ev.ifn (by omega) (Ev.now _)
section
variable {at_ : Int} {p r : ByteArray} {x y z : Int} {l m : List S93} {q : List S48} (h : paidB at_ p r x y z l m q = true)
include h
theorem row1 : cutS 32 (strOfNums (line1 l)) (strOfNums (line1 l)).size = (⟨#[112, 101, 97, 107, 115]⟩ : ByteArray) :: l.map pkT :=
 cutS_row [112, 101, 97, 107, 115] (by decide) (by decide) l (range_pk ((paidB_iff at_ p r x y z l m q).1 h).2.2.1)
theorem row2 : cutS 32 (strOfNums (line2 m)) (strOfNums (line2 m)).size = (⟨#[115, 116, 101, 112, 115]⟩ : ByteArray) :: m.map pkT :=
 cutS_row [115, 116, 101, 112, 115] (by decide) (by decide) m (List.all_eq_true.1 ((paidB_iff at_ p r x y z l m q).1 h).2.2.2.2.2.1)
theorem row3 : cutS 32 (strOfNums (line3 q)) (strOfNums (line3 q)).size = (⟨#[115, 105, 100, 101, 115]⟩ : ByteArray) :: q.map sdT :=
 cutS_sides [115, 105, 100, 101, 115] (by decide) (by decide) q (List.all_eq_true.1 ((paidB_iff at_ p r x y z l m q).1 h).2.2.2.2.2.2)
theorem line_sizes : (strOfNums (line0 at_ p r x y z)).size ≤ (strOfNums (paidL at_ p r x y z l m q)).size ∧ (strOfNums (line1 l)).size ≤ (strOfNums (paidL at_ p r x y z l m q)).size ∧ (strOfNums (line2 m)).size ≤ (strOfNums (paidL at_ p r x y z l m q)).size ∧ (strOfNums (line3 q)).size ≤ (strOfNums (paidL at_ p r x y z l m q)).size := by
 have e := cutS_size 10 (strOfNums (paidL at_ p r x y z l m q)) 5
 rw [cutS_lines h 5 (by omega)] at e
 exact ⟨e _ (by simp), e _ (by simp), e _ (by simp), e _ (by simp)⟩
theorem specPaidGet_yes (hs : (strOfNums (paidL at_ p r x y z l m q)).size ≤ 1048576) : Ev (fun k => spec_PaidGet.f k (strOfNums (paidL at_ p r x y z l m q))) (at_, p, r, x, y, z, l, m, q, true) := by
 have h1 := (paidB_iff at_ p r x y z l m q).1 h
 obtain ⟨z0, z1, z2, z3⟩ := line_sizes h
 have c1 := specCut_ev (strOfNums (paidL at_ p r x y z l m q)) (by omega) 10 5
 rw [cutS_lines h 5 (by omega)] at c1
 have c2 := specCut_ev (strOfNums (line0 at_ p r x y z)) (by omega) 32 1
 rw [cutS_line0 h] at c2
 have c3 := specWords_ev (strOfNums (line1 l)) (⟨#[112, 101, 97, 107, 115]⟩ : ByteArray) (by omega)
 rw [row1 h] at c3
 replace c3 := Ev.at_ c3 (r' := (l.map pkT, true)) (Prod.ext rfl (beq_self_eq_true _))
 have c4 := specWords_ev (strOfNums (line2 m)) (⟨#[115, 116, 101, 112, 115]⟩ : ByteArray) (by omega)
 rw [row2 h] at c4
 replace c4 := Ev.at_ c4 (r' := (m.map pkT, true)) (Prod.ext rfl (beq_self_eq_true _))
 have c5 := specWords_ev (strOfNums (line3 q)) (⟨#[115, 105, 100, 101, 115]⟩ : ByteArray) (by omega)
 rw [row3 h] at c5
 replace c5 := Ev.at_ c5 (r' := (q.map sdT, true)) (Prod.ext rfl (beq_self_eq_true _))
 have b1 := words_len (strOfNums (line1 l))
 have b2 := words_len (strOfNums (line2 m))
 have b3 := words_len (strOfNums (line3 q))
 have d1 := words_size (strOfNums (line1 l))
 have d2 := words_size (strOfNums (line2 m))
 rw [row1 h, List.drop_one, List.tail_cons] at b1 d1
 rw [row2 h, List.drop_one, List.tail_cons] at b2 d2
 rw [row3 h, List.drop_one, List.tail_cons] at b3
 have e1 := specGetPeaks_ev (l.map pkT) (by omega) (fun w hw => Nat.le_trans (d1 w hw) (by omega))
 have e2 := specGetPeaks_ev (m.map pkT) (by omega) (fun w hw => Nat.le_trans (d2 w hw) (by omega))
 have e3 := specGetSides_ev (q.map sdT) (by omega)
 rw [gpk_all l (range_pk h1.2.2.1)] at e1
 rw [gpk_all m (List.all_eq_true.1 h1.2.2.2.2.2.1)] at e2
 rw [gsd_all q (List.all_eq_true.1 h1.2.2.2.2.2.2)] at e3
 rw [List.length_map] at b1 b2 b3
 have hsz := headS_size h1.2.1
 have eh := specHeadGet_ev (headS p r x y z) (by omega)
 rw [headGet_put h1.2.1] at eh
 have hd := dec_small (n := at_) (by omega)
 have en := specNum_ev (decS at_) (by omega)
 rw [numS_decS (by omega) (by omega)] at en
 have fp := headB_size h1.2.1
 have pf : ∀ a ∈ l, a.f0.size ≤ 1048576 := fun a ha => by have := pkS_facts (range_pk h1.2.2.1 a ha); omega
 have mf : ∀ a ∈ m, a.f0.size ≤ 1048576 := fun a ha => by have := pkS_facts (List.all_eq_true.1 h1.2.2.2.2.2.1 a ha); omega
 have qf : ∀ a ∈ q, a.f0.size ≤ 1048576 := fun a ha => by
  have := ((sumB_iff _).1 (List.all_eq_true.1 h1.2.2.2.2.2.2 a ha)).2
  rw [bytes_len] at this; omega
 have ho := specPaidOk_ev at_ p r x y z l m q ⟨by omega, by omega⟩ ⟨by omega, pf⟩ ⟨by omega, mf⟩ ⟨by omega, qf⟩
 rw [h] at ho
 have hp := specPaidL_ev (at_ := at_) (s := p) (t := r) (x := x) (y := y) (z := z) (l := l) (m := m) (q := q) (by omega) h
 generalize strOfNums (paidL at_ p r x y z l m q) = s at *
 have J : Ev (fun k => spec_PaidGet.j0 k s [decS at_, headS p r x y z] (l.map pkT) (m.map pkT) (q.map sdT) false) (at_, p, r, x, y, z, l, m, q, true) := by
  refine Ev.step (f := fun k => spec_PaidGet.j0 (k + 1) s [decS at_, headS p r x y z] (l.map pkT) (m.map pkT) (q.map sdT) false) (fun k => rfl) ?_
  simp only [spec_PaidGet.j0]
  exact Ev.ifn (by simp) (Ev.ifp (by simp) (Ev.bind eh (Ev.ifp (by simp) (Ev.bind en (Ev.bind e1 (Ev.bind e2 (Ev.bind e3 (Ev.ifp rfl (Ev.bind ho (Ev.ifp rfl (Ev.bind hp (Ev.ifp rfl (Ev.now _)))))))))))))
 unfold spec_PaidGet.f
 exact Ev.bind c1 (Ev.ifp (by simp) (Ev.ifp (by simp) (Ev.bind c2 (Ev.ifp (by simp) (Ev.bind c3 (Ev.ifp (by simp) (Ev.bind c4 (Ev.ifp (by simp) (Ev.bind c5 (Ev.ifp (by simp) (Ev.ifp rfl (Ev.ifp rfl J))))))))))))
end
def ipk (w : ByteArray) : Option S93 := if (cutS 58 w w.size).length = 3 then (if (numP (rdOf ByteArray.empty (cutS 58 w w.size) 1)).2 = true then (if (numP (rdOf ByteArray.empty (cutS 58 w w.size) 2)).2 = true then some (⟨rdOf ByteArray.empty (cutS 58 w w.size) 0, (numP (rdOf ByteArray.empty (cutS 58 w w.size) 1)).1, (numP (rdOf ByteArray.empty (cutS 58 w w.size) 2)).1⟩ : S93) else none) else none) else none
def isd (w : ByteArray) : Option S48 := if w.toList = ([] : List UInt8) then none else if bt w 0 = 108 then some (⟨w.extract 1 w.size, (bt w 0 == 108)⟩ : S48) else if bt w 0 = 114 then some (⟨w.extract 1 w.size, (bt w 0 == 108)⟩ : S48) else none
def allOf {α : Type} (f : ByteArray → Option α) : List ByteArray → Option (List α)
 | [] => some []
 | w :: r => (f w).bind fun p => (allOf f r).bind fun ps => some (p :: ps)
def resOf {α : Type} (x : List α) : Option (List α) → List α × Bool
 | none => ([], false)
 | some r => (x ++ r, true)
theorem res_cons {α : Type} (x : List α) (p : α) (o : Option (List α)) : resOf x (o.bind fun ps => some (p :: ps)) = resOf (x ++ [p]) o := by
 cases o with
 | none => rfl
 | some r => simp [resOf]
theorem allOf_facts {α : Type} {f : ByteArray → Option α} {g : α → Nat} (hf : ∀ w p, f w = some p → g p ≤ w.size) (n : Nat) : ∀ (l : List ByteArray) (r : List α), (∀ w ∈ l, w.size ≤ n) → allOf f l = some r → r.length = l.length ∧ ∀ p ∈ r, g p ≤ n
 | [], r, _, h => by
  obtain rfl := Option.some.inj h
  exact ⟨rfl, fun p hp => absurd hp List.not_mem_nil⟩
 | w :: l, r, hw, h => by
  obtain ⟨p, h1, h⟩ := Option.bind_eq_some_iff.mp h
  obtain ⟨ps, h2, h⟩ := Option.bind_eq_some_iff.mp h
  obtain rfl := Option.some.inj h
  obtain ⟨i1, i2⟩ := allOf_facts hf n l ps (fun q hq => hw q (List.mem_cons_of_mem _ hq)) h2
  refine ⟨by rw [List.length_cons, List.length_cons, i1], fun q hq => ?_⟩
  rcases List.mem_cons.1 hq with rfl | hq
  ·exact Nat.le_trans (hf w q h1) (hw w List.mem_cons_self)
  ·exact i2 q hq
theorem resOf_facts {α : Type} {f : ByteArray → Option α} {g : α → Nat} (hf : ∀ w p, f w = some p → g p ≤ w.size) (n : Nat) (l : List ByteArray) (hw : ∀ w ∈ l, w.size ≤ n) : (resOf [] (allOf f l)).1.length ≤ l.length ∧ ∀ p ∈ (resOf [] (allOf f l)).1, g p ≤ n := by
 cases h : allOf f l with
 | none => exact ⟨Nat.zero_le _, fun p hp => absurd hp List.not_mem_nil⟩
 | some r =>
  obtain ⟨i1, i2⟩ := allOf_facts hf n l r hw h
  exact ⟨Nat.le_of_eq i1, i2⟩
theorem allOf_map {α : Type} {f : ByteArray → Option α} {t : α → ByteArray} : ∀ l : List α, (∀ p ∈ l, f (t p) = some p) → allOf f (l.map t) = some l
 | [], _ => rfl
 | p :: r, h => by rw [List.map_cons, allOf, h p List.mem_cons_self, allOf_map r (fun q hq => h q (List.mem_cons_of_mem _ hq))]; rfl
theorem ipk_size (w : ByteArray) (p : S93) (h : ipk w = some p) : p.f0.size ≤ w.size := by
 unfold ipk at h
 split at h
 ·split at h
  ·split at h
   ·obtain rfl := Option.some.inj h
    exact rdOf_size _ _ (cutS_size 58 w w.size) 0
   ·cases h
  ·cases h
 ·cases h
theorem isd_size (w : ByteArray) (p : S48) (h : isd w = some p) : p.f0.size ≤ w.size := by
 have hz : (w.extract 1 w.size).size ≤ w.size := by rw [ByteArray.size_extract]; omega
 unfold isd at h
 split at h
 ·cases h
 ·split at h
  ·obtain rfl := Option.some.inj h
   exact hz
  ·split at h
   ·obtain rfl := Option.some.inj h
    exact hz
   ·cases h
theorem numP_dec {n : Int} (h0 : 0 ≤ n) (h1 : n < 1000000000) : numP (decS n) = (n, true) := by
 unfold numP
 rw [decS_bytes, if_pos (numB_decI (by omega)), (dec_num _).1, Int.toNat_of_nonneg h0]
theorem ipk_pk {p : S93} (h : pkS p = true) : ipk (pkT p) = some p := by
 have hf := pkS_facts h
 have hz : 2 ≤ (pkT p).size := by
  rw [← bytes_len, pkT_bytes, pkL, List.length_append, List.length_cons, List.length_append, List.length_cons]; omega
 unfold ipk
 rw [cutS_pk h _ hz, if_pos (show [p.f0, decS p.f1, decS p.f2].length = 3 from rfl)]
 show (if (numP (decS p.f1)).2 = true then (if (numP (decS p.f2)).2 = true then some (⟨p.f0, (numP (decS p.f1)).1, (numP (decS p.f2)).1⟩ : S93) else none) else none) = some p
 rw [numP_dec (n := p.f1) (by omega) (by omega), numP_dec (n := p.f2) (by omega) (by omega)]
 rfl
theorem toList_nil {w : ByteArray} (h : w.toList = ([] : List UInt8)) : w.size = 0 := by
 have := bl_inj (x := w) (y := (⟨#[]⟩ : ByteArray)) (h.trans (by rw [ByteArray.toList_eq]))
 rw [this]; rfl
theorem isd_sd {p : S48} (h : sideB p = true) : isd (sdT p) = some p := by
 have hz := sdT_size h
 unfold isd
 rw [if_neg (fun k => by have := toList_nil k; omega), sdT_tail, sdT_head]
 obtain ⟨f0, f1⟩ := p
 cases f1 <;> rfl
theorem implGetPeaks_loop (l : List ByteArray) (hl : l.length ≤ 100000000) (hs : ∀ w ∈ l, w.size ≤ 1000000000) : ∀ (d i : Nat) (x : List S93), i + d = l.length → x.length ≤ i → Ev (fun k => impl_peaksGet.l0 k x l (l.length : Int) (i : Int)) (resOf x (allOf ipk (l.drop i)))
 | 0, i, x, h, hx => by
  refine Ev.step (f := fun _ => some (x, true)) (fun k => ?_) (Ev.at_ (Ev.now _) (by rw [List.drop_eq_nil_of_le (by omega), allOf, resOf, List.append_nil]))
  simp only [impl_peaksGet.l0, impl_Peak.f]
  rw [if_neg (by omega), if_pos (by omega)]; rfl
 | d + 1, i, x, h, hx => by
  have hi : i < l.length := by omega
  have hw := hs _ (List.getElem_mem hi)
  have hsz := cutS_size 58 l[i] l[i].size
  have e4 : wrap64 ((i : Int) + 1) = ((i + 1 : Nat) : Int) := by rw [w64 (by omega) (by omega)]; omega
  have es : strings_Split.f l[i] (⟨#[58]⟩ : ByteArray) = some (cutS 58 l[i] l[i].size) := split_eq l[i] 58 (by omega)
  refine Ev.step (f := fun k => impl_peaksGet.l0 (k + 1) x l (l.length : Int) (i : Int)) (fun k => rfl) ?_
  simp only [impl_peaksGet.l0]
  rw [rdW l i hi, e4]
  clear e4
  refine Ev.ifp (by omega) (Ev.ifp (by omega) (Ev.ifp (by omega) (Ev.b es ?_)))
  clear es
  rw [List.drop_eq_getElem_cons hi, allOf]
  by_cases h3 : (cutS 58 l[i] l[i].size).length = 3
  ·refine Ev.ifp (by omega) (Ev.ifp (by omega) (Ev.bind (implNum_ev _ (Nat.le_trans (rdOf_size _ _ hsz 1) hw)) (Ev.ifp (by omega) (Ev.bind (implNum_ev _ (Nat.le_trans (rdOf_size _ _ hsz 2) hw)) ?_))))
   rw [ipk, if_pos h3]
   by_cases a : (numP (rdOf ByteArray.empty (cutS 58 l[i] l[i].size) 1)).2 = true
   ·rw [if_pos a]
    refine Ev.ifp a ?_
    by_cases b : (numP (rdOf ByteArray.empty (cutS 58 l[i] l[i].size) 2)).2 = true
    ·rw [if_pos b]
     have ih := implGetPeaks_loop l hl hs d (i + 1) (x ++ [(⟨rdOf ByteArray.empty (cutS 58 l[i] l[i].size) 0, (numP (rdOf ByteArray.empty (cutS 58 l[i] l[i].size) 1)).1, (numP (rdOf ByteArray.empty (cutS 58 l[i] l[i].size) 2)).1⟩ : S93)]) (by omega) (by rw [List.length_append, List.length_singleton]; omega)
     exact Ev.ifp b (Ev.ifp (by omega) (Ev.ifp (by omega) (Ev.at_ ih (res_cons _ _ _).symm)))
    ·rw [if_neg b]
     exact Ev.ifn b (Ev.now _)
   ·rw [if_neg a]
    exact Ev.ifn a (Ev.now _)
  ·rw [ipk, if_neg h3]
   exact Ev.ifn (by omega) (Ev.now _)
theorem implGetSides_loop (l : List ByteArray) (hl : l.length ≤ 100000000) : ∀ (d i : Nat) (x : List S48), i + d = l.length → x.length ≤ i → Ev (fun k => impl_sidesGet.l0 k x l (l.length : Int) (i : Int)) (resOf x (allOf isd (l.drop i)))
 | 0, i, x, h, hx => by
  refine Ev.step (f := fun _ => some (x, true)) (fun k => ?_) (Ev.at_ (Ev.now _) (by rw [List.drop_eq_nil_of_le (by omega), allOf, resOf, List.append_nil]))
  simp only [impl_sidesGet.l0, impl_Side.f]
  rw [if_neg (by omega), if_pos (by omega)]; rfl
 | d + 1, i, x, h, hx => by
  have hi : i < l.length := by omega
  have e4 : wrap64 ((i : Int) + 1) = ((i + 1 : Nat) : Int) := by rw [w64 (by omega) (by omega)]; omega
  refine Ev.step (f := fun k => impl_sidesGet.l0 (k + 1) x l (l.length : Int) (i : Int)) (fun k => rfl) ?_
  simp only [impl_sidesGet.l0]
  rw [rdW l i hi, e4]
  clear e4
  refine Ev.ifp (by omega) (Ev.ifp (by omega) (Ev.ifp (by omega) ?_))
  rw [List.drop_eq_getElem_cons hi, allOf]
  by_cases h0 : l[i].toList = ([] : List UInt8)
  ·rw [isd, if_pos h0]
   exact Ev.ifp h0 (Ev.now _)
  ·have hp : 0 < l[i].size := by
    rcases Nat.eq_zero_or_pos l[i].size with h1 | h1
    ·refine absurd ?_ h0
     have : l[i] = (⟨#[]⟩ : ByteArray) := bytes_inj (List.eq_nil_of_length_eq_zero (by rw [bytes_len]; exact h1))
     rw [this, ByteArray.toList_eq]
    ·exact h1
   have ih := implGetSides_loop l hl d (i + 1) (x ++ [(⟨l[i].extract 1 l[i].size, (bt l[i] 0 == 108)⟩ : S48)]) (by omega) (by rw [List.length_append, List.length_singleton]; omega)
   rw [isd, if_neg h0]
   refine Ev.ifn h0 (Ev.ifp (by omega) ?_)
   by_cases a : bt l[i] 0 = 108
   ·rw [if_pos a]
    exact Ev.ifp a (Ev.ifp (by omega) (Ev.ifp (by omega) (Ev.at_ ih (res_cons _ _ _).symm)))
   ·rw [if_neg a]
    refine Ev.ifn a ?_
    by_cases b : bt l[i] 0 = 114
    ·rw [if_pos b]
     exact Ev.ifp b (Ev.ifp (by omega) (Ev.ifp (by omega) (Ev.at_ ih (res_cons _ _ _).symm)))
    ·rw [if_neg b]
     exact Ev.ifn b (Ev.now _)
def rowGet (word line : ByteArray) : List S93 × Bool := if (rdOf ByteArray.empty (cutS 32 line line.size) 0).toList = word.toList then resOf [] (allOf ipk ((cutS 32 line line.size).drop 1)) else ([], false)
def sdsGet (line : ByteArray) : List S48 × Bool := if (rdOf ByteArray.empty (cutS 32 line line.size) 0).toList = ([115, 105, 100, 101, 115] : List UInt8) then resOf [] (allOf isd ((cutS 32 line line.size).drop 1)) else ([], false)
theorem implPeaksGet_ev (word line : ByteArray) (hs : line.size ≤ 1048576) : Ev (fun k => impl_peaksGet.f k word line) (rowGet word line) := by
 have es : strings_Split.f line (⟨#[32]⟩ : ByteArray) = some (cutS 32 line line.size) := split_eq line 32 (by omega)
 have hl := cutS_len 32 line line.size
 have hw := words_len line
 unfold impl_peaksGet.f rowGet
 refine Ev.b es (Ev.ifp (by omega) ?_)
 by_cases a : (rdOf ByteArray.empty (cutS 32 line line.size) 0).toList = word.toList
 ·rw [if_pos a]
  exact Ev.ifp a (Ev.ifp (by omega) (Ev.b rfl (implGetPeaks_loop _ (by omega) (fun w h => Nat.le_trans (words_size line w h) (by omega)) _ 0 [] (Nat.zero_add _) (Nat.zero_le _))))
 ·rw [if_neg a]
  exact Ev.ifn a (Ev.now _)
theorem implSidesGet_ev (line : ByteArray) (hs : line.size ≤ 1048576) : Ev (fun k => impl_sidesGet.f k line) (sdsGet line) := by
 have es : strings_Split.f line (⟨#[32]⟩ : ByteArray) = some (cutS 32 line line.size) := split_eq line 32 (by omega)
 have hl := cutS_len 32 line line.size
 have hw := words_len line
 unfold impl_sidesGet.f sdsGet
 refine Ev.b es (Ev.ifp (by omega) ?_)
 by_cases a : (rdOf ByteArray.empty (cutS 32 line line.size) 0).toList = ([115, 105, 100, 101, 115] : List UInt8)
 ·rw [if_pos a]
  exact Ev.ifp a (Ev.ifp (by omega) (Ev.b rfl (implGetSides_loop _ (by omega) _ 0 [] (Nat.zero_add _) (Nat.zero_le _))))
 ·rw [if_neg a]
  exact Ev.ifn a (Ev.now _)
theorem rowGet_facts (word line : ByteArray) : (rowGet word line).1.length ≤ line.size ∧ ∀ p ∈ (rowGet word line).1, p.f0.size ≤ line.size := by
 unfold rowGet
 split
 ·have := resOf_facts (g := fun p : S93 => p.f0.size) ipk_size line.size _ (words_size line)
  exact ⟨Nat.le_trans this.1 (words_len line), this.2⟩
 ·exact ⟨Nat.zero_le _, fun p hp => absurd hp List.not_mem_nil⟩
theorem sdsGet_facts (line : ByteArray) : (sdsGet line).1.length ≤ line.size ∧ ∀ p ∈ (sdsGet line).1, p.f0.size ≤ line.size := by
 unfold sdsGet
 split
 ·have := resOf_facts (g := fun p : S48 => p.f0.size) isd_size line.size _ (words_size line)
  exact ⟨Nat.le_trans this.1 (words_len line), this.2⟩
 ·exact ⟨Nat.zero_le _, fun p hp => absurd hp List.not_mem_nil⟩
theorem implJ_flag (s : ByteArray) (a : List ByteArray) : Ev (fun k => impl_PaidGet.j0 k s a true) noPaid := by
 refine Ev.step (f := fun _ => some noPaid) (fun k => ?_) (Ev.now _)
 simp only [impl_PaidGet.j0]
 rw [if_pos trivial]
theorem implPaidGet_no (s : ByteArray) (hs : s.size ≤ 1048576) (hW : ¬ Written s) : Ev (fun k => impl_PaidGet.f k s) noPaid := by
 have es : strings_Split.f s (⟨#[10]⟩ : ByteArray) = some (cutS 10 s s.size) := split_eq s 10 (by omega)
 have hz := cutS_size 10 s s.size
 have hn := cutS_len 10 s s.size
 have z0 := rdOf_size _ _ hz 0
 have z1 := rdOf_size _ _ hz 1
 have z2 := rdOf_size _ _ hz 2
 have z3 := rdOf_size _ _ hz 3
 unfold impl_PaidGet.f
 refine Ev.b es ?_
 clear es
 generalize cutS 10 s s.size = L at *
 by_cases hl : L.length = 5
 ·refine Ev.ifp (by omega) (Ev.ifp (by omega) ?_)
  generalize ((rdOf ByteArray.empty L 4).toList != ([] : List UInt8)) = fl
  cases fl with
  | true => exact implJ_flag _ _
  | false =>
   refine Ev.step (f := fun k => impl_PaidGet.j0 (k + 1) s L false) (fun k => rfl) ?_
   simp only [impl_PaidGet.j0]
   generalize rdOf ByteArray.empty L 0 = L0 at *
   generalize rdOf ByteArray.empty L 1 = L1 at *
   generalize rdOf ByteArray.empty L 2 = L2 at *
   generalize rdOf ByteArray.empty L 3 = L3 at *
   have hc := cut_one_size L0 32
   have ec : strings_Cut.f L0 (⟨#[32]⟩ : ByteArray) = some (Sh.cutS L0 (⟨#[32]⟩ : ByteArray)) := by unfold strings_Cut.f; rw [if_pos (by omega)]
   refine Ev.ifn (by simp) (Ev.ifp (by omega) (Ev.b ec ?_))
   clear ec
   generalize Sh.cutS L0 (⟨#[32]⟩ : ByteArray) = W at *
   have f1 := rowGet_facts (⟨#[112, 101, 97, 107, 115]⟩ : ByteArray) L1
   have f2 := rowGet_facts (⟨#[115, 116, 101, 112, 115]⟩ : ByteArray) L2
   have f3 := sdsGet_facts L3
   have hh := headGet_size W.2.1
   refine Ev.bind (implNum_ev W.1 (by omega)) (Ev.bind (implHeadGet_ev W.2.1 (by omega)) (Ev.ifp (by omega) (Ev.bind (implPeaksGet_ev _ L1 (by omega)) (Ev.ifp (by omega) (Ev.bind (implPeaksGet_ev _ L2 (by omega)) (Ev.ifp (by omega) (Ev.bind (implSidesGet_ev L3 (by omega)) ?_)))))))
   generalize rowGet (⟨#[112, 101, 97, 107, 115]⟩ : ByteArray) L1 = pl at *
   generalize rowGet (⟨#[115, 116, 101, 112, 115]⟩ : ByteArray) L2 = pm at *
   generalize sdsGet L3 = pq at *
   generalize numP W.1 = at_ at *
   generalize headGet W.2.1 = hd at *
   obtain ⟨hp, hr, hx, hy, hz', ok⟩ := hd
   obtain ⟨pl, b1⟩ := pl
   obtain ⟨pm, b2⟩ := pm
   obtain ⟨pq, b3⟩ := pq
   obtain ⟨at_, b0⟩ := at_
   have ho := implPaidPut_ev at_ hp hr hx hy hz' pl pm pq ⟨Nat.le_trans hh.1 (by omega), Nat.le_trans hh.2 (by omega)⟩ ⟨Nat.le_trans f1.1 (by omega), fun p hp => Nat.le_trans (f1.2 p hp) (by omega)⟩ ⟨Nat.le_trans f2.1 (by omega), fun p hp => Nat.le_trans (f2.2 p hp) (by omega)⟩ ⟨Nat.le_trans f3.1 (by omega), fun p hp => Nat.le_trans (f3.2 p hp) (by omega)⟩
   by_cases a0 : b0 = true
   ·refine Ev.ifp a0 ?_
    by_cases a1 : ok = true
    ·refine Ev.ifp a1 ?_
     by_cases a2 : b1 = true
     ·refine Ev.ifp a2 ?_
      by_cases a3 : b2 = true
      ·refine Ev.ifp a3 ?_
       by_cases a4 : b3 = true
       ·refine Ev.ifp a4 (Ev.bind ho (Ev.ifn (fun h => ?_) (Ev.now _)))
        by_cases hb : paidB at_ hp hr hx hy hz' pl pm pq = true
        ·rw [paidPut_pos hb] at h
         exact hW ⟨at_, hp, hr, hx, hy, hz', pl, pm, pq, hb, bl_inj h.symm⟩
        ·rw [paidPut_neg hb] at h
         have := bl_inj h
         rw [← this] at hn
         rw [hn] at hl
         exact absurd hl (by decide)
       ·exact Ev.ifn a4 (Ev.now _)
      ·exact Ev.ifn a3 (Ev.now _)
     ·exact Ev.ifn a2 (Ev.now _)
    ·exact Ev.ifn a1 (Ev.now _)
   ·exact Ev.ifn a0 (Ev.now _)
 ·exact Ev.ifn (by omega) (implJ_flag _ _)
section
variable {at_ : Int} {p r : ByteArray} {x y z : Int} {l m : List S93} {q : List S48} (h : paidB at_ p r x y z l m q = true)
include h
theorem rowGet1 : rowGet (⟨#[112, 101, 97, 107, 115]⟩ : ByteArray) (strOfNums (line1 l)) = (l, true) := by
 unfold rowGet
 rw [row1 h, if_pos (show (rdOf ByteArray.empty ((⟨#[112, 101, 97, 107, 115]⟩ : ByteArray) :: l.map pkT) 0).toList = (⟨#[112, 101, 97, 107, 115]⟩ : ByteArray).toList from rfl), List.drop_one, List.tail_cons, allOf_map l (fun a ha => ipk_pk (range_pk ((paidB_iff at_ p r x y z l m q).1 h).2.2.1 a ha))]; rfl
theorem rowGet2 : rowGet (⟨#[115, 116, 101, 112, 115]⟩ : ByteArray) (strOfNums (line2 m)) = (m, true) := by
 unfold rowGet
 rw [row2 h, if_pos (show (rdOf ByteArray.empty ((⟨#[115, 116, 101, 112, 115]⟩ : ByteArray) :: m.map pkT) 0).toList = (⟨#[115, 116, 101, 112, 115]⟩ : ByteArray).toList from rfl), List.drop_one, List.tail_cons, allOf_map m (fun a ha => ipk_pk (List.all_eq_true.1 ((paidB_iff at_ p r x y z l m q).1 h).2.2.2.2.2.1 a ha))]; rfl
theorem sdsGet3 : sdsGet (strOfNums (line3 q)) = (q, true) := by
 unfold sdsGet
 rw [row3 h, if_pos (by show (⟨#[115, 105, 100, 101, 115]⟩ : ByteArray).toList = _; rw [ByteArray.toList_eq]), List.drop_one, List.tail_cons, allOf_map q (fun a ha => isd_sd (List.all_eq_true.1 ((paidB_iff at_ p r x y z l m q).1 h).2.2.2.2.2.2 a ha))]; rfl
theorem implPaidGet_yes (hs : (strOfNums (paidL at_ p r x y z l m q)).size ≤ 1048576) : Ev (fun k => impl_PaidGet.f k (strOfNums (paidL at_ p r x y z l m q))) (at_, p, r, x, y, z, l, m, q, true) := by
 have h1 := (paidB_iff at_ p r x y z l m q).1 h
 obtain ⟨z0, z1, z2, z3⟩ := line_sizes h
 have h4 : 4 ≤ (strOfNums (paidL at_ p r x y z l m q)).size := by
  rw [str_size, paidL_lines]
  simp only [List.length_append, List.length_cons]; omega
 have es : strings_Split.f (strOfNums (paidL at_ p r x y z l m q)) (⟨#[10]⟩ : ByteArray) = some (cutS 10 (strOfNums (paidL at_ p r x y z l m q)) (strOfNums (paidL at_ p r x y z l m q)).size) := split_eq _ 10 (by omega)
 rw [cutS_lines h _ h4] at es
 have c1 := cut_one (strOfNums (line0 at_ p r x y z)) 32
 rw [show (((32 : UInt8).toNat : Nat) : Int) = 32 from rfl, cutS_line0 h] at c1
 have ec : strings_Cut.f (strOfNums (line0 at_ p r x y z)) (⟨#[32]⟩ : ByteArray) = some (Sh.cutS (strOfNums (line0 at_ p r x y z)) (⟨#[32]⟩ : ByteArray)) := by unfold strings_Cut.f; rw [if_pos (by omega)]
 rcases c1 with ⟨c1, _⟩ | ⟨c1, _⟩
 rotate_left
 ·exact absurd (congrArg List.length c1) (by simp)
 injection c1 with c2 c3
 injection c3 with c3 _
 have e1 := implPeaksGet_ev (⟨#[112, 101, 97, 107, 115]⟩ : ByteArray) (strOfNums (line1 l)) (by omega)
 rw [rowGet1 h] at e1
 have e2 := implPeaksGet_ev (⟨#[115, 116, 101, 112, 115]⟩ : ByteArray) (strOfNums (line2 m)) (by omega)
 rw [rowGet2 h] at e2
 have e3 := implSidesGet_ev (strOfNums (line3 q)) (by omega)
 rw [sdsGet3 h] at e3
 have b1 := words_len (strOfNums (line1 l))
 rw [row1 h, List.drop_one, List.tail_cons, List.length_map] at b1
 have hsz := headS_size h1.2.1
 have eh := implHeadGet_ev (headS p r x y z) (by omega)
 rw [headGet_put h1.2.1] at eh
 have hd := dec_small (n := at_) (by omega)
 have en := implNum_ev (decS at_) (by omega)
 rw [numP_dec (by omega) (by omega)] at en
 have fp := headB_size h1.2.1
 have pf : ∀ a ∈ l, a.f0.size ≤ 1048576 := fun a ha => by have := pkS_facts (range_pk h1.2.2.1 a ha); omega
 have mf : ∀ a ∈ m, a.f0.size ≤ 1048576 := fun a ha => by have := pkS_facts (List.all_eq_true.1 h1.2.2.2.2.2.1 a ha); omega
 have qf : ∀ a ∈ q, a.f0.size ≤ 1048576 := fun a ha => by
  have := ((sumB_iff _).1 (List.all_eq_true.1 h1.2.2.2.2.2.2 a ha)).2
  rw [bytes_len] at this; omega
 have ho := implPaidPut_ev at_ p r x y z l m q ⟨by omega, by omega⟩ ⟨by omega, pf⟩ ⟨by omega, mf⟩ ⟨by omega, qf⟩
 rw [paidPut_pos h] at ho
 generalize strOfNums (paidL at_ p r x y z l m q) = s at *
 generalize Sh.cutS (strOfNums (line0 at_ p r x y z)) (⟨#[32]⟩ : ByteArray) = W at *
 obtain ⟨w1, w2, w3⟩ := W
 obtain rfl : decS at_ = w1 := c2
 obtain rfl : headS p r x y z = w2 := c3
 have J : Ev (fun k => impl_PaidGet.j0 k s [strOfNums (line0 at_ p r x y z), strOfNums (line1 l), strOfNums (line2 m), strOfNums (line3 q), (⟨#[]⟩ : ByteArray)] false) (at_, p, r, x, y, z, l, m, q, true) := by
  refine Ev.step (f := fun k => impl_PaidGet.j0 (k + 1) s [strOfNums (line0 at_ p r x y z), strOfNums (line1 l), strOfNums (line2 m), strOfNums (line3 q), (⟨#[]⟩ : ByteArray)] false) (fun k => rfl) ?_
  simp only [impl_PaidGet.j0]
  exact Ev.ifn (by simp) (Ev.ifp (by simp) (Ev.b ec (Ev.bind en (Ev.bind eh (Ev.ifp (by simp) (Ev.bind e1 (Ev.ifp (by simp) (Ev.bind e2 (Ev.ifp (by simp) (Ev.bind e3 (Ev.ifp rfl (Ev.ifp rfl (Ev.ifp rfl (Ev.ifp rfl (Ev.ifp rfl (Ev.bind ho (Ev.ifp rfl (Ev.now _))))))))))))))))))
 have hf : ((rdOf ByteArray.empty [strOfNums (line0 at_ p r x y z), strOfNums (line1 l), strOfNums (line2 m), strOfNums (line3 q), (⟨#[]⟩ : ByteArray)] 4).toList != ([] : List UInt8)) = false := by
  show ((⟨#[]⟩ : ByteArray).toList != ([] : List UInt8)) = false
  rw [ByteArray.toList_eq]; rfl
 unfold impl_PaidGet.f
 refine Ev.b es (Ev.ifp (by simp) (Ev.ifp (by simp) ?_))
 rw [hf]
 exact J
end
theorem coPeaks_loop (l : List S93) (hl : l.length ≤ 1048576) (d : Nat) : ∀ (i : Nat), i + d = l.length → Ev (fun k => laws_coPeaks.l0 k l l (i : Int)) true := by
 induction d with
 | zero =>
  intro i h
  refine Ev.step (f := fun _ => some true) (fun k => ?_) (Ev.now _)
  simp only [laws_coPeaks.l0]
  rw [if_neg (by omega)]
 | succ d ih =>
  intro i h
  refine Ev.step (f := fun k => laws_coPeaks.l0 k l l ((i + 1 : Nat) : Int)) (fun k => ?_) (ih (i + 1) (by omega))
  simp only [laws_coPeaks.l0]
  rw [if_pos (by omega), if_pos (by omega), if_pos (by omega), if_neg (by simp), w64 (by omega) (by omega)]
  rfl
theorem coPeaks_ev (l : List S93) (hl : l.length ≤ 1048576) : Ev (fun k => laws_coPeaks.f k l l) true := by
 unfold laws_coPeaks.f
 exact Ev.ifp rfl (coPeaks_loop l hl l.length 0 (by omega))
theorem coSides_loop (l : List S48) (hl : l.length ≤ 1048576) (d : Nat) : ∀ (i : Nat), i + d = l.length → Ev (fun k => laws_coSides.l0 k l l (i : Int)) true := by
 induction d with
 | zero =>
  intro i h
  refine Ev.step (f := fun _ => some true) (fun k => ?_) (Ev.now _)
  simp only [laws_coSides.l0]
  rw [if_neg (by omega)]
 | succ d ih =>
  intro i h
  refine Ev.step (f := fun k => laws_coSides.l0 k l l ((i + 1 : Nat) : Int)) (fun k => ?_) (ih (i + 1) (by omega))
  simp only [laws_coSides.l0]
  rw [if_pos (by omega), if_pos (by omega), if_pos (by omega), if_neg (by simp), w64 (by omega) (by omega)]
  rfl
theorem coSides_ev (l : List S48) (hl : l.length ≤ 1048576) : Ev (fun k => laws_coSides.f k l l) true := by
 unfold laws_coSides.f
 exact Ev.ifp rfl (coSides_loop l hl l.length 0 (by omega))
theorem coPaid_ev (at_ : Int) (s t : ByteArray) (x y z : Int) (l m : List S93) (q : List S48) (hl : l.length ≤ 1048576) (hm : m.length ≤ 1048576) (hq : q.length ≤ 1048576) :
  Ev (fun k => laws_coPaid.f k at_ s t x y z l m q at_ s t x y z l m q) true := by
 have e : Ev (fun k => laws_coProof.f k l m l m) true := by
  unfold laws_coProof.f
  exact Ev.bind (coPeaks_ev l hl) (Ev.ifp rfl (Ev.bind (coPeaks_ev m hm) (Ev.now _)))
 unfold laws_coPaid.f
 exact Ev.ifp rfl (Ev.ifp (by simp) (Ev.bind e (Ev.ifp rfl (Ev.bind (coSides_ev q hq) (Ev.now _)))))
def Code (b : List Int) : Prop := (∀ x ∈ b, 0 ≤ x ∧ x ≤ 255) ∧ b.length ≤ 2000
theorem open_ev {l : List Int} (h : ∀ x ∈ l, 0 ≤ x ∧ x ≤ 255) : ∃ b, spec_l20Open.f l = some (b, 0) ∧ Code b := by
 unfold spec_l20Open.f
 by_cases hl : (l.length : Int) > 2000
 ·rw [if_pos hl, if_pos (by omega)]
  exact ⟨_, rfl, fun x hx => h x (List.mem_of_mem_take hx), by rw [List.length_take]; omega⟩
 ·rw [if_neg hl]
  exact ⟨_, rfl, h, by omega⟩
theorem tmod_range {a b : Int} (h0 : 0 ≤ a) (hb : 0 < b) : 0 ≤ Int.tmod a b ∧ Int.tmod a b < b := by
 rw [Int.tmod_eq_emod_of_nonneg h0]
 exact ⟨Int.emod_nonneg _ (by omega), Int.emod_lt_of_pos _ hb⟩
theorem mixed {b : List Int} (hb : Code b) {p : Int} (h0 : 0 ≤ p) (h1 : p ≤ 1099511627776) (hl : 0 < b.length) (i j : Int) :
  ∃ x, wrap64 (wrap64 (wrap64 (wrap64 (wrap64 (rd b i) * 131) + wrap64 (wrap64 (rd b j) * 1117)) + wrap64 (p * 29)) + wrap64 (wrap64 (Int.tdiv p (b.length : Int)) * 53)) = x ∧ 0 ≤ x ∧ x < 4611686018427387904 := by
 have hi := rd_range hb.1 i
 have hj := rd_range hb.1 j
 have hd : 0 ≤ Int.tdiv p (b.length : Int) ∧ Int.tdiv p (b.length : Int) ≤ p := by
  rw [Int.tdiv_eq_ediv_of_nonneg h0]
  exact ⟨Int.ediv_nonneg h0 (by omega), Int.ediv_le_self _ h0⟩
 generalize rd b i = u at *
 generalize rd b j = v at *
 generalize Int.tdiv p (b.length : Int) = q at *
 refine ⟨u * 131 + v * 1117 + p * 29 + q * 53, ?_, by omega, by omega⟩
 rw [w64 (i := u) (by omega) (by omega), w64 (i := u * 131) (by omega) (by omega), w64 (i := v) (by omega) (by omega), w64 (i := v * 1117) (by omega) (by omega), w64 (i := u * 131 + v * 1117) (by omega) (by omega),
  w64 (i := p * 29) (by omega) (by omega), w64 (i := u * 131 + v * 1117 + p * 29) (by omega) (by omega), w64 (i := q) (by omega) (by omega), w64 (i := q * 53) (by omega) (by omega), w64 (by omega) (by omega)]
theorem pick_ev {b : List Int} (hb : Code b) (p n : Int) (h0 : 0 ≤ p) (h1 : p ≤ 1099511627776) : ∃ v, Ev (fun k => spec_l20Rd_pick.f k b p n) (v, p + 1) ∧ 0 ≤ v ∧ (1 ≤ n → v < n) ∧ (n < 1 → v = 0) := by
 have hw : wrap64 (p + 1) = p + 1 := w64 (by omega) (by omega)
 unfold spec_l20Rd_pick.f
 by_cases hn : n < 1
 ·refine ⟨0, Ev.ifp hn ?_, by omega, by omega, fun _ => rfl⟩
  rw [hw]
  refine Ev.step (f := fun _ => some (0, p + 1)) (fun k => ?_) (Ev.now _)
  simp only [spec_l20Rd_pick.j0]; rw [if_pos trivial]
 ·by_cases hl : b.length = 0
  ·have e : ((b.length : Int) == 0) = true := by rw [beq_iff_eq]; omega
   refine ⟨0, Ev.ifn hn ?_, by omega, by omega, fun _ => rfl⟩
   rw [hw, e]
   refine Ev.step (f := fun _ => some (0, p + 1)) (fun k => ?_) (Ev.now _)
   simp only [spec_l20Rd_pick.j0]; rw [if_pos trivial]
  ·have e : ((b.length : Int) == 0) = false := by rw [beq_eq_false_iff_ne]; omega
   have hw1 : wrap64 (p + 1 - 1) = p := by clear hw; exact (w64 (by omega) (by omega)).trans (by omega)
   have hn0 : ¬ n = 0 := by clear hw hw1; omega
   have hl0 : ¬ (b.length : Int) = 0 := by clear hw hw1; omega
   by_cases hp : p < (b.length : Int)
   ·have hr := rd_range hb.1 p
    have hwr : wrap64 (rd b p) = rd b p := by clear hw hw1; exact w64 (by omega) (by omega)
    have ht := tmod_range hr.1 (show 0 < n by clear hw hw1 hwr; omega)
    refine ⟨Int.tmod (rd b p) n, Ev.ifn hn ?_, ht.1, fun _ => ht.2, fun h => absurd h hn⟩
    rw [hw, e]
    refine Ev.step (f := fun _ => some (Int.tmod (rd b p) n, p + 1)) (fun k => ?_) (Ev.now _)
    simp only [spec_l20Rd_pick.j0]; rw [if_neg (by simp), hw1, if_pos hp, if_pos h0, if_neg hn0, hwr]
   ·have hlp : 0 < (b.length : Int) := by clear hw hw1; omega
    have t1 := tmod_range h0 hlp
    have hq : wrap64 (wrap64 (p * 7) + 3) = p * 7 + 3 := by clear hw hw1; rw [w64 (i := p * 7) (by omega) (by omega)]; exact w64 (by omega) (by omega)
    have t2 := tmod_range (show 0 ≤ p * 7 + 3 by clear hw hw1 hq; omega) hlp
    obtain ⟨x, hx, hx0, hx1⟩ := mixed hb h0 h1 (show 0 < b.length by clear hw hw1 hq; omega) (Int.tmod p (b.length : Int)) (Int.tmod (p * 7 + 3) (b.length : Int))
    have hd0 : 0 ≤ x / 64 := by clear hx hw hw1 hq; omega
    have hd1 : x / 64 < 4611686018427387904 := by clear hx hw hw1 hq; omega
    have hdx : wrap64 (Int.tdiv x 64) = x / 64 := by rw [Int.tdiv_eq_ediv_of_nonneg hx0]; clear hx hw hw1 hq; exact w64 (by omega) (by omega)
    have hxo := xor64 hx0 hx1 hd0 hd1
    have ht := tmod_range hxo.1 (show 0 < n by clear hx hdx hw hw1 hq; omega)
    refine ⟨Int.tmod (Go.bits .xor .i64 x (x / 64)) n, Ev.ifn hn ?_, ht.1, fun _ => ht.2, fun h => absurd h hn⟩
    rw [hw, e]
    refine Ev.step (f := fun _ => some (Int.tmod (Go.bits .xor .i64 x (x / 64)) n, p + 1)) (fun k => ?_) (Ev.now _)
    simp only [spec_l20Rd_pick.j0]
    rw [if_neg (by simp), hw1, if_neg hp, if_neg hl0, if_pos t1.1, if_pos t1.2, hq, if_pos t2.1, if_pos t2.2, if_neg hn0, hx, hdx]
theorem pick_lt {b : List Int} (hb : Code b) (p n : Int) (h0 : 0 ≤ p) (h1 : p ≤ 1099511627776) (hn : 1 ≤ n) : ∃ v, Ev (fun k => spec_l20Rd_pick.f k b p n) (v, p + 1) ∧ 0 ≤ v ∧ v < n := by
 obtain ⟨v, h, h2, h3, _⟩ := pick_ev hb p n h0 h1
 exact ⟨v, h, h2, h3 hn⟩
theorem one_ev {b : List Int} (hb : Code b) (p : Int) (l : List Int) (h0 : 0 ≤ p) (h1 : p ≤ 1099511627776) (hl : 1 ≤ (l.length : Int)) : ∃ x, x ∈ l ∧ Ev (fun k => spec_l20Rd_one.f k b p l) (x, p + 1) := by
 obtain ⟨v, hv, hv0, hv1⟩ := pick_lt hb p (l.length : Int) h0 h1 hl
 refine ⟨rd l v, rd_mem v hv0 hv1, ?_⟩
 unfold spec_l20Rd_one.f
 exact Ev.bind hv (Ev.ifp hv0 (Ev.ifp hv1 (Ev.now _)))
theorem of_ev {b : List Int} (hb : Code b) (p : Int) (l : List ByteArray) (h0 : 0 ≤ p) (h1 : p ≤ 1099511627776) (hl : 1 ≤ (l.length : Int)) : ∃ x, x ∈ l ∧ Ev (fun k => spec_l20Rd_of.f k b p l) (x, p + 1) := by
 obtain ⟨v, hv, hv0, hv1⟩ := pick_lt hb p (l.length : Int) h0 h1 hl
 refine ⟨rdOf ByteArray.empty l v, rdOf_mem _ v hv0 hv1, ?_⟩
 unfold spec_l20Rd_of.f
 exact Ev.bind hv (Ev.ifp hv0 (Ev.ifp hv1 (Ev.now _)))
theorem item_ev {b : List Int} (hb : Code b) (p : Int) (h0 : 0 ≤ p) (h1 : p ≤ 1099511627776) : ∃ s, Ev (fun k => spec_l20Item.f k b p) (s, p + 1) ∧ s.size ≤ 8 := by
 obtain ⟨x, hm, hx⟩ := of_ev hb p ([(⟨#[97]⟩ : ByteArray), (⟨#[98]⟩ : ByteArray), (⟨#[99]⟩ : ByteArray), (⟨#[100]⟩ : ByteArray), (⟨#[97, 110, 110]⟩ : ByteArray), (⟨#[98, 111, 98]⟩ : ByteArray), (⟨#[99, 121, 100]⟩ : ByteArray), (⟨#[120, 49]⟩ : ByteArray), (⟨#[120, 50]⟩ : ByteArray), (⟨#[120, 51]⟩ : ByteArray), (⟨#[122, 122]⟩ : ByteArray), (⟨#[108, 111, 110, 103, 110, 97, 109, 101]⟩ : ByteArray)] : List ByteArray) h0 h1 (by decide)
 refine ⟨x, ?_, ?_⟩
 ·unfold spec_l20Item.f
  exact Ev.bind hx (Ev.now _)
 ·simp only [List.mem_cons, List.not_mem_nil, or_false] at hm
  rcases hm with rfl | rfl | rfl | rfl | rfl | rfl | rfl | rfl | rfl | rfl | rfl | rfl <;> decide
theorem and_range (x : Int) {y : Int} (h0 : 0 ≤ y) (h1 : y ≤ 4294967295) : 0 ≤ Go.bits .and .i64 x y ∧ Go.bits .and .i64 x y ≤ y := by
 have e : Go.bits .and .i64 x y = (((BitVec.ofInt 64 x).toNat &&& y.toNat : Nat) : Int) := by
  show IntKind.i64.wrap ((BitVec.ofInt 64 x &&& BitVec.ofInt 64 y).toNat : Int) = _
  rw [BitVec.toNat_and, bitvec_toNat h0 (by omega), i64_w]
  have hle : (BitVec.ofInt 64 x).toNat &&& y.toNat ≤ y.toNat := Nat.and_le_right
  exact w64 (by omega) (by omega)
 have hle : (BitVec.ofInt 64 x).toNat &&& y.toNat ≤ y.toNat := Nat.and_le_right
 rw [e]
 omega
theorem turn_some (a c : Int) (h0 : 0 ≤ c) (h1 : c ≤ 32) : ∃ t, spec_l1Turn.f a c = some t := by
 unfold spec_l1Turn.f
 rw [if_pos h0, w64 (i := 32 - c) (by omega) (by omega), if_pos (by omega)]
 exact ⟨_, rfl⟩
theorem mix_l1 (x0 x18 : List Int) (h8 : 8 ≤ x0.length) (h18 : x18.length = 8) (d : Nat) : ∀ (i : Nat) (x19 : List Int), i + d = 8 → x19.length = 8 → (∀ x ∈ x19, 0 ≤ x ∧ x ≤ 4294967295) →
  ∃ r, Ev (fun k => spec_l1Mix.l1 k x0 x18 x19 (i : Int)) r ∧ r.length = 8 ∧ ∀ x ∈ r, 0 ≤ x ∧ x ≤ 4294967295 := by
 induction d with
 | zero =>
  intro i x19 hi h19 hr
  refine ⟨x19, Ev.step (f := fun _ => some x19) (fun k => ?_) (Ev.now _), h19, hr⟩
  simp only [spec_l1Mix.l1]; rw [if_neg (by omega)]
 | succ d ih =>
  intro i x19 hi h19 hr
  have hi1 : ((i + 1 : Nat) : Int) = (i : Int) + 1 := by omega
  have hlt : (i : Int) < 8 := by omega
  have hi0 : (0 : Int) ≤ (i : Int) := by omega
  have l0 : (i : Int) < (x0.length : Int) := by omega
  have l1 : (i : Int) < (x18.length : Int) := by omega
  have l2 : (i : Int) < (x19.length : Int) := by omega
  have hd : i + 1 + d = 8 := by omega
  have hw : wrap64 ((i : Int) + 1) = ((i + 1 : Nat) : Int) := by rw [hi1]; exact w64 (by omega) (by omega)
  have hv := and_range (wrap64 (rd x0 (i : Int) + rd x18 (i : Int))) (y := 4294967295) (by decide) (by decide)
  obtain ⟨r, h, hl, hrr⟩ := ih (i + 1) (x19.set i (Go.bits .and .i64 (wrap64 (rd x0 (i : Int) + rd x18 (i : Int))) 4294967295)) hd (by rw [List.length_set]; exact h19)
   (fun x hx => by rcases List.mem_or_eq_of_mem_set hx with hx | rfl; exact hr x hx; exact hv)
  refine ⟨r, Ev.step (fun k => ?_) h, hl, hrr⟩
  simp only [spec_l1Mix.l1]
  rw [if_pos hlt, if_pos hi0, if_pos l0, if_pos l1, if_pos l2, hw, Int.toNat_natCast]
theorem mix_l0 (x0 x1 x2 : List Int) (h8 : 8 ≤ x0.length) (h1 : x1.length = 64) (h2 : x2.length = 64) (d : Nat) : ∀ (i : Nat) (a b c e f g h j : Int), i + d = 64 →
  ∃ r, Ev (fun k => spec_l1Mix.l0 k x0 x1 x2 a b c e f g h j (i : Int)) r ∧ r.length = 8 ∧ ∀ x ∈ r, 0 ≤ x ∧ x ≤ 4294967295 := by
 induction d with
 | zero =>
  intro i a b c e f g h j hi
  obtain ⟨r, hr, hl, hrr⟩ := mix_l1 x0 [a, b, c, e, f, g, h, j] h8 rfl 8 0 (List.replicate 8 0) (by omega) (by simp) (fun x hx => by rw [List.eq_of_mem_replicate hx]; decide)
  refine ⟨r, Ev.step (fun k => ?_) hr, hl, hrr⟩
  simp only [spec_l1Mix.l0]
  rw [if_neg (by omega), if_pos (by decide)]
  rfl
 | succ d ih =>
  intro i a b c e f g h j hi
  have hi1 : ((i + 1 : Nat) : Int) = (i : Int) + 1 := by omega
  have hlt : (i : Int) < 64 := by omega
  have hi0 : (0 : Int) ≤ (i : Int) := by omega
  have l1 : (i : Int) < (x1.length : Int) := by omega
  have l2 : (i : Int) < (x2.length : Int) := by omega
  have hd : i + 1 + d = 64 := by omega
  have hw : wrap64 ((i : Int) + 1) = ((i + 1 : Nat) : Int) := by rw [hi1]; exact w64 (by omega) (by omega)
  obtain ⟨t1, e1⟩ := turn_some f 6 (by decide) (by decide)
  obtain ⟨t2, e2⟩ := turn_some f 11 (by decide) (by decide)
  obtain ⟨t3, e3⟩ := turn_some f 25 (by decide) (by decide)
  obtain ⟨t4, e4⟩ := turn_some a 2 (by decide) (by decide)
  obtain ⟨t5, e5⟩ := turn_some a 13 (by decide) (by decide)
  obtain ⟨t6, e6⟩ := turn_some a 22 (by decide) (by decide)
  obtain ⟨A, B, hs⟩ : ∃ A B, ∀ k, spec_l1Mix.l0 (k + 1) x0 x1 x2 a b c e f g h j (i : Int) = spec_l1Mix.l0 k x0 x1 x2 A a b c B f g h ((i + 1 : Nat) : Int) := by
   apply Exists.intro
   apply Exists.intro
   intro k
   simp only [spec_l1Mix.l0]
   rw [if_pos hlt, e1, Option.bind_some, e2, Option.bind_some, e3, Option.bind_some, if_pos hi0, if_pos l2, if_pos l1, e4, Option.bind_some, e5, Option.bind_some, e6, Option.bind_some, hw]
  obtain ⟨r, hr, hl, hrr⟩ := ih (i + 1) A a b c B f g h hd
  exact ⟨r, Ev.step hs hr, hl, hrr⟩
theorem mix_ev (x0 x1 x2 : List Int) (h8 : x0.length = 8) (h1 : x1.length = 64) (h2 : x2.length = 64) : ∃ r, Ev (fun k => spec_l1Mix.f k x0 x1 x2) r ∧ r.length = 8 ∧ ∀ x ∈ r, 0 ≤ x ∧ x ≤ 4294967295 := by
 obtain ⟨r, hr, hl, hrr⟩ := mix_l0 x0 x1 x2 (by omega) h1 h2 64 0 (rd x0 0) (rd x0 1) (rd x0 2) (rd x0 3) (rd x0 4) (rd x0 5) (rd x0 6) (rd x0 7) (by omega)
 refine ⟨r, ?_, hl, hrr⟩
 unfold spec_l1Mix.f
 rw [Int.natCast_zero] at hr
 exact Ev.ifp (by omega) (Ev.ifp (by omega) (Ev.ifp (by omega) (Ev.ifp (by omega) (Ev.ifp (by omega) (Ev.ifp (by omega) (Ev.ifp (by omega) (Ev.ifp (by omega) hr)))))))
theorem words_l1 (d : Nat) : ∀ (i : Nat) (x3 : List Int), i + d = 64 → 16 ≤ i → x3.length = 64 → ∃ r, Ev (fun k => spec_l1Words.l1 k x3 (i : Int)) r ∧ r.length = 64 := by
 induction d with
 | zero =>
  intro i x3 hi h16 h3
  refine ⟨x3, Ev.step (f := fun _ => some x3) (fun k => ?_) (Ev.now _), h3⟩
  simp only [spec_l1Words.l1]; rw [if_neg (by omega)]
 | succ d ih =>
  intro i x3 hi h16 h3
  have hi1 : ((i + 1 : Nat) : Int) = (i : Int) + 1 := by omega
  have hlt : (i : Int) < 64 := by omega
  have hi0 : (0 : Int) ≤ (i : Int) := by omega
  have hd : i + 1 + d = 64 := by omega
  have a15 : 0 ≤ (i : Int) - 15 := by omega
  have a2 : 0 ≤ (i : Int) - 2 := by omega
  have a16 : 0 ≤ (i : Int) - 16 := by omega
  have a7 : 0 ≤ (i : Int) - 7 := by omega
  have b15 : (i : Int) - 15 < (x3.length : Int) := by omega
  have b2 : (i : Int) - 2 < (x3.length : Int) := by omega
  have b16 : (i : Int) - 16 < (x3.length : Int) := by omega
  have b7 : (i : Int) - 7 < (x3.length : Int) := by omega
  have b0 : (i : Int) < (x3.length : Int) := by omega
  have w15 : wrap64 ((i : Int) - 15) = (i : Int) - 15 := w64 (by omega) (by omega)
  have w2 : wrap64 ((i : Int) - 2) = (i : Int) - 2 := by clear w15; exact w64 (by omega) (by omega)
  have w16 : wrap64 ((i : Int) - 16) = (i : Int) - 16 := by clear w15 w2; exact w64 (by omega) (by omega)
  have w7 : wrap64 ((i : Int) - 7) = (i : Int) - 7 := by clear w15 w2 w16; exact w64 (by omega) (by omega)
  have hw : wrap64 ((i : Int) + 1) = ((i + 1 : Nat) : Int) := by clear w15 w2 w16 w7; rw [hi1]; exact w64 (by omega) (by omega)
  obtain ⟨t1, e1⟩ := turn_some (rd x3 ((i : Int) - 15)) 7 (by decide) (by decide)
  obtain ⟨t2, e2⟩ := turn_some (rd x3 ((i : Int) - 15)) 18 (by decide) (by decide)
  obtain ⟨t3, e3⟩ := turn_some (rd x3 ((i : Int) - 2)) 17 (by decide) (by decide)
  obtain ⟨t4, e4⟩ := turn_some (rd x3 ((i : Int) - 2)) 19 (by decide) (by decide)
  obtain ⟨A, hs⟩ : ∃ A, ∀ k, spec_l1Words.l1 (k + 1) x3 (i : Int) = spec_l1Words.l1 k (x3.set i A) ((i + 1 : Nat) : Int) := by
   apply Exists.intro
   intro k
   simp only [spec_l1Words.l1]
   rw [if_pos hlt, w15, w2, if_pos a15, if_pos b15, if_pos a2, if_pos b2, e1, Option.bind_some, e2, Option.bind_some, e3, Option.bind_some, e4, Option.bind_some, w16, if_pos a16, if_pos b16, w7, if_pos a7, if_pos b7, if_pos hi0, if_pos b0, hw, Int.toNat_natCast]
  obtain ⟨r, hr, hl⟩ := ih (i + 1) (x3.set i A) hd (by omega) (by rw [List.length_set]; exact h3)
  exact ⟨r, Ev.step hs hr, hl⟩
theorem words_l0 (x0 : List Int) (h0 : x0.length = 64) (d : Nat) : ∀ (i : Nat) (x3 : List Int), i + d = 16 → x3.length = 64 → ∃ r, Ev (fun k => spec_l1Words.l0 k x0 x3 (i : Int)) r ∧ r.length = 64 := by
 induction d with
 | zero =>
  intro i x3 hi h3
  obtain ⟨r, hr, hl⟩ := words_l1 48 16 x3 (by omega) (by omega) h3
  refine ⟨r, Ev.step (fun k => ?_) hr, hl⟩
  simp only [spec_l1Words.l0]; rw [if_neg (by omega)]; rfl
 | succ d ih =>
  intro i x3 hi h3
  have hi1 : ((i + 1 : Nat) : Int) = (i : Int) + 1 := by omega
  have hlt : (i : Int) < 16 := by omega
  have hi0 : (0 : Int) ≤ (i : Int) := by omega
  have hd : i + 1 + d = 16 := by omega
  have a0 : 0 ≤ 4 * (i : Int) := by omega
  have a1 : 0 ≤ 4 * (i : Int) + 1 := by omega
  have a2 : 0 ≤ 4 * (i : Int) + 2 := by omega
  have a3 : 0 ≤ 4 * (i : Int) + 3 := by omega
  have b0 : 4 * (i : Int) < (x0.length : Int) := by omega
  have b1 : 4 * (i : Int) + 1 < (x0.length : Int) := by omega
  have b2 : 4 * (i : Int) + 2 < (x0.length : Int) := by omega
  have b3 : 4 * (i : Int) + 3 < (x0.length : Int) := by omega
  have bi : (i : Int) < (x3.length : Int) := by omega
  have w0 : wrap64 (4 * (i : Int)) = 4 * (i : Int) := w64 (by omega) (by omega)
  have w1 : wrap64 (4 * (i : Int) + 1) = 4 * (i : Int) + 1 := by clear w0; exact w64 (by omega) (by omega)
  have w2 : wrap64 (4 * (i : Int) + 2) = 4 * (i : Int) + 2 := by clear w0 w1; exact w64 (by omega) (by omega)
  have w3 : wrap64 (4 * (i : Int) + 3) = 4 * (i : Int) + 3 := by clear w0 w1 w2; exact w64 (by omega) (by omega)
  have hw : wrap64 ((i : Int) + 1) = ((i + 1 : Nat) : Int) := by clear w0 w1 w2 w3; rw [hi1]; exact w64 (by omega) (by omega)
  obtain ⟨A, hs⟩ : ∃ A, ∀ k, spec_l1Words.l0 (k + 1) x0 x3 (i : Int) = spec_l1Words.l0 k x0 (x3.set i A) ((i + 1 : Nat) : Int) := by
   apply Exists.intro
   intro k
   simp only [spec_l1Words.l0]
   rw [if_pos hlt, w0, if_pos a0, if_pos b0, w1, if_pos a1, if_pos b1, w2, if_pos a2, if_pos b2, w3, if_pos a3, if_pos b3, if_pos hi0, if_pos bi, hw, Int.toNat_natCast]
  obtain ⟨r, hr, hl⟩ := ih (i + 1) (x3.set i A) hd (by rw [List.length_set]; exact h3)
  exact ⟨r, Ev.step hs hr, hl⟩
theorem words_ev (x0 : List Int) (h0 : x0.length = 64) : ∃ r, Ev (fun k => spec_l1Words.f k x0) r ∧ r.length = 64 := by
 obtain ⟨r, hr, hl⟩ := words_l0 x0 h0 16 0 (List.replicate 64 0) (by omega) (by simp)
 refine ⟨r, ?_, hl⟩
 unfold spec_l1Words.f
 rw [Int.natCast_zero] at hr
 exact Ev.ifp (by decide) hr
theorem pad_l1 (m : Nat) (hm : 8 < m) (hm2 : m ≤ 2000000000) (n : Int) (d : Nat) : ∀ (i : Nat) (x3 : List Int), i + d = 8 → x3.length = m → ∃ r, Ev (fun k => spec_l1Pad.l1 k x3 n (i : Int)) r ∧ r.length = m := by
 induction d with
 | zero =>
  intro i x3 hi h3
  refine ⟨x3, Ev.step (f := fun _ => some x3) (fun k => ?_) (Ev.now _), h3⟩
  simp only [spec_l1Pad.l1]; rw [if_neg (by omega)]
 | succ d ih =>
  intro i x3 hi h3
  have hi1 : ((i + 1 : Nat) : Int) = (i : Int) + 1 := by omega
  have hlt : (i : Int) < 8 := by omega
  have hd : i + 1 + d = 8 := by omega
  have a0 : 0 ≤ 8 * (i : Int) := by omega
  have hxl : (x3.length : Int) = (m : Int) := by omega
  have a1 : 0 ≤ (m : Int) - 1 - (i : Int) := by omega
  have b1 : (m : Int) - 1 - (i : Int) < (m : Int) := by omega
  have w0 : wrap64 (8 * (i : Int)) = 8 * (i : Int) := w64 (by omega) (by omega)
  have w1 : wrap64 ((m : Int) - 1) = (m : Int) - 1 := by clear w0; exact w64 (by omega) (by omega)
  have w2 : wrap64 ((m : Int) - 1 - (i : Int)) = (m : Int) - 1 - (i : Int) := by clear w0 w1; exact w64 (by omega) (by omega)
  have hw : wrap64 ((i : Int) + 1) = ((i + 1 : Nat) : Int) := by clear w0 w1 w2; rw [hi1]; exact w64 (by omega) (by omega)
  obtain ⟨A, hs⟩ : ∃ A, ∀ k, spec_l1Pad.l1 (k + 1) x3 n (i : Int) = spec_l1Pad.l1 k (x3.set ((m : Int) - 1 - (i : Int)).toNat A) n ((i + 1 : Nat) : Int) := by
   apply Exists.intro
   intro k
   simp only [spec_l1Pad.l1]
   rw [if_pos hlt, w0, if_pos a0, hxl, w1, w2, if_pos a1, if_pos b1, hw]
  obtain ⟨r, hr, hl⟩ := ih (i + 1) (x3.set ((m : Int) - 1 - (i : Int)).toNat A) hd (by rw [List.length_set]; exact h3)
  exact ⟨r, Ev.step hs hr, hl⟩
theorem pad_l0 (s : ByteArray) (hs : s.size ≤ 1000000000) (m : Nat) (hm : s.size + 8 < m) (hm2 : m ≤ 2000000000) (d : Nat) : ∀ (i : Nat) (x3 : List Int), i + d = s.size → x3.length = m → ∃ r, Ev (fun k => spec_l1Pad.l0 k s x3 (i : Int)) r ∧ r.length = m := by
 induction d with
 | zero =>
  intro i x3 hi h3
  have hlt : ¬ (i : Int) < (s.size : Int) := by omega
  have h0 : 0 ≤ (s.size : Int) := by omega
  have hl : (s.size : Int) < (x3.length : Int) := by omega
  obtain ⟨r, hr, hrl⟩ := pad_l1 m (by omega) hm2 (wrap64 ((s.size : Int) * 8)) 8 0 (x3.set ((s.size : Int) : Int).toNat 128) (by omega) (by rw [List.length_set]; exact h3)
  refine ⟨r, Ev.step (fun k => ?_) hr, hrl⟩
  simp only [spec_l1Pad.l0]
  rw [if_neg hlt, if_pos h0, if_pos hl]
  rfl
 | succ d ih =>
  intro i x3 hi h3
  have hi1 : ((i + 1 : Nat) : Int) = (i : Int) + 1 := by omega
  have hlt : (i : Int) < (s.size : Int) := by omega
  have hi0 : (0 : Int) ≤ (i : Int) := by omega
  have hl : (i : Int) < (x3.length : Int) := by omega
  have hd : i + 1 + d = s.size := by omega
  have hw : wrap64 ((i : Int) + 1) = ((i + 1 : Nat) : Int) := by rw [hi1]; exact w64 (by omega) (by omega)
  obtain ⟨r, hr, hrl⟩ := ih (i + 1) (x3.set i (wrap64 (bt s (i : Int)))) hd (by rw [List.length_set]; exact h3)
  refine ⟨r, Ev.step (fun k => ?_) hr, hrl⟩
  simp only [spec_l1Pad.l0]
  rw [if_pos hlt, if_pos hi0, if_pos hl, hw, Int.toNat_natCast]
theorem pad_ev (s : ByteArray) (hs : s.size ≤ 1000000000) : ∃ r q, Ev (fun k => spec_l1Pad.f k s) r ∧ r.length = 64 * q ∧ r.length ≤ 2000000000 := by
 have e : wrap64 (wrap64 (Int.tdiv (wrap64 ((s.size : Int) + 72)) 64) * 64) = ((64 * ((s.size + 72) / 64) : Nat) : Int) := by
  rw [w64 (i := (s.size : Int) + 72) (by omega) (by omega), Int.tdiv_eq_ediv_of_nonneg (by omega)]
  rw [w64 (i := ((s.size : Int) + 72) / 64) (by omega) (by omega), w64 (by omega) (by omega)]
  omega
 obtain ⟨r, hr, hl⟩ := pad_l0 s hs (64 * ((s.size + 72) / 64)) (by omega) (by omega) s.size 0 (List.replicate (64 * ((s.size + 72) / 64)) 0) (by omega) (by simp)
 refine ⟨r, (s.size + 72) / 64, ?_, hl, by omega⟩
 unfold spec_l1Pad.f
 rw [e, Int.toNat_natCast]
 rw [Int.natCast_zero] at hr
 exact Ev.ifp (by omega) (Ev.ifp (by omega) hr)
theorem sha_l0 (x4 x5 : List Int) (h4 : x4.length = 64) (q : Nat) (h5 : x5.length = 64 * q) (h5b : x5.length ≤ 2000000000) (d : Nat) : ∀ (i : Nat) (x3 : List Int), i + d = q → x3.length = 8 → (∀ x ∈ x3, 0 ≤ x ∧ x ≤ 4294967295) →
  ∃ r, Ev (fun k => spec_l1Sha.l0 k x3 x4 x5 ((64 * i : Nat) : Int)) r ∧ r.length = 8 ∧ ∀ x ∈ r, 0 ≤ x ∧ x ≤ 4294967295 := by
 induction d with
 | zero =>
  intro i x3 hi h3 hr
  refine ⟨x3, Ev.step (f := fun _ => some x3) (fun k => ?_) (Ev.now _), h3, hr⟩
  simp only [spec_l1Sha.l0]; rw [if_neg (by omega)]
 | succ d ih =>
  intro i x3 hi h3 hr
  have hi1 : ((64 * (i + 1) : Nat) : Int) = ((64 * i : Nat) : Int) + 64 := by omega
  have hlt : ((64 * i : Nat) : Int) < (x5.length : Int) := by omega
  have hi0 : (0 : Int) ≤ ((64 * i : Nat) : Int) := by omega
  have hle : ((64 * i : Nat) : Int) ≤ ((64 * (i + 1) : Nat) : Int) := by omega
  have hle2 : ((64 * (i + 1) : Nat) : Int) ≤ (x5.length : Int) := by omega
  have hd : i + 1 + d = q := by omega
  have hcut : ((x5.take (64 * (i + 1))).drop (64 * i)).length = 64 := by rw [List.length_drop, List.length_take]; omega
  have hw : wrap64 (((64 * i : Nat) : Int) + 64) = ((64 * (i + 1) : Nat) : Int) := by rw [hi1]; exact w64 (by omega) (by omega)
  obtain ⟨t, ht, htl⟩ := words_ev _ hcut
  obtain ⟨u, hu, hul, hur⟩ := mix_ev x3 t x4 h3 htl h4
  obtain ⟨r, h, hl, hrr⟩ := ih (i + 1) u hd hul hur
  refine ⟨r, Ev.step (f := fun k => (spec_l1Words.f k ((x5.take (64 * (i + 1))).drop (64 * i))).bind fun t177 => ((spec_l1Mix.f k x3 t177 x4).bind fun t180 => (spec_l1Sha.l0 k t180 x4 x5 ((64 * (i + 1) : Nat) : Int)))) (fun k => ?_) (Ev.bind ht (Ev.bind hu h)), hl, hrr⟩
  simp only [spec_l1Sha.l0]
  rw [if_pos hlt, if_pos hi0, hw, if_pos hle, if_pos hle2, Int.toNat_natCast, Int.toNat_natCast]
theorem sha_ev (s : ByteArray) (hs : s.size ≤ 1000000000) : ∃ r, Ev (fun k => spec_l1Sha.f k s) r ∧ r.length = 8 ∧ ∀ x ∈ r, 0 ≤ x ∧ x ≤ 4294967295 := by
 obtain ⟨p, q, hp, hpl, hpb⟩ := pad_ev s hs
 have hc : ∃ c : List Int × List Int, spec_l1Consts.f = some c ∧ c.1.length = 8 ∧ c.2.length = 64 ∧ ∀ x ∈ c.1, 0 ≤ x ∧ x ≤ 4294967295 := ⟨_, rfl, rfl, rfl, by decide⟩
 obtain ⟨c, hc, hc1, hc2, hc3⟩ := hc
 obtain ⟨r, hr, hl, hrr⟩ := sha_l0 c.2 p hc2 q hpl hpb q 0 c.1 (by omega) hc1 hc3
 refine ⟨r, ?_, hl, hrr⟩
 unfold spec_l1Sha.f
 exact Ev.b hc (Ev.bind hp hr)
theorem fig_hexd (j : Int) (h0 : 0 ≤ j) (h1 : j < 16) : hexd (bt (⟨#[48, 49, 50, 51, 52, 53, 54, 55, 56, 57, 97, 98, 99, 100, 101, 102]⟩ : ByteArray) j) = true := by
 have : j = 0 ∨ j = 1 ∨ j = 2 ∨ j = 3 ∨ j = 4 ∨ j = 5 ∨ j = 6 ∨ j = 7 ∨ j = 8 ∨ j = 9 ∨ j = 10 ∨ j = 11 ∨ j = 12 ∨ j = 13 ∨ j = 14 ∨ j = 15 := by omega
 rcases this with rfl | rfl | rfl | rfl | rfl | rfl | rfl | rfl | rfl | rfl | rfl | rfl | rfl | rfl | rfl | rfl <;> decide
theorem shr_nn {x : Int} (y : Int) (h : 0 ≤ x) : 0 ≤ shr .i64 x y := by
 unfold shr
 exact Int.ediv_nonneg h (Int.le_of_lt (Int.pow_pos (by decide)))
theorem hexd_byte {x : Int} (h : hexd x = true) : 0 ≤ x ∧ x ≤ 255 := by rw [hexd_iff] at h; omega
theorem hex_l0 (x : Int) (hx : 0 ≤ x) (d : Nat) : ∀ (l : List Int), l.length + d = 8 → (∀ y ∈ l, hexd y = true) →
  ∃ r, Ev (fun k => spec_l1Hex.l0 k x l ((d : Int) - 1)) (strOfNums r) ∧ r.length = 8 ∧ ∀ y ∈ r, hexd y = true := by
 induction d with
 | zero =>
  intro l hl hr
  refine ⟨l, Ev.step (f := fun _ => some (strOfNums l)) (fun k => ?_) (Ev.now _), by omega, hr⟩
  simp only [spec_l1Hex.l0]; rw [if_neg (by omega)]
 | succ d ih =>
  intro l hl hr
  have h8 : d ≤ 8 := by omega
  have hg : (((d + 1 : Nat) : Int) - 1) ≥ 0 := by omega
  have e : (((d + 1 : Nat) : Int) - 1) = (d : Int) := by omega
  have a0 : 0 ≤ 4 * (d : Int) := by omega
  have hlim : l.length < 140737488355328 := by omega
  have hll : (l.length + 1) + d = 8 := by omega
  have w0 : wrap64 (4 * (d : Int)) = 4 * (d : Int) := w64 (by omega) (by omega)
  have w1 : wrap64 ((d : Int) - 1) = (d : Int) - 1 := by clear w0; exact w64 (by omega) (by omega)
  have ht := tmod16 (shr_nn (x := x) (4 * (d : Int)) hx)
  obtain ⟨r, h, hrl, hrr⟩ := ih (l ++ [bt (⟨#[48, 49, 50, 51, 52, 53, 54, 55, 56, 57, 97, 98, 99, 100, 101, 102]⟩ : ByteArray) (Int.tmod (shr .i64 x (4 * (d : Int))) 16)]) (by rw [List.length_append, List.length_singleton]; exact hll)
   (fun y hy => by rcases List.mem_append.1 hy with hy | hy; exact hr y hy; rw [List.mem_singleton.1 hy]; exact fig_hexd _ ht.1 ht.2)
  refine ⟨r, Ev.step (fun k => ?_) h, hrl, hrr⟩
  simp only [spec_l1Hex.l0]
  rw [if_pos hg, e, w0, if_pos a0, if_pos ht.1, if_pos ht.2, if_pos hlim, w1]
theorem hex_ev (x : Int) (hx : 0 ≤ x) : ∃ r, Ev (fun k => spec_l1Hex.f k x) (strOfNums r) ∧ r.length = 8 ∧ ∀ y ∈ r, hexd y = true := by
 obtain ⟨r, h, hl, hr⟩ := hex_l0 x hx 8 [] (by simp) (by simp)
 refine ⟨r, ?_, hl, hr⟩
 unfold spec_l1Hex.f
 exact h
theorem sum_ev (s : ByteArray) (hs : s.size ≤ 1000000000) : ∃ t, Ev (fun k => spec_l1Sum.f k s) t ∧ sumB (bytesOf t) = true ∧ t.size = 16 := by
 obtain ⟨h, hh, hl, hr⟩ := sha_ev s hs
 have h0 : 0 ≤ rd h 0 := (hr _ (rd_mem 0 (by decide) (by omega))).1
 have h1 : 0 ≤ rd h 1 := (hr _ (rd_mem 1 (by decide) (by omega))).1
 obtain ⟨a, ha, hal, har⟩ := hex_ev _ h0
 obtain ⟨b, hb, hbl, hbr⟩ := hex_ev _ h1
 have hby : bytesOf (strOfNums a ++ strOfNums b) = a ++ b := by
  rw [bytes_append, bytes_str _ (fun x hx => hexd_byte (har x hx)), bytes_str _ (fun x hx => hexd_byte (hbr x hx))]
 refine ⟨strOfNums a ++ strOfNums b, ?_, ?_, ?_⟩
 ·unfold spec_l1Sum.f
  exact Ev.bind hh (Ev.ifp (by omega) (Ev.bind ha (Ev.ifp (by omega) (Ev.bind hb (Ev.ifp (by rw [str_size, str_size]; omega) (Ev.now _))))))
 ·rw [hby, sumB_iff]
  exact ⟨fun x hx => by rcases List.mem_append.1 hx with hx | hx; exact har x hx; exact hbr x hx, by rw [List.length_append]; omega⟩
 ·rw [ByteArray.size_append, str_size, str_size]; omega
theorem wsucc {i : Nat} (h : i ≤ 1000000000000) : wrap64 ((i : Int) + 1) = ((i + 1 : Nat) : Int) := by rw [w64 (by omega) (by omega)]; omega
theorem items_loop {b : List Int} (hb : Code b) : ∀ (d : Nat) (xs : List ByteArray) (p : Int), 0 ≤ p → p + d ≤ 1000000000 → xs.length + d ≤ 1000 → (∀ x ∈ xs, x.size ≤ 8) →
  ∃ ys q, Ev (fun k => spec_l20Items.l0 k xs (d : Int) b p) (ys, q) ∧ ys.length = xs.length + d ∧ (∀ x ∈ ys, x.size ≤ 8) ∧ p ≤ q ∧ q ≤ p + d
 | 0, xs, p, h0, h1, hx, hy => by
  refine ⟨xs, p, Ev.step (f := fun _ => some (xs, p)) (fun k => ?_) (Ev.now _), by omega, hy, by omega, by omega⟩
  simp only [spec_l20Items.l0]
  rw [if_neg (by omega)]
 | d + 1, xs, p, h0, h1, hx, hy => by
  obtain ⟨x, hx1, hxs⟩ := item_ev hb p h0 (by omega)
  obtain ⟨ys, q, he, hl, hz, hq0, hq1⟩ := items_loop hb d (xs ++ [x]) (p + 1) (by omega) (by omega) (by rw [List.length_append, List.length_singleton]; omega)
   (fun y h => (List.mem_append.1 h).elim (hy y) (fun h => by rw [List.mem_singleton.1 h]; exact hxs))
  rw [List.length_append, List.length_singleton] at hl
  refine ⟨ys, q, Ev.step (f := fun k => (spec_l20Item.f k b p).bind fun bt271 => (if xs.length < 8796093022208 then (spec_l20Items.l0 k (xs ++ [bt271.1]) (d : Int) b bt271.2) else (none))) (fun k => ?_) (Ev.bind hx1 (Ev.ifp (by omega) he)), by omega, hz, by omega, by omega⟩
  simp only [spec_l20Items.l0]
  rw [if_pos (by omega), w64 (by omega) (by omega), show ((d + 1 : Nat) : Int) - 1 = (d : Int) by omega]
theorem items_ev {b : List Int} (hb : Code b) (p m : Int) (h0 : 0 ≤ p) (h1 : p ≤ 100000000) (hm0 : 0 ≤ m) (hm1 : m ≤ 100) : ∃ ys q, Ev (fun k => spec_l20Items.f k b p m) (ys, q) ∧ (ys.length : Int) ≤ m ∧ (∀ x ∈ ys, x.size ≤ 8) ∧ p ≤ q ∧ q ≤ p + 1 + m := by
 obtain ⟨v, hv, hv0, hv1⟩ := pick_lt hb p (m + 1) h0 (by omega) (by omega)
 obtain ⟨ys, q, hy, hl, hz, hq0, hq1⟩ := items_loop hb v.toNat [] (p + 1) (by omega) (by omega) (by rw [List.length_nil]; omega) (fun x h => absurd h (by simp))
 rw [Int.toNat_of_nonneg hv0] at hy hq1
 rw [List.length_nil] at hl
 refine ⟨ys, q, ?_, by omega, hz, by omega, by omega⟩
 unfold spec_l20Items.f
 rw [← w64 (i := m + 1) (by omega) (by omega)] at hv
 exact Ev.bind hv hy
theorem bent_ev {b : List Int} (hb : Code b) (p : Int) (s : ByteArray) (hs : s.size ≤ 1000000000) (h0 : 0 ≤ p) (h1 : p ≤ 100000000) : ∃ t q, Ev (fun k => spec_l20Bent.f k b p s) (t, q) ∧ t.size ≤ s.size + 1 ∧ p ≤ q ∧ q ≤ p + 3 := by
 obtain ⟨v, hv, hv0, hv1⟩ := pick_lt hb p ((s.size : Int) + 1) h0 (by omega) (by omega)
 obtain ⟨u, hu, hu0, hu1⟩ := pick_lt hb (p + 1) 5 (by omega) (by omega) (by omega)
 have hw : wrap64 ((s.size : Int) + 1) = (s.size : Int) + 1 := w64 (by omega) (by omega)
 rw [← hw] at hv
 unfold spec_l20Bent.f
 by_cases c0 : u = 0
 ·by_cases c1 : v < (s.size : Int)
  ·obtain ⟨x, hx, hx1⟩ := of_ev hb (p + 1 + 1) ([(⟨#[48]⟩ : ByteArray), (⟨#[97]⟩ : ByteArray), (⟨#[32]⟩ : ByteArray), (⟨#[0]⟩ : ByteArray), (⟨#[255]⟩ : ByteArray), (⟨#[128]⟩ : ByteArray), (⟨#[102]⟩ : ByteArray), (⟨#[10]⟩ : ByteArray)] : List ByteArray) (by omega) (by omega) (by decide)
   have hxs : x.size = 1 := by
    simp only [List.mem_cons, List.not_mem_nil, or_false] at hx
    rcases hx with rfl | rfl | rfl | rfl | rfl | rfl | rfl | rfl <;> rfl
   have hw2 : wrap64 (v + 1) = v + 1 := w64 (by omega) (by omega)
   have e1 : (s.extract 0 (v : Int).toNat).size ≤ v.toNat := by rw [ByteArray.size_extract]; omega
   have e2 : (s.extract ((wrap64 (v + 1)) : Int).toNat s.size).size = s.size - (v.toNat + 1) := by rw [hw2, ByteArray.size_extract]; omega
   have e3 : ((s.extract 0 (v : Int).toNat) ++ x).size ≤ v.toNat + 1 := by rw [ByteArray.size_append]; omega
   refine ⟨((s.extract 0 (v : Int).toNat) ++ x) ++ (s.extract ((wrap64 (v + 1)) : Int).toNat s.size), p + 1 + 1 + 1, Ev.bind hv (Ev.bind hu (Ev.ifp c0 (Ev.ifp c1 (Ev.ifp hv0 (Ev.ifp (by show v ≤ (s.size : Int); omega) (Ev.bind hx1 (Ev.ifp (by show (s.extract 0 (v : Int).toNat).size + x.size ≤ 9223372036854775807; omega) (Ev.ifp (by show 0 ≤ wrap64 (v + 1); omega) (Ev.ifp (by show wrap64 (v + 1) ≤ (s.size : Int); omega) (Ev.ifp (by show ((s.extract 0 (v : Int).toNat) ++ x).size + (s.extract ((wrap64 (v + 1)) : Int).toNat s.size).size ≤ 9223372036854775807; omega) (Ev.now _))))))))))), by rw [ByteArray.size_append]; omega, by omega, by omega⟩
  ·exact ⟨s, p + 1 + 1, Ev.bind hv (Ev.bind hu (Ev.ifp c0 (Ev.ifn c1 (Ev.now _)))), by omega, by omega, by omega⟩
 ·by_cases c1 : u = 1
  ·refine ⟨s.extract 0 (v : Int).toNat, p + 1 + 1, Ev.bind hv (Ev.bind hu (Ev.ifn c0 (Ev.ifp c1 (Ev.ifp hv0 (Ev.ifp (by show v ≤ (s.size : Int); omega) (Ev.now _)))))), by rw [ByteArray.size_extract]; omega, by omega, by omega⟩
  ·by_cases c2 : u = 2
   ·obtain ⟨x, hx, hx1⟩ := of_ev hb (p + 1 + 1) ([(⟨#[48]⟩ : ByteArray), (⟨#[32]⟩ : ByteArray), (⟨#[0]⟩ : ByteArray), (⟨#[255]⟩ : ByteArray)] : List ByteArray) (by omega) (by omega) (by decide)
    have hxs : x.size = 1 := by
     simp only [List.mem_cons, List.not_mem_nil, or_false] at hx
     rcases hx with rfl | rfl | rfl | rfl <;> rfl
    exact ⟨s ++ x, p + 1 + 1 + 1, Ev.bind hv (Ev.bind hu (Ev.ifn c0 (Ev.ifn c1 (Ev.ifp c2 (Ev.bind hx1 (Ev.ifp (by show s.size + x.size ≤ 9223372036854775807; omega) (Ev.now _))))))), by rw [ByteArray.size_append]; omega, by omega, by omega⟩
   ·exact ⟨s, p + 1 + 1, Ev.bind hv (Ev.bind hu (Ev.ifn c0 (Ev.ifn c1 (Ev.ifn c2 (Ev.now _))))), by omega, by omega, by omega⟩
def hdB (h : S24) : Bool := headB h.f0 h.f1 h.f2 h.f3 h.f4
def bkOk (b : S82) : Prop := hdB b.f0 = true ∧ b.f1.length ≤ 4 ∧ ∀ s ∈ b.f1, s.size ≤ 8
def sumS (s : ByteArray) : Prop := sumB (bytesOf s) = true ∧ s.size = 16
theorem rdHM (l : List S24) (i : Int) (h0 : 0 ≤ i) (h1 : i < (l.length : Int)) : rd_T24 l i ∈ l := by
 unfold rd_T24
 rw [List.getD_eq_getElem?_getD, List.getElem?_eq_getElem (by omega), Option.getD_some]
 exact List.getElem_mem _
theorem rdBM (l : List S82) (i : Int) (h0 : 0 ≤ i) (h1 : i < (l.length : Int)) : rd_T82 l i ∈ l := by
 unfold rd_T82
 rw [List.getD_eq_getElem?_getD, List.getElem?_eq_getElem (by omega), Option.getD_some]
 exact List.getElem_mem _
theorem rdBA (l : List S82) (i : Nat) (h : i < l.length) : rd_T82 l (i : Int) = l[i] := by
 unfold rd_T82
 rw [Int.toNat_natCast, List.getD_eq_getElem?_getD, List.getElem?_eq_getElem h, Option.getD_some]
theorem mem_snoc {α : Type} {P : α → Prop} {l : List α} {a : α} (h : ∀ x ∈ l, P x) (ha : P a) : ∀ x ∈ l ++ [a], P x :=
 fun x hx => (List.mem_append.1 hx).elim (h x) (fun hx => by rw [List.mem_singleton.1 hx]; exact ha)
theorem len_snoc {α : Type} (l : List α) (a : α) : (l ++ [a]).length = l.length + 1 := by rw [List.length_append, List.length_singleton]
theorem heads_loop (l : List S82) (hl : l.length ≤ 1000) : ∀ (d i : Nat) (x : List S24), i + d = l.length → x.length = i → Ev (fun k => spec_l4Heads.l0 k l x (i : Int)) (x ++ (l.drop i).map (·.f0))
 | 0, i, x, h, hx => by
  refine Ev.step (f := fun _ => some (x ++ (l.drop i).map (·.f0))) (fun k => ?_) (Ev.now _)
  simp only [spec_l4Heads.l0]
  rw [if_neg (by omega), List.drop_eq_nil_of_le (by omega), List.map_nil, List.append_nil]
 | d + 1, i, x, h, hx => by
  have e := heads_loop l hl d (i + 1) (x ++ [l[i].f0]) (by omega) (by rw [len_snoc]; omega)
  rw [List.append_assoc, List.singleton_append] at e
  rw [List.drop_eq_getElem_cons (show i < l.length by omega), List.map_cons]
  refine Ev.step (f := fun k => spec_l4Heads.l0 k l (x ++ [l[i].f0]) ((i + 1 : Nat) : Int)) (fun k => ?_) e
  simp only [spec_l4Heads.l0]
  rw [if_pos (by omega), if_pos (by omega), if_pos (by omega), wsucc (i := i) (by omega), rdBA l i (by omega)]
theorem heads_ev (l : List S82) (hl : l.length ≤ 1000) : Ev (fun k => spec_l4Heads.f k l) (l.map (·.f0)) := by
 unfold spec_l4Heads.f
 exact heads_loop l hl l.length 0 [] (by omega) rfl
theorem row_loop (l : List ByteArray) (hl : l.length ≤ 1000) (hs : ∀ s ∈ l, s.size ≤ 1000) : ∀ (d i : Nat) (x : List ByteArray), i + d = l.length → x.length = i → (∀ s ∈ x, sumS s) →
  ∃ r, Ev (fun k => spec_l3Row.l0 k l x (i : Int)) r ∧ r.length = l.length ∧ ∀ s ∈ r, sumS s
 | 0, i, x, h, hx, hy => by
  refine ⟨x, Ev.step (f := fun _ => some x) (fun k => ?_) (Ev.now _), by omega, hy⟩
  simp only [spec_l3Row.l0]
  rw [if_neg (by omega)]
 | d + 1, i, x, h, hx, hy => by
  have hz := hs _ (rdOf_mem ByteArray.empty (i : Int) (by omega) (show (i : Int) < (l.length : Int) by omega))
  obtain ⟨t, ht, h1, h2⟩ := sum_ev ((⟨#[105, 116, 101, 109, 32]⟩ : ByteArray) ++ rdOf ByteArray.empty l (i : Int)) (by rw [ByteArray.size_append]; show 5 + _ ≤ _; omega)
  obtain ⟨r, hr, hrl, hrs⟩ := row_loop l hl hs d (i + 1) (x ++ [t]) (by omega) (by rw [len_snoc]; omega) (mem_snoc hy ⟨h1, h2⟩)
  refine ⟨r, Ev.step (f := fun k => (spec_l1Sum.f k ((⟨#[105, 116, 101, 109, 32]⟩ : ByteArray) ++ rdOf ByteArray.empty l (i : Int))).bind fun t207 => (if x.length < 8796093022208 then (spec_l3Row.l0 k l (x ++ [t207]) ((i + 1 : Nat) : Int)) else (none))) (fun k => ?_) (Ev.bind ht (Ev.ifp (by omega) hr)), hrl, hrs⟩
  simp only [spec_l3Row.l0]
  rw [if_pos (by omega), if_pos (by omega), if_pos (by omega), wsucc (i := i) (by omega)]
theorem row_ev (l : List ByteArray) (hl : l.length ≤ 1000) (hs : ∀ s ∈ l, s.size ≤ 1000) : ∃ r, Ev (fun k => spec_l3Row.f k l) r ∧ r.length = l.length ∧ ∀ s ∈ r, sumS s := by
 unfold spec_l3Row.f
 exact row_loop l hl hs l.length 0 [] (by omega) rfl (fun x h => absurd h (by simp))
theorem both_size (a b : ByteArray) (ha : a.size = 16) (hb : b.size = 16) : ((((⟨#[98, 111, 116, 104, 32]⟩ : ByteArray) ++ a) ++ (⟨#[32]⟩ : ByteArray)) ++ b).size = 38 ∧ (((⟨#[98, 111, 116, 104, 32]⟩ : ByteArray) ++ a) ++ (⟨#[32]⟩ : ByteArray)).size = 22 ∧ ((⟨#[98, 111, 116, 104, 32]⟩ : ByteArray) ++ a).size = 21 := by
 have e1 : (⟨#[98, 111, 116, 104, 32]⟩ : ByteArray).size = 5 := rfl
 have e2 : (⟨#[32]⟩ : ByteArray).size = 1 := rfl
 simp only [ByteArray.size_append]; omega
theorem up_loop (l : List ByteArray) (hl : l.length ≤ 1000) (hs : ∀ s ∈ l, sumS s) : ∀ (d i : Nat) (x : List ByteArray), l.length ≤ i + 2 * d → i ≤ 2000 → x.length ≤ i → (∀ s ∈ x, sumS s) →
  ∃ r, Ev (fun k => spec_l3Up.l0 k l x (i : Int)) r ∧ r.length = x.length + (l.length - i + 1) / 2 ∧ ∀ s ∈ r, sumS s
 | 0, i, x, h, hi, hx, hy => by
  refine ⟨x, Ev.step (f := fun _ => some x) (fun k => ?_) (Ev.now _), by omega, hy⟩
  simp only [spec_l3Up.l0]
  rw [if_neg (by omega)]
 | d + 1, i, x, h, hi, hx, hy => by
  by_cases h0 : i < l.length
  ·have hi0 := hs _ (rdOf_mem ByteArray.empty (i : Int) (by omega) (show (i : Int) < (l.length : Int) by omega))
   have w2 : wrap64 ((i : Int) + 2) = ((i + 2 : Nat) : Int) := by rw [w64 (by omega) (by omega)]; omega
   have w1 := wsucc (i := i) (by omega)
   by_cases h1 : i + 1 < l.length
   ·have hi1 := hs _ (rdOf_mem ByteArray.empty ((i + 1 : Nat) : Int) (by omega) (show ((i + 1 : Nat) : Int) < (l.length : Int) by omega))
    obtain ⟨s1, s2, s3⟩ := both_size _ _ hi0.2 hi1.2
    obtain ⟨t, ht, h3, h4⟩ := sum_ev ((((⟨#[98, 111, 116, 104, 32]⟩ : ByteArray) ++ rdOf ByteArray.empty l (i : Int)) ++ (⟨#[32]⟩ : ByteArray)) ++ rdOf ByteArray.empty l ((i + 1 : Nat) : Int)) (by omega)
    obtain ⟨r, hr, hrl, hrs⟩ := up_loop l hl hs d (i + 2) (x ++ [t]) (by omega) (by omega) (by rw [len_snoc]; omega) (mem_snoc hy ⟨h3, h4⟩)
    rw [len_snoc] at hrl
    refine ⟨r, Ev.step (f := fun k => (spec_l1Sum.f k ((((⟨#[98, 111, 116, 104, 32]⟩ : ByteArray) ++ rdOf ByteArray.empty l (i : Int)) ++ (⟨#[32]⟩ : ByteArray)) ++ rdOf ByteArray.empty l ((i + 1 : Nat) : Int))).bind fun t216 => (if x.length < 8796093022208 then (spec_l3Up.l0 k l (x ++ [t216]) ((i + 2 : Nat) : Int)) else (none))) (fun k => ?_) (Ev.bind ht (Ev.ifp (by omega) hr)), by omega, hrs⟩
    simp only [spec_l3Up.l0]
    have z0 := hi0.2
    have z1 := hi1.2
    rw [w1, w2, if_pos (by omega), if_pos (by omega), if_pos (by omega), if_pos (by omega), if_pos (by omega), if_pos (by omega), if_pos (by omega)]
   ·obtain ⟨r, hr, hrl, hrs⟩ := up_loop l hl hs d (i + 2) (x ++ [rdOf ByteArray.empty l (i : Int)]) (by omega) (by omega) (by rw [len_snoc]; omega) (mem_snoc hy hi0)
    rw [len_snoc] at hrl
    refine ⟨r, Ev.step (f := fun k => spec_l3Up.l0 k l (x ++ [rdOf ByteArray.empty l (i : Int)]) ((i + 2 : Nat) : Int)) (fun k => ?_) hr, by omega, hrs⟩
    simp only [spec_l3Up.l0]
    rw [w1, w2, if_pos (by omega), if_neg (by omega), if_pos (by omega), if_pos (by omega)]
  ·refine ⟨x, Ev.step (f := fun _ => some x) (fun k => ?_) (Ev.now _), by omega, hy⟩
   simp only [spec_l3Up.l0]
   rw [if_neg (by omega)]
theorem up_ev (l : List ByteArray) (hl : l.length ≤ 1000) (hs : ∀ s ∈ l, sumS s) : ∃ r, Ev (fun k => spec_l3Up.f k l) r ∧ r.length = (l.length + 1) / 2 ∧ ∀ s ∈ r, sumS s := by
 obtain ⟨r, hr, h1, h2⟩ := up_loop l hl hs l.length 0 [] (by omega) (by omega) (by rw [List.length_nil]; omega) (fun x h => absurd h (by simp))
 rw [List.length_nil] at h1
 unfold spec_l3Up.f
 exact ⟨r, hr, by omega, h2⟩
theorem root3_loop : ∀ (n : Nat) (l : List ByteArray), l.length ≤ n → 1 ≤ l.length → l.length ≤ 1000 → (∀ s ∈ l, sumS s) → ∃ t, Ev (fun k => spec_l3Root.l0 k l) t ∧ sumS t
 | 0, l, h, h1, h2, hs => absurd h (by omega)
 | n + 1, l, h, h1, h2, hs => by
  by_cases hl : l.length = 1
  ·refine ⟨rdOf ByteArray.empty l 0, Ev.step (f := fun _ => some (rdOf ByteArray.empty l 0)) (fun k => ?_) (Ev.now _), hs _ (rdOf_mem ByteArray.empty 0 (by omega) (by omega))⟩
   simp only [spec_l3Root.l0]
   rw [if_neg (by omega), if_pos (by omega)]
  ·obtain ⟨r, hr, h3, h4⟩ := up_ev l h2 hs
   obtain ⟨t, ht, h5⟩ := root3_loop n r (by omega) (by omega) (by omega) h4
   refine ⟨t, Ev.step (f := fun k => (spec_l3Up.f k l).bind fun t228 => (spec_l3Root.l0 k t228)) (fun k => ?_) (Ev.bind hr ht), h5⟩
   simp only [spec_l3Root.l0]
   rw [if_pos (by omega)]
theorem root3_ev (l : List ByteArray) (hl : l.length ≤ 1000) (hs : ∀ s ∈ l, s.size ≤ 1000) : ∃ t, Ev (fun k => spec_l3Root.f k l) t ∧ sumS t := by
 obtain ⟨r, hr, h1, h2⟩ := row_ev l hl hs
 unfold spec_l3Root.f
 by_cases h0 : (r.length : Int) = 0
 ·obtain ⟨t, ht, h3, h4⟩ := sum_ev (⟨#[]⟩ : ByteArray) (by show 0 ≤ _; omega)
  exact ⟨t, Ev.bind hr (Ev.ifp h0 (Ev.bind ht (Ev.now _))), h3, h4⟩
 ·obtain ⟨t, ht, h3⟩ := root3_loop r.length r (by omega) (by omega) (by omega) h2
  exact ⟨t, Ev.bind hr (Ev.ifn h0 ht), h3⟩
theorem diff_j (x5 : Int) {x4 : Int} {b : Bool} (h : 1 ≤ x4 ∧ x4 ≤ 8) (hb : b = true → x4 < 8) : ∃ d, Ev (fun k => spec_l4Diff.j0 k x4 x5 b) d ∧ 1 ≤ d ∧ d ≤ 8 := by
 by_cases h1 : b = true
 ·have h2 := hb h1
  refine ⟨x4 + 1, Ev.step (f := fun _ => some (x4 + 1)) (fun k => ?_) (Ev.now _), by omega, by omega⟩
  simp only [spec_l4Diff.j0]
  rw [if_pos h1, w64 (by omega) (by omega)]
 ·by_cases h2 : x5 > 60
  ·by_cases h3 : x4 > 1
   ·refine ⟨x4 - 1, Ev.step (f := fun _ => some (x4 - 1)) (fun k => ?_) (Ev.now _), by omega, by omega⟩
    simp only [spec_l4Diff.j0]
    rw [if_neg h1, if_pos h2, if_pos h3, w64 (by omega) (by omega)]
   ·refine ⟨x4, Ev.step (f := fun _ => some x4) (fun k => ?_) (Ev.now _), by omega, by omega⟩
    simp only [spec_l4Diff.j0]
    rw [if_neg h1, if_pos h2, if_neg h3]
  ·refine ⟨x4, Ev.step (f := fun _ => some x4) (fun k => ?_) (Ev.now _), by omega, by omega⟩
   simp only [spec_l4Diff.j0]
   rw [if_neg h1, if_neg h2]
theorem diff_ev (l : List S24) (hl : l.length ≤ 1000) (hh : ∀ h ∈ l, hdB h = true) : ∃ d, Ev (fun k => spec_l4Diff.f k l) d ∧ (1 ≤ d ∧ d ≤ 8) ∧ (l = [] → d = 1) := by
 unfold spec_l4Diff.f
 by_cases h0 : (l.length : Int) = 0
 ·exact ⟨1, Ev.ifp h0 (Ev.now _), by omega, fun _ => rfl⟩
 ·have hn : ¬ l = [] := fun h => h0 (by rw [h]; rfl)
  have w1 : wrap64 ((l.length : Int) - 1) = (l.length : Int) - 1 := w64 (by omega) (by omega)
  have ha := hh _ (rdHM l ((l.length : Int) - 1) (by omega) (by omega))
  have hd := ((headB_iff _ _ _ _ _).1 ha).2.2.2.1
  rw [w1]
  by_cases h4 : (l.length : Int) % 4 = 0
  ·have w4 : wrap64 ((l.length : Int) - 4) = (l.length : Int) - 4 := w64 (by omega) (by omega)
   rw [w4]
   generalize wrap64 ((rd_T24 l ((l.length : Int) - 1)).f2 - (rd_T24 l ((l.length : Int) - 4)).f2) = sp
   by_cases h5 : sp < 20
   ·obtain ⟨d, he, h6⟩ := diff_j sp (b := decide ((rd_T24 l ((l.length : Int) - 1)).f3 < 8)) hd of_decide_eq_true
    exact ⟨d, Ev.ifn h0 (Ev.ifp (by omega) (Ev.ifp (by omega) (Ev.ifp h4 (Ev.ifp (by omega) (Ev.ifp (by omega) (Ev.ifp h5 he)))))), h6, fun h => absurd h hn⟩
   ·obtain ⟨d, he, h6⟩ := diff_j sp (b := false) hd (fun h => by cases h)
    exact ⟨d, Ev.ifn h0 (Ev.ifp (by omega) (Ev.ifp (by omega) (Ev.ifp h4 (Ev.ifp (by omega) (Ev.ifp (by omega) (Ev.ifn h5 he)))))), h6, fun h => absurd h hn⟩
  ·exact ⟨_, Ev.ifn h0 (Ev.ifp (by omega) (Ev.ifp (by omega) (Ev.ifn h4 (Ev.now _)))), hd, fun h => absurd h hn⟩
theorem sum3_ev {p r : ByteArray} {t d n : Int} (h : headB p r t d n = true) : ∃ s, Ev (fun k => spec_l3Sum.f k p r t d n) s ∧ sumS s := by
 have hz := headS_size h
 obtain ⟨s, hs, h1, h2⟩ := sum_ev ((⟨#[104, 101, 97, 100, 32]⟩ : ByteArray) ++ headS p r t d n) (by rw [ByteArray.size_append]; show 5 + _ ≤ _; omega)
 unfold spec_l3Sum.f
 exact ⟨s, Ev.bind (specHeadS_ev h) (Ev.ifp (by omega) (Ev.bind hs (Ev.now _))), h1, h2⟩
theorem meets_ev {p r : ByteArray} {t d n : Int} (h : headB p r t d n = true) : ∃ b, Ev (fun k => spec_l3Meets.f k p r t d n) b ∧ (d = 1 → b = true) := by
 obtain ⟨s, hs, h1, h2⟩ := sum3_ev h
 have hx := ((sumB_iff _).1 h1).1
 have hr := head31_range hx
 have e := specHead_ev s (by omega) (by omega) hx
 unfold spec_l3Meets.f
 refine ⟨_, Ev.bind hs (Ev.bind e (Ev.now _)), fun hd => ?_⟩
 rw [hd, Int.tdiv_eq_ediv_of_nonneg hr.1, decide_eq_true_iff, w64 (i := head31 (bytesOf s) / 65536) (by omega) (by omega), w64 (by omega) (by omega)]
 omega
theorem mine_loop {p r : ByteArray} {t df : Int} (h : headB p r t df 0 = true) : ∀ (d n : Nat), n + d = 401 →
  ∃ q : ByteArray × ByteArray × Int × Int × Int × Bool, Ev (fun k => spec_l3Mine.l0 k p r t df (n : Int)) q ∧ (q.2.2.2.2.2 = true → headB q.1 q.2.1 q.2.2.1 q.2.2.2.1 q.2.2.2.2.1 = true) ∧ (df = 1 → n ≤ 400 → q.2.2.2.2.2 = true)
 | 0, n, hn => by
  refine ⟨_, Ev.step (f := fun _ => some ((⟨#[]⟩ : ByteArray), (⟨#[]⟩ : ByteArray), 0, 0, 0, false)) (fun k => ?_) (Ev.now _), fun h => (by cases h), fun _ h => absurd h (by omega)⟩
  simp only [spec_l3Mine.l0]
  rw [if_neg (by omega)]
 | d + 1, n, hn => by
  have hh : headB p r t df (n : Int) = true := by rw [headB_iff] at h ⊢; exact ⟨h.1, h.2.1, h.2.2.1, h.2.2.2.1, by omega, by omega⟩
  obtain ⟨b, hb, hb1⟩ := meets_ev hh
  by_cases hbt : b = true
  ·refine ⟨_, Ev.step (f := fun k => (spec_l3Meets.f k p r t df (n : Int)).bind fun t255 => (if t255 = true then (some (p, r, t, df, (n : Int), true)) else (spec_l3Mine.l0 k p r t df ((n + 1 : Nat) : Int)))) (fun k => ?_) (Ev.bind hb (Ev.ifp hbt (Ev.now _))), fun _ => hh, fun _ _ => rfl⟩
   simp only [spec_l3Mine.l0]
   rw [if_pos (by omega), wsucc (i := n) (by omega)]
  ·obtain ⟨q, hq, h1, h2⟩ := mine_loop h d (n + 1) (by omega)
   refine ⟨q, Ev.step (f := fun k => (spec_l3Meets.f k p r t df (n : Int)).bind fun t255 => (if t255 = true then (some (p, r, t, df, (n : Int), true)) else (spec_l3Mine.l0 k p r t df ((n + 1 : Nat) : Int)))) (fun k => ?_) (Ev.bind hb (Ev.ifn hbt hq)), h1, fun h _ => absurd (hb1 h) hbt⟩
   simp only [spec_l3Mine.l0]
   rw [if_pos (by omega), wsucc (i := n) (by omega)]
theorem copy_loop (l : List S82) (hl : l.length ≤ 1000) (hb : ∀ b ∈ l, bkOk b) : ∀ (d i : Nat) (x : List S82), i + d = l.length → x.length = i → Ev (fun k => spec_l4Copy.l0 k l x (i : Int)) (x ++ l.drop i)
 | 0, i, x, h, hx => by
  refine Ev.step (f := fun _ => some (x ++ l.drop i)) (fun k => ?_) (Ev.now _)
  simp only [spec_l4Copy.l0]
  rw [if_neg (by omega), List.drop_eq_nil_of_le (by omega), List.append_nil]
 | d + 1, i, x, h, hx => by
  have hi := (hb _ (List.getElem_mem (show i < l.length by omega))).2.1
  have e := copy_loop l hl hb d (i + 1) (x ++ [l[i]]) (by omega) (by rw [len_snoc]; omega)
  rw [List.append_assoc, List.singleton_append] at e
  rw [List.drop_eq_getElem_cons (show i < l.length by omega)]
  refine Ev.step (f := fun k => spec_l4Copy.l0 k l (x ++ [l[i]]) ((i + 1 : Nat) : Int)) (fun k => ?_) e
  simp only [spec_l4Copy.l0, Option.bind_some]
  rw [if_pos (by omega), if_pos (by omega), rdBA l i (by omega), if_pos (by rw [List.length_nil]; omega), if_pos (by omega), wsucc (i := i) (by omega)]
  rfl
theorem copy_ev (l : List S82) (hl : l.length ≤ 1000) (hb : ∀ b ∈ l, bkOk b) : Ev (fun k => spec_l4Copy.f k l) l := by
 unfold spec_l4Copy.f
 exact copy_loop l hl hb l.length 0 [] (by omega) rfl
theorem mine_j1 {l : List S82} (hl : l.length ≤ 1000) (hb : ∀ b ∈ l, bkOk b) {m : List ByteArray} (hm : m.length ≤ 4) (hz : ∀ s ∈ m, s.size ≤ 8) {p r : ByteArray} {t df : Int} {c : Bool} (h : c = false → headB p r t df 0 = true) :
  ∃ l' b, Ev (fun k => spec_l4Mine.j1 k l m c p r t df 0) (l', b) ∧ (b = true → (∀ x ∈ l', bkOk x) ∧ l'.length = l.length + 1) ∧ (c = false → df = 1 → b = true) := by
 by_cases hc : c = true
 ·refine ⟨l, false, Ev.step (f := fun _ => some (l, false)) (fun k => ?_) (Ev.now _), fun h => (by cases h), fun h => (by rw [hc] at h; cases h)⟩
  simp only [spec_l4Mine.j1]
  rw [if_pos hc]
 ·have hcf : c = false := by cases c <;> simp_all
  obtain ⟨q, hq, h1, h2⟩ := mine_loop (h hcf) 401 0 (by omega)
  have hq' : Ev (fun k => spec_l3Mine.f k p r t df 0) q := by unfold spec_l3Mine.f; exact hq
  by_cases ht : q.2.2.2.2.2 = true
  ·refine ⟨l ++ [⟨⟨q.1, q.2.1, q.2.2.1, q.2.2.2.1, q.2.2.2.2.1⟩, m⟩], true, Ev.step (f := fun k => (spec_l3Mine.f k p r t df 0).bind fun bt281 => (if bt281.2.2.2.2.2 = true then ((spec_l4Copy.f k l).bind fun t288 => ((some (([] : List ByteArray) : List ByteArray)).bind fun y291 => (if y291.length + m.length < 8796093022208 then (if t288.length < 1759218604441 then (some ((t288 ++ [(⟨(⟨bt281.1, bt281.2.1, bt281.2.2.1, bt281.2.2.2.1, bt281.2.2.2.2.1⟩ : S24), (y291 ++ m)⟩ : S82)]), true)) else (none)) else (none)))) else (some (l, false)))) (fun k => ?_) (Ev.bind hq' (Ev.ifp ht (Ev.bind (copy_ev l hl hb) (Ev.b rfl (Ev.ifp (by rw [List.length_nil]; omega) (Ev.ifp (by omega) (Ev.now _))))))), fun _ => ⟨mem_snoc hb (by exact ⟨h1 ht, hm, hz⟩), len_snoc _ _⟩, fun _ _ => rfl⟩
   simp only [spec_l4Mine.j1]
   rw [if_neg hc]
  ·refine ⟨l, false, Ev.step (f := fun k => (spec_l3Mine.f k p r t df 0).bind fun bt281 => (if bt281.2.2.2.2.2 = true then ((spec_l4Copy.f k l).bind fun t288 => ((some (([] : List ByteArray) : List ByteArray)).bind fun y291 => (if y291.length + m.length < 8796093022208 then (if t288.length < 1759218604441 then (some ((t288 ++ [(⟨(⟨bt281.1, bt281.2.1, bt281.2.2.1, bt281.2.2.2.1, bt281.2.2.2.2.1⟩ : S24), (y291 ++ m)⟩ : S82)]), true)) else (none)) else (none)))) else (some (l, false)))) (fun k => ?_) (Ev.bind hq' (Ev.ifn ht (Ev.now _))), fun h => (by cases h), fun _ h => absurd (h2 h (by omega)) ht⟩
   simp only [spec_l4Mine.j1]
   rw [if_neg hc]
theorem mine_j0 {l : List S82} (hl : l.length ≤ 1000) (hb : ∀ b ∈ l, bkOk b) {m : List ByteArray} (hm : m.length ≤ 4) (hz : ∀ s ∈ m, s.size ≤ 8) {p r : ByteArray} (hp : sumS p) (hr : sumS r) {t df : Int} (hd : 1 ≤ df ∧ df ≤ 8) :
  ∃ l' b, Ev (fun k => spec_l4Mine.j0 k l t m (l.map (·.f0)) p r t df 0) (l', b) ∧ (b = true → (∀ x ∈ l', bkOk x) ∧ l'.length = l.length + 1) ∧ (l = [] → 0 ≤ t → t ≤ 99999 → df = 1 → b = true) := by
 have hmap : (l.map (·.f0)).length = l.length := List.length_map _
 have hB : 0 ≤ t ∧ t ≤ 99999 → headB p r t df 0 = true := fun h => (headB_iff _ _ _ _ _).2 ⟨hp.1, hr.1, h, hd, by omega, by omega⟩
 by_cases h20 : (l.length : Int) ≥ 20
 ·obtain ⟨l', b, he, h1, h2⟩ := mine_j1 hl hb hm hz (p := p) (r := r) (t := t) (df := df) (c := true) (fun h => by cases h)
  refine ⟨l', b, Ev.step (f := fun k => spec_l4Mine.j1 k l m true p r t df 0) (fun k => ?_) he, h1, fun h => absurd h20 (by rw [h, List.length_nil]; omega)⟩
  simp only [spec_l4Mine.j0]
  rw [if_pos h20]
 ·by_cases ht : 0 ≤ t ∧ t ≤ 99999
  ·by_cases h0 : (l.length : Int) > 0
   ·have w1 : wrap64 ((l.length : Int) - 1) = (l.length : Int) - 1 := w64 (by omega) (by omega)
    obtain ⟨l', b, he, h1, h2⟩ := mine_j1 hl hb hm hz (p := p) (r := r) (t := t) (df := df) (c := decide (t ≤ (rd_T24 (l.map (·.f0)) ((l.length : Int) - 1)).f2)) (fun _ => hB ht)
    refine ⟨l', b, Ev.step (f := fun k => spec_l4Mine.j1 k l m (decide (t ≤ (rd_T24 (l.map (·.f0)) ((l.length : Int) - 1)).f2)) p r t df 0) (fun k => ?_) he, h1, fun h => absurd h0 (by rw [h, List.length_nil]; omega)⟩
    simp only [spec_l4Mine.j0]
    rw [if_neg h20, specIn, Option.bind_some, if_pos (decide_eq_true ht), if_pos h0, hmap, w1, if_pos (by omega), if_pos (by omega)]
   ·obtain ⟨l', b, he, h1, h2⟩ := mine_j1 hl hb hm hz (p := p) (r := r) (t := t) (df := df) (c := false) (fun _ => hB ht)
    refine ⟨l', b, Ev.step (f := fun k => spec_l4Mine.j1 k l m false p r t df 0) (fun k => ?_) he, h1, fun _ _ _ h => h2 rfl h⟩
    simp only [spec_l4Mine.j0]
    rw [if_neg h20, specIn, Option.bind_some, if_pos (decide_eq_true ht), if_neg h0]
  ·obtain ⟨l', b, he, h1, h2⟩ := mine_j1 hl hb hm hz (p := p) (r := r) (t := t) (df := df) (c := true) (fun h => by cases h)
   refine ⟨l', b, Ev.step (f := fun k => spec_l4Mine.j1 k l m true p r t df 0) (fun k => ?_) he, h1, fun _ h3 h4 => absurd ⟨h3, h4⟩ ht⟩
   simp only [spec_l4Mine.j0]
   rw [if_neg h20, specIn, Option.bind_some, if_neg (by rw [decide_eq_true_iff]; exact ht)]
theorem mine4_ev {l : List S82} (hl : l.length ≤ 1000) (hb : ∀ b ∈ l, bkOk b) {m : List ByteArray} (hm : m.length ≤ 4) (hz : ∀ s ∈ m, s.size ≤ 8) (t : Int) :
  ∃ l' b, Ev (fun k => spec_l4Mine.f k l t m) (l', b) ∧ (b = true → (∀ x ∈ l', bkOk x) ∧ l'.length = l.length + 1) ∧ (l = [] → 0 ≤ t → t ≤ 99999 → b = true) := by
 have hmap : (l.map (·.f0)).length = l.length := List.length_map _
 have hh : ∀ h ∈ l.map (·.f0), hdB h = true := fun h hm => by obtain ⟨b, hb1, rfl⟩ := List.mem_map.1 hm; exact (hb b hb1).1
 obtain ⟨r, hr, hrs⟩ := root3_ev m (by omega) (fun s h => Nat.le_trans (hz s h) (by omega))
 obtain ⟨d, hd, hd1, hd2⟩ := diff_ev (l.map (·.f0)) (by omega) hh
 have z0 : spec_l4Zero.f = some (⟨#[48, 48, 48, 48, 48, 48, 48, 48, 48, 48, 48, 48, 48, 48, 48, 48]⟩ : ByteArray) := rfl
 have zs : sumS (⟨#[48, 48, 48, 48, 48, 48, 48, 48, 48, 48, 48, 48, 48, 48, 48, 48]⟩ : ByteArray) := ⟨by decide, rfl⟩
 unfold spec_l4Mine.f
 by_cases h0 : (l.length : Int) > 0
 ·have w1 : wrap64 (((l.map (·.f0)).length : Int) - 1) = (l.length : Int) - 1 := by rw [hmap]; exact w64 (by omega) (by omega)
  obtain ⟨s, hs, hss⟩ := sum3_ev (hh _ (rdHM (l.map (·.f0)) ((l.length : Int) - 1) (by omega) (by omega)))
  obtain ⟨l', b, he, h1, h2⟩ := mine_j0 hl hb hm hz hss hrs (t := t) hd1
  rw [← w1] at hs
  exact ⟨l', b, Ev.bind (heads_ev l hl) (Ev.b z0 (Ev.bind hr (Ev.bind hd (Ev.ifp h0 (Ev.ifp (show 0 ≤ wrap64 (((l.map (·.f0)).length : Int) - 1) by rw [w1]; omega) (Ev.ifp (show wrap64 (((l.map (·.f0)).length : Int) - 1) < ((l.map (·.f0)).length : Int) by rw [w1]; omega) (Ev.bind hs he))))))), h1, fun h => absurd h0 (by rw [h, List.length_nil]; omega)⟩
 ·obtain ⟨l', b, he, h1, h2⟩ := mine_j0 hl hb hm hz zs hrs (t := t) hd1
  exact ⟨l', b, Ev.bind (heads_ev l hl) (Ev.b z0 (Ev.bind hr (Ev.bind hd (Ev.ifn h0 he)))), h1, fun h h3 h4 => h2 h h3 h4 (hd2 (by rw [h]; rfl))⟩
theorem chain_loop {b : List Int} (hb : Code b) : ∀ (d : Nat) (l : List S82) (t p : Int), 0 ≤ p → p + 10 * d ≤ 100000000 → 0 ≤ t → t + 30 * d ≤ 99999 → l.length + d ≤ 100 → (∀ x ∈ l, bkOk x) → (l = [] → 0 < d) →
  ∃ l' q, Ev (fun k => spec_l20Chain.l0 k l t (d : Int) b p) (l', q) ∧ (∀ x ∈ l', bkOk x) ∧ 1 ≤ l'.length ∧ l'.length ≤ l.length + d ∧ p ≤ q ∧ q ≤ p + 10 * d
 | 0, l, t, p, h0, h1, h2, h3, h4, h5, h6 => by
  have : 1 ≤ l.length := by cases l with | nil => exact absurd (h6 rfl) (by omega) | cons a b => simp
  refine ⟨l, p, Ev.step (f := fun _ => some (l, p)) (fun k => ?_) (Ev.now _), h5, this, by omega, by omega, by omega⟩
  simp only [spec_l20Chain.l0]
  rw [if_neg (by omega)]
 | d + 1, l, t, p, h0, h1, h2, h3, h4, h5, h6 => by
  obtain ⟨v, hv, he⟩ := one_ev hb p [1, 5, 5, 9, 30] h0 (by omega) (by decide)
  have hv1 : 1 ≤ v ∧ v ≤ 30 := by
   simp only [List.mem_cons, List.not_mem_nil, or_false] at hv
   omega
  obtain ⟨ys, q, hy, hl, hz, hq0, hq1⟩ := items_ev hb (p + 1) 4 (by omega) (by omega) (by omega) (by omega)
  obtain ⟨l', c, hm, hc1, hc2⟩ := mine4_ev (by omega) h5 (by omega) hz (t + v)
  have w1 : wrap64 (t + v) = t + v := w64 (by omega) (by omega)
  have w2 : wrap64 (((d + 1 : Nat) : Int) - 1) = (d : Int) := by rw [w64 (by omega) (by omega)]; omega
  by_cases hc : c = true
  ·obtain ⟨h7, h8⟩ := hc1 hc
   obtain ⟨l2, q2, hr, r1, r2, r3, r4, r5⟩ := chain_loop hb d l' (t + v) q (by omega) (by omega) (by omega) (by omega) (by omega) h7 (fun h => by rw [h, List.length_nil] at h8; omega)
   refine ⟨l2, q2, Ev.step (f := fun k => (spec_l20Rd_one.f k b p (([1, 5, 5, 9, 30] : List Int))).bind fun bt322 => ((spec_l20Items.f k b bt322.2 4).bind fun bt324 => ((spec_l4Mine.f k l (wrap64 (t + bt322.1)) bt324.1).bind fun bt328 => (if bt328.2 = true then (spec_l20Chain.l0 k bt328.1 (wrap64 (t + bt322.1)) (d : Int) b bt324.2) else (spec_l20Chain.l0 k l (wrap64 (t + bt322.1)) (d : Int) b bt324.2))))) (fun k => ?_) (Ev.bind he (Ev.bind hy (Ev.bind (by show Ev (fun k => spec_l4Mine.f k l (wrap64 (t + v)) ys) _; rw [w1]; exact hm) (Ev.ifp hc (by show Ev (fun k => spec_l20Chain.l0 k l' (wrap64 (t + v)) (d : Int) b q) _; rw [w1]; exact hr))))), r1, r2, by omega, by omega, by omega⟩
   simp only [spec_l20Chain.l0]
   rw [if_pos (by omega), w2]
  ·have hne : ¬ l = [] := fun h => hc (hc2 h (by omega) (by omega))
   obtain ⟨l2, q2, hr, r1, r2, r3, r4, r5⟩ := chain_loop hb d l (t + v) q (by omega) (by omega) (by omega) (by omega) (by omega) h5 (fun h => absurd h hne)
   refine ⟨l2, q2, Ev.step (f := fun k => (spec_l20Rd_one.f k b p (([1, 5, 5, 9, 30] : List Int))).bind fun bt322 => ((spec_l20Items.f k b bt322.2 4).bind fun bt324 => ((spec_l4Mine.f k l (wrap64 (t + bt322.1)) bt324.1).bind fun bt328 => (if bt328.2 = true then (spec_l20Chain.l0 k bt328.1 (wrap64 (t + bt322.1)) (d : Int) b bt324.2) else (spec_l20Chain.l0 k l (wrap64 (t + bt322.1)) (d : Int) b bt324.2))))) (fun k => ?_) (Ev.bind he (Ev.bind hy (Ev.bind (by show Ev (fun k => spec_l4Mine.f k l (wrap64 (t + v)) ys) _; rw [w1]; exact hm) (Ev.ifn hc (by show Ev (fun k => spec_l20Chain.l0 k l (wrap64 (t + v)) (d : Int) b q) _; rw [w1]; exact hr))))), r1, r2, by omega, by omega, by omega⟩
   simp only [spec_l20Chain.l0]
   rw [if_pos (by omega), w2]
theorem chain_ev {b : List Int} (hb : Code b) (p : Int) (n : Nat) (h0 : 0 ≤ p) (h1 : p ≤ 1000000) (hn0 : 0 < n) (hn1 : n ≤ 20) :
  ∃ l q, Ev (fun k => spec_l20Chain.f k b p [] (n : Int)) (l, q) ∧ (∀ x ∈ l, bkOk x) ∧ 1 ≤ l.length ∧ l.length ≤ 20 ∧ p ≤ q ∧ q ≤ p + 200 := by
 obtain ⟨l, q, he, r1, r2, r3, r4, r5⟩ := chain_loop hb n [] 0 p h0 (by omega) (by omega) (by omega) (by rw [List.length_nil]; omega) (fun x h => absurd h (by simp)) (fun _ => hn0)
 rw [List.length_nil] at r3
 unfold spec_l20Chain.f
 refine ⟨l, q, Ev.ifn (by simp) (Ev.step (f := fun k => spec_l20Chain.l0 k [] 0 (n : Int) b p) (fun k => ?_) he), r1, r2, by omega, r4, by omega⟩
 simp only [spec_l20Chain.j0]
theorem rdPM (l : List S93) (i : Int) (h0 : 0 ≤ i) (h1 : i < (l.length : Int)) : rd_T93 l i ∈ l := by
 unfold rd_T93
 rw [List.getD_eq_getElem?_getD, List.getElem?_eq_getElem (by omega), Option.getD_some]
 exact List.getElem_mem _
theorem rdPA (l : List S93) (i : Nat) (h : i < l.length) : rd_T93 l (i : Int) = l[i] := by
 unfold rd_T93
 rw [Int.toNat_natCast, List.getD_eq_getElem?_getD, List.getElem?_eq_getElem h, Option.getD_some]
def pkZ (B : Int) (p : S93) : Prop := p.f0.size = 16 ∧ (0 ≤ p.f1 ∧ p.f1 ≤ B) ∧ (0 ≤ p.f2 ∧ p.f2 ≤ B)
def pkI (p : S93) : Prop := p.f0.size = 16 ∧ (0 ≤ p.f1 ∧ p.f1 ≤ 8 * p.f2) ∧ ∃ j : Nat, p.f2 = 2 ^ j
def cnt : List S93 → Int
 | [] => 0
 | p :: l => p.f2 + cnt l
theorem cnt_append : ∀ (l m : List S93), cnt (l ++ m) = cnt l + cnt m
 | [], m => by rw [List.nil_append]; show _ = 0 + _; omega
 | p :: l, m => by rw [List.cons_append]; show p.f2 + cnt (l ++ m) = p.f2 + cnt l + cnt m; rw [cnt_append l m]; omega
theorem two_pos (j : Nat) : (1 : Int) ≤ 2 ^ j := by
 induction j with
 | zero => decide
 | succ j ih => rw [Int.pow_succ]; omega
theorem pkI_pos {p : S93} (h : pkI p) : 1 ≤ p.f2 := by obtain ⟨j, hj⟩ := h.2.2; rw [hj]; exact two_pos j
theorem cnt_len : ∀ (l : List S93), (∀ p ∈ l, pkI p) → (l.length : Int) ≤ cnt l
 | [], _ => by show (0 : Int) ≤ 0; omega
 | p :: l, h => by
  have := cnt_len l (fun x hx => h x (List.mem_cons_of_mem _ hx))
  have := pkI_pos (h p (List.mem_cons_self ..))
  show ((l.length + 1 : Nat) : Int) ≤ p.f2 + cnt l
  omega
theorem cnt_mem : ∀ (l : List S93), (∀ p ∈ l, pkI p) → ∀ p ∈ l, p.f2 ≤ cnt l
 | [], _ => fun p h => absurd h (by simp)
 | q :: l, h => fun p hp => by
  have h1 := cnt_len l (fun x hx => h x (List.mem_cons_of_mem _ hx))
  have h2 := pkI_pos (h q (List.mem_cons_self ..))
  show p.f2 ≤ q.f2 + cnt l
  rcases List.mem_cons.1 hp with rfl | hp
  ·omega
  ·have := cnt_mem l (fun x hx => h x (List.mem_cons_of_mem _ hx)) p hp
   omega
theorem pkI_T {p : S93} (h : pkI p) (h1 : p.f2 ≤ 1000) : pkZ 8000 p := ⟨h.1, ⟨h.2.1.1, by have := h.2.1.2; omega⟩, by have := pkI_pos h; omega, by omega⟩
theorem text_ev (s : ByteArray) (a b : Int) (hs : s.size = 16) (ha : 0 ≤ a ∧ a ≤ 99999) (hb : 0 ≤ b ∧ b ≤ 99999) : ∃ t, Ev (fun k => spec_l5Text.f k s a b) t ∧ t.size ≤ 30 := by
 have e : (⟨#[32]⟩ : ByteArray).size = 1 := rfl
 have h1 := dec_small ha.2
 have h2 := dec_small hb.2
 unfold spec_l5Text.f
 refine ⟨_, Ev.ifp (by omega) (Ev.bind (specDec ha.1 (by omega)) (Ev.ifp (by simp only [ByteArray.size_append]; omega) (Ev.ifp (by simp only [ByteArray.size_append]; omega) (Ev.bind (specDec hb.1 (by omega)) (Ev.ifp (by simp only [ByteArray.size_append]; omega) (Ev.now _)))))), ?_⟩
 simp only [ByteArray.size_append]; omega
theorem both5_ev {p q : S93} {B : Int} (hp : pkZ B p) (hq : pkZ B q) (hB : B ≤ 49999) : ∃ s, Ev (fun k => spec_l5Both.f k p.f0 p.f1 p.f2 q.f0 q.f1 q.f2) (s, p.f1 + q.f1, p.f2 + q.f2) ∧ s.size = 16 := by
 have e : (⟨#[32]⟩ : ByteArray).size = 1 := rfl
 have e5 : (⟨#[112, 101, 97, 107, 32]⟩ : ByteArray).size = 5 := rfl
 obtain ⟨p0, p1, p2⟩ := hp
 obtain ⟨q0, q1, q2⟩ := hq
 obtain ⟨t, ht, h1⟩ := text_ev p.f0 p.f1 p.f2 p0 ⟨p1.1, by omega⟩ ⟨p2.1, by omega⟩
 obtain ⟨u, hu, h2⟩ := text_ev q.f0 q.f1 q.f2 q0 ⟨q1.1, by omega⟩ ⟨q2.1, by omega⟩
 obtain ⟨s, hs, _, h3⟩ := sum_ev ((((⟨#[112, 101, 97, 107, 32]⟩ : ByteArray) ++ t) ++ (⟨#[32]⟩ : ByteArray)) ++ u) (by simp only [ByteArray.size_append]; omega)
 refine ⟨s, ?_, h3⟩
 unfold spec_l5Both.f
 rw [w64 (i := p.f1 + q.f1) (by omega) (by omega), w64 (i := p.f2 + q.f2) (by omega) (by omega)]
 exact Ev.bind ht (Ev.ifp (by omega) (Ev.ifp (by simp only [ByteArray.size_append]; omega) (Ev.bind hu (Ev.ifp (by simp only [ByteArray.size_append]; omega) (Ev.bind hs (Ev.now _))))))
theorem leaf_ev {p r : ByteArray} {t d n : Int} (h : headB p r t d n = true) : ∃ s, Ev (fun k => spec_l5Leaf.f k p r t d n) (s, d, 1) ∧ s.size = 16 := by
 have hz := headS_size h
 obtain ⟨s, hs, _, h2⟩ := sum_ev ((⟨#[108, 101, 97, 102, 32]⟩ : ByteArray) ++ headS p r t d n) (by rw [ByteArray.size_append]; show 5 + _ ≤ _; omega)
 unfold spec_l5Leaf.f
 exact ⟨s, Ev.bind (specHeadS_ev h) (Ev.ifp (by omega) (Ev.bind hs (Ev.now _))), h2⟩
theorem add_loop : ∀ (n : Nat) (l : List S93) (p : S93), l.length = n → (∀ x ∈ l, pkI x) → pkI p → cnt l + p.f2 ≤ 1000 →
  ∃ r, Ev (fun k => spec_l5Add.l0 k l p.f0 p.f1 p.f2) r ∧ (∀ x ∈ r, pkI x) ∧ cnt r = cnt l + p.f2
 | 0, l, p, hn, hl, hp, hc => by
  refine ⟨l ++ [p], Ev.step (f := fun _ => some (l ++ [p])) (fun k => ?_) (Ev.now _), mem_snoc hl hp, by rw [cnt_append]; show _ = _; simp only [cnt]; omega⟩
  simp only [spec_l5Add.l0]
  rw [if_neg (by omega), if_pos (by omega)]
 | m + 1, l, p, hn, hl, hp, hc => by
  have hlen := cnt_len l hl
  have hp1 := pkI_pos hp
  have w1 : wrap64 ((l.length : Int) - 1) = (m : Int) := by rw [w64 (by omega) (by omega)]; omega
  have hm : m < l.length := by omega
  have ea := rdPA l m hm
  have es : l.take m ++ [l[m]] = l := by rw [← List.take_succ_eq_append_getElem hm, ← hn, List.take_length]
  have hl1 := hl _ (List.getElem_mem hm)
  have hmem : ∀ x ∈ l.take m, pkI x := fun x hx => hl x (List.mem_of_mem_take hx)
  have hc1 : cnt l = cnt (l.take m) + l[m].f2 := by
   have := congrArg cnt es
   rw [cnt_append] at this
   rw [← this]; show _ = _; simp only [cnt]; omega
  have hlt := cnt_len _ hmem
  by_cases hf : l[m].f2 = p.f2
  ·obtain ⟨s, hs, h3⟩ := both5_ev (pkI_T hl1 (by omega)) (pkI_T hp (by omega)) (by omega)
   have hq : pkI (⟨s, l[m].f1 + p.f1, l[m].f2 + p.f2⟩ : S93) := by
    obtain ⟨j, hj⟩ := hp.2.2
    have b1 := hl1.2.1
    have b2 := hp.2.1
    refine ⟨h3, ⟨by show 0 ≤ _ + _; omega, by show _ + _ ≤ 8 * (_ + _); omega⟩, j + 1, ?_⟩
    show l[m].f2 + p.f2 = _
    rw [Int.pow_succ, hf, hj]; omega
   obtain ⟨r, hr, h4, h5⟩ := add_loop m (l.take m) (⟨s, l[m].f1 + p.f1, l[m].f2 + p.f2⟩ : S93) (by rw [List.length_take]; omega) hmem hq (by show _ + (_ + _) ≤ _; omega)
   refine ⟨r, Ev.step (f := fun k => (spec_l5Both.f k l[m].f0 l[m].f1 l[m].f2 p.f0 p.f1 p.f2).bind fun bt353 => (if (m : Int) ≤ (l.length : Int) then (spec_l5Add.l0 k (l.take ((m : Int)).toNat) bt353.1 bt353.2.1 bt353.2.2) else (none))) (fun k => ?_) (Ev.bind hs (Ev.ifp (by omega) (by rw [Int.toNat_natCast]; exact hr))), h4, by rw [h5]; show _ + (_ + _) = _; omega⟩
   simp only [spec_l5Add.l0]
   rw [if_pos (by omega), w1, if_pos (by omega), if_pos (by omega), ea, if_pos hf]
  ·refine ⟨l ++ [p], Ev.step (f := fun _ => some (l ++ [p])) (fun k => ?_) (Ev.now _), mem_snoc hl hp, by rw [cnt_append]; show _ = _; simp only [cnt]; omega⟩
   simp only [spec_l5Add.l0]
   rw [if_pos (by omega), w1, if_pos (by omega), if_pos (by omega), ea, if_neg hf, if_pos (by omega)]
theorem add_ev {l : List S93} {p : S93} (hl : ∀ x ∈ l, pkI x) (hp : pkI p) (hc : cnt l + p.f2 ≤ 1000) : ∃ r, Ev (fun k => spec_l5Add.f k l p.f0 p.f1 p.f2) r ∧ (∀ x ∈ r, pkI x) ∧ cnt r = cnt l + p.f2 := by
 obtain ⟨r, hr, h1, h2⟩ := add_loop l.length l p rfl hl hp hc
 have := cnt_len l hl
 have := pkI_pos hp
 unfold spec_l5Add.f
 exact ⟨r, Ev.b rfl (Ev.ifp (by rw [List.length_nil]; omega) hr), h1, h2⟩
theorem of5_loop (l : List S24) (hl : l.length ≤ 100) (hh : ∀ h ∈ l, hdB h = true) : ∀ (d i : Nat) (x : List S93), i + d = l.length → (∀ p ∈ x, pkI p) → cnt x = i →
  ∃ r, Ev (fun k => spec_l5Of.l0 k l x (i : Int)) r ∧ (∀ p ∈ r, pkI p) ∧ cnt r = l.length
 | 0, i, x, h, hx, hc => by
  refine ⟨x, Ev.step (f := fun _ => some x) (fun k => ?_) (Ev.now _), hx, by omega⟩
  simp only [spec_l5Of.l0]
  rw [if_neg (by omega)]
 | d + 1, i, x, h, hx, hc => by
  have hi := hh _ (rdHM l (i : Int) (by omega) (by omega))
  obtain ⟨s, hs, h1⟩ := leaf_ev hi
  have hd := ((headB_iff _ _ _ _ _).1 hi).2.2.2.1
  obtain ⟨r, hr, h2, h3⟩ := add_ev (p := ⟨s, (rd_T24 l (i : Int)).f3, 1⟩) hx ⟨h1, ⟨by show 0 ≤ (rd_T24 l (i : Int)).f3; omega, by show (rd_T24 l (i : Int)).f3 ≤ 8 * 1; omega⟩, 0, rfl⟩ (by show _ + 1 ≤ _; omega)
  obtain ⟨r2, hr2, h4, h5⟩ := of5_loop l hl hh d (i + 1) r (by omega) h2 (by rw [h3]; show _ + 1 = _; omega)
  refine ⟨r2, Ev.step (f := fun k => (spec_l5Leaf.f k ((rd_T24 l (i : Int)).f0) ((rd_T24 l (i : Int)).f1) ((rd_T24 l (i : Int)).f2) ((rd_T24 l (i : Int)).f3) ((rd_T24 l (i : Int)).f4)).bind fun bt373 => ((spec_l5Add.f k x bt373.1 bt373.2.1 bt373.2.2).bind fun t376 => (spec_l5Of.l0 k l t376 ((i + 1 : Nat) : Int)))) (fun k => ?_) (Ev.bind hs (Ev.bind hr hr2)), h4, h5⟩
  simp only [spec_l5Of.l0]
  rw [if_pos (by omega), if_pos (by omega), wsucc (i := i) (by omega)]
theorem of5_ev (l : List S24) (hl : l.length ≤ 100) (hh : ∀ h ∈ l, hdB h = true) : ∃ r, Ev (fun k => spec_l5Of.f k l) r ∧ (∀ p ∈ r, pkI p) ∧ cnt r = l.length := by
 unfold spec_l5Of.f
 exact of5_loop l hl hh l.length 0 [] (by omega) (fun p h => absurd h (by simp)) rfl
theorem root5_loop (l : List S93) (hl : l.length ≤ 100) (hh : ∀ p ∈ l, pkZ 8000 p) : ∀ (d i : Nat) (x : ByteArray), i + d = l.length → x.size ≤ 5 + 31 * i → ∃ r, Ev (fun k => spec_l5Root.l0 k l x (i : Int)) r
 | 0, i, x, h, hx => by
  obtain ⟨s, hs, _, _⟩ := sum_ev x (by omega)
  refine ⟨s, Ev.step (f := fun k => (spec_l1Sum.f k x).bind fun t337 => (some t337)) (fun k => ?_) (Ev.bind hs (Ev.now _))⟩
  simp only [spec_l5Root.l0]
  rw [if_neg (by omega)]
 | d + 1, i, x, h, hx => by
  have e : (⟨#[32]⟩ : ByteArray).size = 1 := rfl
  obtain ⟨p0, p1, p2⟩ := hh _ (rdPM l (i : Int) (by omega) (by omega))
  obtain ⟨t, ht, h1⟩ := text_ev _ _ _ p0 ⟨p1.1, by omega⟩ ⟨p2.1, by omega⟩
  obtain ⟨r, hr⟩ := root5_loop l hl hh d (i + 1) ((x ++ (⟨#[32]⟩ : ByteArray)) ++ t) (by omega) (by simp only [ByteArray.size_append]; omega)
  refine ⟨r, Ev.step (f := fun k => (spec_l5Text.f k ((rd_T93 l (i : Int)).f0) ((rd_T93 l (i : Int)).f1) ((rd_T93 l (i : Int)).f2)).bind fun t336 => (if (x ++ (⟨#[32]⟩ : ByteArray)).size + t336.size ≤ 9223372036854775807 then (spec_l5Root.l0 k l ((x ++ (⟨#[32]⟩ : ByteArray)) ++ t336) ((i + 1 : Nat) : Int)) else (none))) (fun k => ?_) (Ev.bind ht (Ev.ifp (by simp only [ByteArray.size_append]; omega) hr))⟩
  simp only [spec_l5Root.l0]
  rw [if_pos (by omega), if_pos (by omega), if_pos (by omega), wsucc (i := i) (by omega)]
theorem root5_ev (l : List S93) (hl : l.length ≤ 100) (hh : ∀ p ∈ l, pkZ 8000 p) : ∃ r, Ev (fun k => spec_l5Root.f k l) r := by
 unfold spec_l5Root.f
 exact root5_loop l hl hh l.length 0 _ (by omega) (by show 5 ≤ _; omega)
theorem peak_loop (l : List S93) (hl : l.length ≤ 1000) (hh : ∀ p ∈ l, pkI p) (c : Int) (hc : cnt l ≤ 1000) : ∀ (d i : Nat) (a : Int), i + d = l.length → 0 ≤ a → a ≤ c → a + cnt (l.drop i) = cnt l → c < a + cnt (l.drop i) →
  ∃ j b, Ev (fun k => spec_l5Peak.l0 k l c a (i : Int)) (j, b) ∧ (0 ≤ j ∧ j < (l.length : Int)) ∧ 0 ≤ b ∧ b ≤ c ∧ c < b + (rd_T93 l j).f2 ∧ b + (rd_T93 l j).f2 ≤ cnt l
 | 0, i, a, h, h0, h1, h2, h3 => by
  rw [List.drop_eq_nil_of_le (by omega)] at h3
  exact absurd h3 (by show ¬ c < a + 0; omega)
 | d + 1, i, a, h, h0, h1, h2, h3 => by
  have hi : i < l.length := by omega
  have ea := rdPA l i hi
  have hp := hh _ (List.getElem_mem hi)
  have hp1 := pkI_pos hp
  have hp2 := cnt_mem l hh _ (List.getElem_mem hi)
  have hdr : cnt (l.drop i) = l[i].f2 + cnt (l.drop (i + 1)) := by rw [List.drop_eq_getElem_cons hi]; rfl
  have hd1 := cnt_len (l.drop (i + 1)) (fun x hx => hh x (List.mem_of_mem_drop hx))
  have w1 : wrap64 (a + l[i].f2) = a + l[i].f2 := w64 (by omega) (by omega)
  by_cases hlt : c < a + l[i].f2
  ·refine ⟨(i : Int), a, Ev.step (f := fun _ => some ((i : Int), a)) (fun k => ?_) (Ev.now _), ⟨by omega, by omega⟩, h0, h1, by rw [ea]; exact hlt, by rw [ea]; omega⟩
   simp only [spec_l5Peak.l0]
   rw [if_pos (by omega), if_pos (by omega), ea, w1, if_pos hlt]
  ·obtain ⟨j, b, he, h4⟩ := peak_loop l hl hh c hc d (i + 1) (a + l[i].f2) (by omega) (by omega) (by omega) (by omega) (by omega)
   refine ⟨j, b, Ev.step (f := fun k => spec_l5Peak.l0 k l c (a + l[i].f2) ((i + 1 : Nat) : Int)) (fun k => ?_) he, h4⟩
   simp only [spec_l5Peak.l0]
   rw [if_pos (by omega), if_pos (by omega), ea, w1, if_neg hlt, wsucc (i := i) (by omega)]
theorem peak_ev (l : List S93) (hl : l.length ≤ 1000) (hh : ∀ p ∈ l, pkI p) (hc : cnt l ≤ 1000) (c : Int) (h0 : 0 ≤ c) (h1 : c < cnt l) :
  ∃ j b, Ev (fun k => spec_l5Peak.f k l c) (j, b) ∧ (0 ≤ j ∧ j < (l.length : Int)) ∧ 0 ≤ b ∧ b ≤ c ∧ c < b + (rd_T93 l j).f2 ∧ b + (rd_T93 l j).f2 ≤ cnt l := by
 unfold spec_l5Peak.f
 exact peak_loop l hl hh c hc l.length 0 0 (by omega) (by omega) h0 (by rw [List.drop_zero]; omega) (by rw [List.drop_zero]; omega)
theorem other_eq {x : Int} (h0 : 0 ≤ x) (h1 : x ≤ 1000000) : wrap64 ((wrap64 (x + 1)) - (wrap64 ((Int.tmod x 2) * 2))) = x + 1 - x % 2 * 2 := by
 rw [Int.tmod_eq_emod_of_nonneg h0, w64 (i := x + 1) (by omega) (by omega), w64 (i := x % 2 * 2) (by omega) (by omega), w64 (by omega) (by omega)]
theorem half_eq {x : Int} (h0 : 0 ≤ x) (h1 : x ≤ 1000000) : wrap64 (Int.tdiv x 2) = x / 2 := by
 rw [Int.tdiv_eq_ediv_of_nonneg h0, w64 (by omega) (by omega)]
theorem tree_l1 {P : List S93 → Prop} (x5 x6 : List S93) (a B : Int) (m : Nat) (hm : x6.length = 2 * m) (hm1 : m ≤ 1000) (hB : B ≤ 49999) (hh : ∀ p ∈ x6, pkZ B p)
  (hk : ∀ y, y.length = m → (∀ p ∈ y, pkZ (2 * B) p) → ∃ r, Ev (fun k => spec_l5Tree.l0 k (wrap64 (Int.tdiv a 2)) x5 y) r ∧ P r) :
  ∀ (d i : Nat) (y : List S93), i + d = m → y.length = i → (∀ p ∈ y, pkZ (2 * B) p) → ∃ r, Ev (fun k => spec_l5Tree.l1 k a x5 x6 y ((2 * i : Nat) : Int)) r ∧ P r
 | 0, i, y, h, hy, hp => by
  obtain ⟨r, hr, h1⟩ := hk y (by omega) hp
  refine ⟨r, Ev.step (f := fun k => spec_l5Tree.l0 k (wrap64 (Int.tdiv a 2)) x5 y) (fun k => ?_) hr, h1⟩
  simp only [spec_l5Tree.l1]
  rw [if_neg (by omega)]
 | d + 1, i, y, h, hy, hp => by
  have w1 : wrap64 (((2 * i : Nat) : Int) + 1) = ((2 * i + 1 : Nat) : Int) := wsucc (by omega)
  have w2 : wrap64 (((2 * i : Nat) : Int) + 2) = ((2 * (i + 1) : Nat) : Int) := by rw [w64 (by omega) (by omega)]; omega
  have a1 := hh _ (rdPM x6 ((2 * i : Nat) : Int) (by omega) (by omega))
  have a2 := hh _ (rdPM x6 ((2 * i + 1 : Nat) : Int) (by omega) (by omega))
  obtain ⟨s, hs, h3⟩ := both5_ev a1 a2 hB
  obtain ⟨b0, b1, b2⟩ := a1
  obtain ⟨c0, c1, c2⟩ := a2
  obtain ⟨r, hr, h4⟩ := tree_l1 x5 x6 a B m hm hm1 hB hh hk d (i + 1) (y ++ [⟨s, (rd_T93 x6 ((2 * i : Nat) : Int)).f1 + (rd_T93 x6 ((2 * i + 1 : Nat) : Int)).f1, (rd_T93 x6 ((2 * i : Nat) : Int)).f2 + (rd_T93 x6 ((2 * i + 1 : Nat) : Int)).f2⟩]) (by omega) (by rw [len_snoc]; omega)
   (mem_snoc hp (by exact ⟨h3, ⟨by show 0 ≤ _ + _; omega, by show _ + _ ≤ _; omega⟩, by show 0 ≤ _ + _; omega, by show _ + _ ≤ _; omega⟩))
  refine ⟨r, Ev.step (f := fun k => (spec_l5Both.f k ((rd_T93 x6 ((2 * i : Nat) : Int)).f0) ((rd_T93 x6 ((2 * i : Nat) : Int)).f1) ((rd_T93 x6 ((2 * i : Nat) : Int)).f2) ((rd_T93 x6 ((2 * i + 1 : Nat) : Int)).f0) ((rd_T93 x6 ((2 * i + 1 : Nat) : Int)).f1) ((rd_T93 x6 ((2 * i + 1 : Nat) : Int)).f2)).bind fun bt393 => (if y.length < 4398046511104 then (spec_l5Tree.l1 k a x5 x6 (y ++ [(⟨bt393.1, bt393.2.1, bt393.2.2⟩ : S93)]) ((2 * (i + 1) : Nat) : Int)) else (none))) (fun k => ?_) (Ev.bind hs (Ev.ifp (by omega) hr)), h4⟩
  simp only [spec_l5Tree.l1]
  rw [if_pos (by omega), if_pos (by omega), w1, w2, if_pos (by omega), if_pos (by omega)]
theorem tree_l0 : ∀ (j : Nat) (x5 x6 : List S93) (a B : Int), x6.length = 2 ^ j → j ≤ 9 → 0 ≤ a → a < (2 : Int) ^ j → B * 2 ^ j ≤ 40000 → 0 ≤ B → (∀ p ∈ x6, pkZ B p) → x5.length + j ≤ 100 → (∀ p ∈ x5, p.f0.size = 16) →
  ∃ r, Ev (fun k => spec_l5Tree.l0 k a x5 x6) r ∧ r.length ≤ 100 ∧ ∀ p ∈ r, p.f0.size = 16
 | 0, x5, x6, a, B, h6, hj, h0, h1, hB, hB0, hh, h5, hx => by
  refine ⟨x5, Ev.step (f := fun _ => some x5) (fun k => ?_) (Ev.now _), by omega, hx⟩
  have : x6.length = 1 := h6
  simp only [spec_l5Tree.l0]
  rw [if_neg (by omega)]
 | j + 1, x5, x6, a, B, h6, hj, h0, h1, hB, hB0, hh, h5, hx => by
  have hp := two_pos j
  have hn : ((2 ^ j : Nat) : Int) = (2 : Int) ^ j := by rw [Int.natCast_pow]; rfl
  have hle : (2 ^ j : Nat) ≤ 2 ^ 8 := Nat.pow_le_pow_right (by omega) (by omega)
  have h6' : x6.length = 2 * 2 ^ j := by rw [h6, Nat.pow_succ]; omega
  have h1' : a < 2 * (2 : Int) ^ j := by rw [Int.pow_succ] at h1; omega
  have hB' : 2 * B * 2 ^ j ≤ 40000 := by rw [Int.pow_succ] at hB; rw [Int.mul_assoc, Int.mul_comm 2, Int.mul_assoc, Int.mul_comm _ 2]; rw [Int.mul_comm _ 2] at hB; exact hB
  have hB1 : B ≤ 49999 := by
   have h2 : 2 * B * 1 ≤ 2 * B * 2 ^ j := Int.mul_le_mul_of_nonneg_left hp (by omega)
   omega
  generalize hq : (2 : Nat) ^ j = q at *
  rw [← hn] at h1'
  have eo := other_eq h0 (show a ≤ 1000000 by omega)
  have eh := half_eq h0 (show a ≤ 1000000 by omega)
  have hm := hh _ (rdPM x6 (a + 1 - a % 2 * 2) (by omega) (by omega))
  obtain ⟨r, hr, h7⟩ := tree_l1 (P := fun r => r.length ≤ 100 ∧ ∀ p ∈ r, p.f0.size = 16) (x5 ++ [rd_T93 x6 (a + 1 - a % 2 * 2)]) x6 a B q h6' (by omega) hB1 hh
   (fun y hy1 hy2 => by
    rw [eh]
    exact tree_l0 j (x5 ++ [rd_T93 x6 (a + 1 - a % 2 * 2)]) y (a / 2) (2 * B) (by rw [hq]; exact hy1) (by omega) (by omega) (by rw [← hn]; omega) hB' (by omega) hy2 (by rw [len_snoc]; omega) (mem_snoc hx hm.1))
   q 0 [] (by omega) rfl (fun p h => absurd h (by simp))
  refine ⟨r, Ev.step (f := fun k => spec_l5Tree.l1 k a (x5 ++ [rd_T93 x6 (a + 1 - a % 2 * 2)]) x6 [] 0) (fun k => ?_) hr, h7⟩
  simp only [spec_l5Tree.l0]
  rw [eo, if_pos (by omega), if_pos (by omega), if_pos (by omega), if_pos (by omega)]
theorem proof5_loop (l : List S24) (hl : l.length ≤ 100) (hh : ∀ h ∈ l, hdB h = true) (ps : List S93) (hps : ps.length ≤ 100) (a j b : Int) (hj : 0 ≤ j ∧ j < (ps.length : Int)) (hb : 0 ≤ b) (hba : b ≤ a) (h1 : a < b + (rd_T93 ps j).f2) (h2 : b + (rd_T93 ps j).f2 ≤ l.length) (e : Nat) (he : (rd_T93 ps j).f2 = 2 ^ e) :
  ∀ (d : Nat) (c : Nat) (y : List S93), (c : Int) + d = (rd_T93 ps j).f2 → y.length = c → (∀ p ∈ y, pkZ 8 p) →
  ∃ r, Ev (fun k => spec_l5Proof.l0 k l a ps j b y (b + c)) (ps, r) ∧ r.length ≤ 100 ∧ ∀ p ∈ r, p.f0.size = 16
 | 0, c, y, h, hy, hp => by
  have hn : ((2 ^ e : Nat) : Int) = (2 : Int) ^ e := by rw [Int.natCast_pow]; rfl
  have he9 : e ≤ 9 := by
   apply Decidable.byContradiction
   intro h9
   have : (2 : Nat) ^ 10 ≤ 2 ^ e := Nat.pow_le_pow_right (by omega) (by omega)
   have h10 : (2 : Nat) ^ 10 = 1024 := rfl
   omega
  have w1 : wrap64 (a - b) = a - b := w64 (by omega) (by omega)
  obtain ⟨r, hr, h7⟩ := tree_l0 e [] y (a - b) 8 (by omega) he9 (by omega) (by omega) (by omega) (by omega) hp (by rw [List.length_nil]; omega) (fun p h => absurd h (by simp))
  have w2 : wrap64 (b + (rd_T93 ps j).f2) = b + (rd_T93 ps j).f2 := w64 (by omega) (by omega)
  refine ⟨r, Ev.step (f := fun k => (spec_l5Tree.f k y (a - b)).bind fun t416 => (some (ps, t416))) (fun k => ?_) (Ev.bind (by unfold spec_l5Tree.f; exact hr) (Ev.now _)), h7⟩
  simp only [spec_l5Proof.l0]
  rw [if_pos hj.1, if_pos hj.2, w2, if_neg (by omega), w1]
 | d + 1, c, y, h, hy, hp => by
  have hi := hh _ (rdHM l (b + c) (by omega) (by omega))
  obtain ⟨s, hs, h3⟩ := leaf_ev hi
  have hd := ((headB_iff _ _ _ _ _).1 hi).2.2.2.1
  obtain ⟨r, hr, h7⟩ := proof5_loop l hl hh ps hps a j b hj hb hba h1 h2 e he d (c + 1) (y ++ [⟨s, (rd_T24 l (b + c)).f3, 1⟩]) (by omega) (by rw [len_snoc]; omega) (mem_snoc hp (by exact ⟨h3, ⟨by show 0 ≤ (rd_T24 l (b + c)).f3; omega, by show (rd_T24 l (b + c)).f3 ≤ 8; omega⟩, by show (0 : Int) ≤ 1; omega, by show (1 : Int) ≤ 8; omega⟩))
  have w1 : wrap64 (b + c + 1) = b + ((c + 1 : Nat) : Int) := by rw [w64 (by omega) (by omega)]; omega
  have w2 : wrap64 (b + (rd_T93 ps j).f2) = b + (rd_T93 ps j).f2 := w64 (by omega) (by omega)
  refine ⟨r, Ev.step (f := fun k => (spec_l5Leaf.f k ((rd_T24 l (b + c)).f0) ((rd_T24 l (b + c)).f1) ((rd_T24 l (b + c)).f2) ((rd_T24 l (b + c)).f3) ((rd_T24 l (b + c)).f4)).bind fun bt410 => (if y.length < 4398046511104 then (spec_l5Proof.l0 k l a ps j b (y ++ [(⟨bt410.1, bt410.2.1, bt410.2.2⟩ : S93)]) (b + ((c + 1 : Nat) : Int))) else (none))) (fun k => ?_) (Ev.bind hs (Ev.ifp (by omega) hr)), h7⟩
  simp only [spec_l5Proof.l0]
  rw [if_pos hj.1, if_pos hj.2, w2, if_pos (by omega), if_pos (by omega), if_pos (by omega), w1]
theorem proof5_ev (l : List S24) (hl : l.length ≤ 100) (hh : ∀ h ∈ l, hdB h = true) (a : Int) (h0 : 0 ≤ a) (h1 : a < (l.length : Int)) :
  ∃ ps r, Ev (fun k => spec_l5Proof.f k l a) (ps, r) ∧ (ps.length ≤ 100 ∧ ∀ p ∈ ps, p.f0.size = 16) ∧ r.length ≤ 100 ∧ ∀ p ∈ r, p.f0.size = 16 := by
 obtain ⟨ps, hps, h2, h3⟩ := of5_ev l hl hh
 have hlen := cnt_len ps h2
 obtain ⟨j, b, hp, hj, hb0, hb1, hb2, hb3⟩ := peak_ev ps (by omega) h2 (by omega) a h0 (by omega)
 obtain ⟨e, he⟩ := (h2 _ (rdPM ps j hj.1 hj.2)).2.2
 obtain ⟨r, hr, h7⟩ := proof5_loop l hl hh ps (by omega) a j b hj hb0 hb1 hb2 (by omega) e he ((rd_T93 ps j).f2).toNat 0 [] (by omega) rfl (fun p h => absurd h (by simp))
 rw [show b + ((0 : Nat) : Int) = b by omega] at hr
 unfold spec_l5Proof.f
 exact ⟨ps, r, Ev.bind hps (Ev.bind hp hr), ⟨by omega, fun p h => (h2 p h).1⟩, h7⟩
theorem proof3_loop : ∀ (n : Nat) (x6 : List ByteArray) (a : Int) (x5 : List S48), x6.length ≤ n → n ≤ 500 → 0 ≤ a → a ≤ 1000000 → (∀ s ∈ x6, sumS s) → x5.length + n ≤ 1000 → (∀ q ∈ x5, q.f0.size = 16) →
  ∃ r, Ev (fun k => spec_l3Proof.l0 k a x5 x6) r ∧ r.length ≤ 1000 ∧ ∀ q ∈ r, q.f0.size = 16
 | 0, x6, a, x5, h, hn, h0, h1, hs, h5, hx => by
  refine ⟨x5, Ev.step (f := fun _ => some x5) (fun k => ?_) (Ev.now _), by omega, hx⟩
  simp only [spec_l3Proof.l0]
  rw [if_neg (by omega)]
 | n + 1, x6, a, x5, h, hn, h0, h1, hs, h5, hx => by
  by_cases hl : (x6.length : Int) > 1
  ·have eo := other_eq h0 h1
   have eh := half_eq h0 h1
   obtain ⟨y, hy, h3, h4⟩ := up_ev x6 (by omega) hs
   by_cases ho : a + 1 - a % 2 * 2 < (x6.length : Int)
   ·have hm := hs _ (rdOf_mem ByteArray.empty (a + 1 - a % 2 * 2) (by omega) ho)
    obtain ⟨r, hr, h7⟩ := proof3_loop n y (a / 2) (x5 ++ [⟨rdOf ByteArray.empty x6 (a + 1 - a % 2 * 2), decide (a + 1 - a % 2 * 2 < a)⟩]) (by omega) (by omega) (by omega) (by omega) h4 (by rw [len_snoc]; omega) (mem_snoc hx (by exact hm.2))
    refine ⟨r, Ev.step (f := fun k => (spec_l3Up.f k x6).bind fun t429 => (spec_l3Proof.l0 k (a / 2) (x5 ++ [(⟨rdOf ByteArray.empty x6 (a + 1 - a % 2 * 2), decide (a + 1 - a % 2 * 2 < a)⟩ : S48)]) t429)) (fun k => ?_) (Ev.bind hy hr), h7⟩
    simp only [spec_l3Proof.l0]
    rw [eo, eh, if_pos hl, if_pos ho, if_pos (by omega), if_pos (by omega)]
   ·obtain ⟨r, hr, h7⟩ := proof3_loop n y (a / 2) x5 (by omega) (by omega) (by omega) (by omega) h4 (by omega) hx
    refine ⟨r, Ev.step (f := fun k => (spec_l3Up.f k x6).bind fun t432 => (spec_l3Proof.l0 k (a / 2) x5 t432)) (fun k => ?_) (Ev.bind hy hr), h7⟩
    simp only [spec_l3Proof.l0]
    rw [eo, eh, if_pos hl, if_neg ho]
  ·refine ⟨x5, Ev.step (f := fun _ => some x5) (fun k => ?_) (Ev.now _), by omega, hx⟩
   simp only [spec_l3Proof.l0]
   rw [if_neg hl]
theorem proof3_ev (l : List ByteArray) (hl : l.length ≤ 100) (hs : ∀ s ∈ l, s.size ≤ 1000) (a : Int) (h0 : 0 ≤ a) (h1 : a ≤ 1000000) : ∃ r, Ev (fun k => spec_l3Proof.f k l a) r ∧ r.length ≤ 1000 ∧ ∀ q ∈ r, q.f0.size = 16 := by
 obtain ⟨y, hy, h2, h3⟩ := row_ev l (by omega) hs
 obtain ⟨r, hr, h7⟩ := proof3_loop y.length y a [] (by omega) (by omega) h0 h1 h3 (by rw [List.length_nil]; omega) (fun p h => absurd h (by simp))
 unfold spec_l3Proof.f
 exact ⟨r, Ev.bind hy hr, h7⟩
def paidS (n : Nat) (s t : ByteArray) (l m : List S93) (q : List S48) : Prop :=
 (s.size ≤ 1000 ∧ t.size ≤ 1000) ∧ (l.length ≤ 1000 ∧ ∀ p ∈ l, p.f0.size = 16) ∧ (m.length ≤ 1000 ∧ ∀ p ∈ m, p.f0.size = 16) ∧ (q.length ≤ n ∧ ∀ p ∈ q, p.f0.size ≤ 16)
theorem of9_ev (l : List S82) (hl : l.length ≤ 20) (hb : ∀ b ∈ l, bkOk b) (a i : Int) (h0 : 0 ≤ a) (h1 : a < (l.length : Int)) (hi0 : 0 ≤ i) (hi1 : i ≤ 1000) :
  ∃ at_ s t x y z ps m q, Ev (fun k => spec_l9Of.f k l a i) (at_, s, t, x, y, z, ps, m, q) ∧ paidS 1000 s t ps m q := by
 have hmap : (l.map (·.f0)).length = l.length := List.length_map _
 have hh : ∀ h ∈ l.map (·.f0), hdB h = true := fun h hm => by obtain ⟨b, hb1, rfl⟩ := List.mem_map.1 hm; exact (hb b hb1).1
 obtain ⟨ps, r, hr, h2, h3⟩ := proof5_ev (l.map (·.f0)) (by omega) hh a h0 (by omega)
 have hk := hb _ (rdBM l a h0 h1)
 obtain ⟨q, hq, h4, h5⟩ := proof3_ev (rd_T82 l a).f1 (by have := hk.2.1; omega) (fun s h => Nat.le_trans (hk.2.2 s h) (by omega)) i hi0 (by omega)
 have hz := headB_size (hh _ (rdHM (l.map (·.f0)) a h0 (by omega)))
 unfold spec_l9Of.f
 exact ⟨a, _, _, _, _, _, ps, r, q, Ev.bind (heads_ev l (by omega)) (Ev.ifp h0 (Ev.ifp (by show a < ((l.map (·.f0)).length : Int); omega) (Ev.bind hr (Ev.ifp h1 (Ev.bind hq (Ev.now _)))))), ⟨by omega, by omega⟩, ⟨by omega, h2.2⟩, ⟨by omega, h3.2⟩, by omega, fun p h => Nat.le_of_eq (h5 p h)⟩
theorem paid_j1 {b : List Int} (hb : Code b) {l : List S82} (hl : l.length ≤ 20) (hk : ∀ x ∈ l, bkOk x) {a p : Int} (h0 : 0 ≤ a) (h1 : a < (l.length : Int)) (hp0 : 0 ≤ p) (hp1 : p ≤ 10000000) :
  ∃ at_ s t x y z ps m q u v e, Ev (fun k => spec_l20Paid.j1 k l a b p) (at_, s, t, x, y, z, ps, m, q, u, v, e) ∧ paidS 1000 s t ps m q ∧ p ≤ e ∧ e ≤ p + 1 := by
 have hmap : (l.map (·.f0)).length = l.length := List.length_map _
 have hh : ∀ h ∈ l.map (·.f0), hdB h = true := fun h hm => by obtain ⟨b, hb1, rfl⟩ := List.mem_map.1 hm; exact (hk b hb1).1
 obtain ⟨ps, hps, h2, h3⟩ := of5_ev (l.map (·.f0)) (by omega) hh
 have hlen := cnt_len ps h2
 obtain ⟨rt, hrt⟩ := root5_ev ps (by omega) (fun p h => pkI_T (h2 p h) (by have := cnt_mem ps h2 p h; omega))
 have e1 := heads_ev l (by omega)
 by_cases hz : (((rd_T82 l a).f1).length : Int) = 0
 ·refine ⟨0, (⟨#[]⟩ : ByteArray), (⟨#[]⟩ : ByteArray), 0, 0, 0, [], [], [], (⟨#[97]⟩ : ByteArray), rt, p, ?_, ⟨⟨Nat.zero_le _, Nat.zero_le _⟩, ⟨Nat.zero_le _, fun p h => absurd h (by simp)⟩, ⟨Nat.zero_le _, fun p h => absurd h (by simp)⟩, ⟨Nat.zero_le _, fun p h => absurd h (by simp)⟩⟩, by omega, by omega⟩
  refine Ev.step (f := fun k => _) (fun k => by simp only [spec_l20Paid.j1]; rfl) ?_
  exact Ev.bind e1 (Ev.bind hps (Ev.bind hrt (Ev.ifp h0 (Ev.ifp h1 (Ev.ifp hz (Ev.now _))))))
 ·obtain ⟨v, hv, hv0, hv1⟩ := pick_lt hb p (((rd_T82 l a).f1).length : Int) hp0 (by omega) (by omega)
  have hit := (hk _ (rdBM l a h0 h1)).2.1
  obtain ⟨at_, s, t, x, y, z, ps2, m, q, he, hs⟩ := of9_ev l hl hk a v h0 h1 hv0 (by omega)
  refine ⟨at_, s, t, x, y, z, ps2, m, q, rdOf ByteArray.empty ((rd_T82 l a).f1) v, rt, p + 1, ?_, hs, by omega, by omega⟩
  refine Ev.step (f := fun k => _) (fun k => by simp only [spec_l20Paid.j1]; rfl) ?_
  exact Ev.bind e1 (Ev.bind hps (Ev.bind hrt (Ev.ifp h0 (Ev.ifp h1 (Ev.ifn hz (Ev.bind hv (Ev.bind he (Ev.ifp hv0 (Ev.ifp hv1 (Ev.now _))))))))))
theorem paid_loop {b : List Int} (hb : Code b) {l : List S82} (hl : l.length ≤ 20) (hl1 : 1 ≤ l.length) (hk : ∀ x ∈ l, bkOk x) {p : Int} (hp0 : 0 ≤ p) (hp1 : p ≤ 10000000) : ∀ (d i : Nat) (a : Int), i + d = l.length → 0 ≤ a → a < (l.length : Int) →
  ∃ at_ s t x y z ps m q u v e, Ev (fun k => spec_l20Paid.l0 k l a (i : Int) b p) (at_, s, t, x, y, z, ps, m, q, u, v, e) ∧ paidS 1000 s t ps m q ∧ p ≤ e ∧ e ≤ p + 1
 | 0, i, a, h, h0, h1 => by
  obtain ⟨at_, s, t, x, y, z, ps, m, q, u, v, e, he, h2⟩ := paid_j1 hb hl hk h0 h1 hp0 hp1
  refine ⟨at_, s, t, x, y, z, ps, m, q, u, v, e, Ev.step (f := fun k => spec_l20Paid.j1 k l a b p) (fun k => ?_) he, h2⟩
  simp only [spec_l20Paid.l0]
  rw [if_neg (by omega)]
 | d + 1, i, a, h, h0, h1 => by
  by_cases hz : (((rd_T82 l a).f1).length : Int) = 0
  ·have ht := tmod_range (show 0 ≤ a + 1 by omega) (show (0 : Int) < (l.length : Int) by omega)
   have w1 : wrap64 (a + 1) = a + 1 := w64 (by omega) (by omega)
   obtain ⟨at_, s, t, x, y, z, ps, m, q, u, v, e, he, h2⟩ := paid_loop hb hl hl1 hk hp0 hp1 d (i + 1) (Int.tmod (a + 1) (l.length : Int)) (by omega) ht.1 ht.2
   refine ⟨at_, s, t, x, y, z, ps, m, q, u, v, e, Ev.step (f := fun k => spec_l20Paid.l0 k l (Int.tmod (a + 1) (l.length : Int)) ((i + 1 : Nat) : Int) b p) (fun k => ?_) he, h2⟩
   simp only [spec_l20Paid.l0]
   rw [if_pos (by omega), if_pos h0, if_pos h1, if_pos hz, if_neg (by omega), w1, wsucc (i := i) (by omega)]
  ·obtain ⟨at_, s, t, x, y, z, ps, m, q, u, v, e, he, h2⟩ := paid_j1 hb hl hk h0 h1 hp0 hp1
   refine ⟨at_, s, t, x, y, z, ps, m, q, u, v, e, Ev.step (f := fun k => spec_l20Paid.j1 k l a b p) (fun k => ?_) he, h2⟩
   simp only [spec_l20Paid.l0]
   rw [if_pos (by omega), if_pos h0, if_pos h1, if_neg hz]
theorem paid_ev {b : List Int} (hb : Code b) (p : Int) (h0 : 0 ≤ p) (h1 : p ≤ 10000) : ∃ at_ s t x y z ps m q u v e, Ev (fun k => spec_l20Paid.f k b p) (at_, s, t, x, y, z, ps, m, q, u, v, e) ∧ paidS 1000 s t ps m q ∧ 0 ≤ e ∧ e ≤ 20000 := by
 obtain ⟨n, hn, hn0, hn1⟩ := pick_lt hb p 8 h0 (by omega) (by omega)
 obtain ⟨l, c, hc, hk, hl1, hl, hc0, hc1⟩ := chain_ev hb (p + 1) (1 + n.toNat) (by omega) (by omega) (by omega) (by omega)
 obtain ⟨a, ha, ha0, ha1⟩ := pick_lt hb c (l.length : Int) (by omega) (by omega) (by omega)
 obtain ⟨at_, s, t, x, y, z, ps, m, q, u, v, e, he, h2, h3, h4⟩ := paid_loop hb hl hl1 hk (p := c + 1) (by omega) (by omega) l.length 0 a (by omega) ha0 ha1
 have w1 : wrap64 (1 + n) = ((1 + n.toNat : Nat) : Int) := by rw [w64 (by omega) (by omega)]; omega
 unfold spec_l20Paid.f
 exact ⟨at_, s, t, x, y, z, ps, m, q, u, v, e, Ev.bind hn (Ev.bind (by show Ev (fun k => spec_l20Chain.f k b (p + 1) [] (wrap64 (1 + n))) _; rw [w1]; exact hc) (Ev.bind ha he)), h2, by omega, by omega⟩
theorem peaksL_most : ∀ (l : List S93), (∀ p ∈ l, pkS p = true) → (peaksL l).length ≤ 30 * l.length
 | [], _ => Nat.le_refl _
 | p :: l, h => by
  have e := peaksL_most l (fun x hx => h x (List.mem_cons_of_mem _ hx))
  obtain ⟨h0, h1, h2⟩ := pkS_facts (h p (List.mem_cons_self ..))
  have d1 := dec_small (n := p.f1) (by omega)
  have d2 := dec_small (n := p.f2) (by omega)
  unfold decS at d1 d2
  rw [str_size] at d1 d2
  rw [peaksL]
  simp only [List.length_cons, List.length_append, bytes_len]
  omega
theorem sidesL_most : ∀ (q : List S48), (∀ p ∈ q, p.f0.size ≤ 16) → (sidesL q).length ≤ 18 * q.length
 | [], _ => Nat.le_refl _
 | p :: q, h => by
  have e := sidesL_most q (fun x hx => h x (List.mem_cons_of_mem _ hx))
  have h0 := h p (List.mem_cons_self ..)
  rw [sidesL]
  simp only [List.length_cons, List.length_append, bytes_len]
  omega
theorem paidL_size {at_ : Int} {s t : ByteArray} {x y z : Int} {l m : List S93} {q : List S48} (h : paidB at_ s t x y z l m q = true) (hl : l.length ≤ 1000) (hm : m.length ≤ 1000) (hq : q.length ≤ 1001) (hs : ∀ p ∈ q, p.f0.size ≤ 16) :
  (strOfNums (paidL at_ s t x y z l m q)).size ≤ 1000000 ∧ 0 < (strOfNums (paidL at_ s t x y z l m q)).size := by
 have h1 := (paidB_iff at_ s t x y z l m q).1 h
 have a1 := peaksL_most l (range_pk h1.2.2.1)
 have a2 := peaksL_most m (fun p hp => List.all_eq_true.1 h1.2.2.2.2.2.1 p hp)
 have a3 := sidesL_most q hs
 have a4 := headS_size h1.2.1
 have d1 := dec_small (n := at_) (by omega)
 unfold decS at d1
 rw [str_size] at d1
 rw [str_size, paidL]
 simp only [List.length_cons, List.length_append, bytes_len, List.length_nil]
 omega
theorem drawPaidGet_ev {c : List Int} (h : ∀ x ∈ c, 0 ≤ x ∧ x ≤ 255) : ∃ S, Ev (fun k => spec_DrawPaidGet.f k c) S ∧ S.size ≤ 1000001 := by
 obtain ⟨b, ho, hb⟩ := open_ev h
 obtain ⟨at_, s, t, x, y, z, l, m, q, u, v, e, he, hs, he0, he1⟩ := paid_ev hb 0 (by omega) (by omega)
 obtain ⟨n, hn, _, _⟩ := pick_lt hb e 2 he0 (by omega) (by omega)
 have hst : s.size ≤ 1048576 ∧ t.size ≤ 1048576 := by have := hs.1; omega
 have hl : l.length ≤ 1048576 ∧ ∀ p ∈ l, p.f0.size ≤ 1048576 := ⟨by have := hs.2.1.1; omega, fun p hp => by have := hs.2.1.2 p hp; omega⟩
 have hm : m.length ≤ 1048576 ∧ ∀ p ∈ m, p.f0.size ≤ 1048576 := ⟨by have := hs.2.2.1.1; omega, fun p hp => by have := hs.2.2.1.2 p hp; omega⟩
 have hq : q.length ≤ 1048576 ∧ ∀ p ∈ q, p.f0.size ≤ 1048576 := ⟨by have := hs.2.2.2.1; omega, fun p hp => by have := hs.2.2.2.2 p hp; omega⟩
 have es := specPaidPut_ev at_ s t x y z l m q hst hl hm hq
 have hz : (paidPut at_ s t x y z l m q).size ≤ 1000000 := by
  by_cases hB : paidB at_ s t x y z l m q = true
  ·rw [paidPut_pos hB]; exact (paidL_size hB hs.2.1.1 hs.2.2.1.1 (Nat.le_succ_of_le hs.2.2.2.1) hs.2.2.2.2).1
  ·rw [paidPut_neg hB]; exact Nat.zero_le _
 unfold spec_DrawPaidGet.f
 by_cases h0 : n = 0
 ·exact ⟨_, Ev.b ho (Ev.bind he (Ev.bind es (Ev.bind hn (Ev.ifp h0 (Ev.now _))))), by omega⟩
 ·obtain ⟨w, c2, hw, hz2, _, _⟩ := bent_ev hb (e + 1) (paidPut at_ s t x y z l m q) (by omega) (by omega) (by omega)
  exact ⟨w, Ev.b ho (Ev.bind he (Ev.bind es (Ev.bind hn (Ev.ifn h0 (Ev.bind hw (Ev.now _)))))), by omega⟩
theorem FnPaidGet : laws_FnPaidGet.Pure := by
 intro c _ _ hw
 refine Ev.rounds (r := true) ?_
 obtain ⟨S, hd, hS⟩ := drawPaidGet_ev (wf_bytes hw)
 unfold laws_FnPaidGet.f
 by_cases ha : (c.length : Int) > 1048576
 ·exact Ev.ifp ha (Ev.now _)
 by_cases h : Written S
 ·obtain ⟨at_, p, r, x, y, z, l, m, q, hb, rfl⟩ := h
  have h1 := (paidB_iff at_ p r x y z l m q).1 hb
  have b1 := words_len (strOfNums (line1 l))
  rw [row1 hb, List.drop_one, List.tail_cons, List.length_map] at b1
  have hz := line_sizes hb
  have fp := headB_size h1.2.1
  have pf : ∀ a ∈ l, a.f0.size ≤ 1048576 := fun a ha => by have := pkS_facts (range_pk h1.2.2.1 a ha); omega
  have mf : ∀ a ∈ m, a.f0.size ≤ 1048576 := fun a ha => by have := pkS_facts (List.all_eq_true.1 h1.2.2.2.2.2.1 a ha); omega
  have qf : ∀ a ∈ q, a.f0.size ≤ 1048576 := fun a ha => by
   have := ((sumB_iff _).1 (List.all_eq_true.1 h1.2.2.2.2.2.2 a ha)).2
   rw [bytes_len] at this; omega
  have e1 := specPaidGet_yes hb (by omega)
  have e2 := implPaidGet_yes hb (by omega)
  have ho := implPaidPut_ev at_ p r x y z l m q ⟨by omega, by omega⟩ ⟨by omega, pf⟩ ⟨by omega, mf⟩ ⟨by omega, qf⟩
  rw [paidPut_pos hb] at ho
  have ec := coPaid_ev at_ p r x y z l m q (by omega) (by omega) (by omega)
  generalize strOfNums (paidL at_ p r x y z l m q) = S at *
  refine Ev.ifn ha (Ev.bind hd (Ev.bind e2 (Ev.bind e1 (Ev.ifn (by simp) (Ev.bind ec (Ev.ifp rfl ?_))))))
  refine Ev.step (f := fun k => _) (fun k => by simp only [laws_FnPaidGet.j0]; rfl) ?_
  refine Ev.ifn (by simp) (Ev.bind ho ?_)
  rw [beq_self_eq_true]
  exact Ev.now _
 ·have e1 := specPaidGet_no S (by omega) h
  have e2 := implPaidGet_no S (by omega) h
  have ec := coPaid_ev 0 (⟨#[]⟩ : ByteArray) (⟨#[]⟩ : ByteArray) 0 0 0 [] [] [] (Nat.zero_le _) (Nat.zero_le _) (Nat.zero_le _)
  refine Ev.ifn ha (Ev.bind hd (Ev.bind e2 (Ev.bind e1 (Ev.ifn (by simp) (Ev.bind ec (Ev.ifp rfl ?_))))))
  refine Ev.step (f := fun k => _) (fun k => by simp only [laws_FnPaidGet.j0]; rfl) ?_
  exact Ev.ifp (by simp) (Ev.ifp (by simp) (Ev.bind ec (Ev.now _)))
end Go.Proofs.YtgjljbaadglpnaaGreatDoor.Pure
