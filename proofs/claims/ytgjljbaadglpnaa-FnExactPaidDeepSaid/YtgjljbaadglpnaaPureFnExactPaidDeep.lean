/- FnExactPaidDeep, its pure part: of all that is paid the program's PaidDeep returns what the reference's returns. Conditions: none beyond those that the statement tells. -/
import Derived.Test.YtgjljbaadglpnaaPFnExactPaidDeepx7
import Derived.Test.YtgjljbaadglpnaaPd
namespace Go.Proofs.Ytgjljbaadglpnaa.Pure
open Go Go.RowKit Go.Proofs.Ytgjljbaadglpnaa.PFnExactPaidDeep Go.Proofs.YtgjljbaadglpnaaW.PrintWords Go.Proofs.YtgjljbaadglpnaaW.PrintLast Go.Proofs.Ytgjljbaadglpnaa.Pl
set_option linter.unusedVariables false

theorem specIn (a b c : Int) : spec_l1In.f a b c = some (decide (b ≤ a ∧ a ≤ c)) := by
  unfold spec_l1In.f
  by_cases h : a ≥ b
  · rw [if_pos h]; congr 1; exact decide_eq_decide.2 ⟨fun k => ⟨h, k⟩, fun k => k.2⟩
  · rw [if_neg h]; congr 1; exact (decide_eq_false (fun k => h k.1)).symm

theorem implIn (a b c : Int) : impl_in.f a b c = some (decide (b ≤ a ∧ a ≤ c)) := by
  unfold impl_in.f
  by_cases h : a ≥ b
  · rw [if_pos h]; congr 1; exact decide_eq_decide.2 ⟨fun k => ⟨h, k⟩, fun k => k.2⟩
  · rw [if_neg h]; congr 1; exact (decide_eq_false (fun k => h k.1)).symm

/-! ### the reference's l1IsSum -/
theorem specFigure (b : Int) : spec_l1Figure.f b = some (decide (48 ≤ b ∧ b ≤ 57)) := by
  unfold spec_l1Figure.f
  by_cases h : b ≥ 48
  · rw [if_pos h]; congr 1; exact decide_eq_decide.2 ⟨fun k => ⟨h, k⟩, fun k => k.2⟩
  · rw [if_neg h]; congr 1; exact (decide_eq_false (fun k => h k.1)).symm
theorem specIsSum_loop (s : ByteArray) (hs : s.size ≤ 140737488351232) (d : Nat) : ∀ i : Nat, i + d = s.size → Ev (fun k => spec_l1IsSum.l0 k s (i : Int)) (((bytesOf s).drop i).all hexd && decide (s.size = 16)) := by
  induction d with
  | zero =>
    intro i hi
    have hlt : ¬ (i : Int) < (s.size : Int) := by omega
    have e : ((s.size : Int) == 16) = decide (s.size = 16) := by rw [Bool.eq_iff_iff, beq_iff_eq, decide_eq_true_iff]; omega
    rw [List.drop_eq_nil_of_le (by rw [bytes_len]; omega), List.all_nil, Bool.true_and]
    refine Ev.step (f := fun _ => some (decide (s.size = 16))) (fun k => ?_) (Ev.now _)
    simp only [spec_l1IsSum.l0]; rw [if_neg hlt, e]
  | succ d ih =>
    intro i hi
    have hlt : (i : Int) < (s.size : Int) := by omega
    have h0 : (0 : Int) ≤ (i : Int) := by omega
    have hi1 : ((i + 1 : Nat) : Int) = (i : Int) + 1 := by omega
    have hd : i + 1 + d = s.size := by omega
    have his : i < s.size := by omega
    have hnx := ih (i + 1) hd
    rw [hi1] at hnx
    have hn : (∀ x, x = bt s (i : Int) → hexd x = true) ∨ (∀ x, x = bt s (i : Int) → hexd x = false) := by
      cases h : hexd (bt s (i : Int))
      · exact .inr fun x hx => by rw [hx]; exact h
      · exact .inl fun x hx => by rw [hx]; exact h
    have hw : wrap64 ((i : Int) + 1) = (i : Int) + 1 := w64 (by omega) (by omega)
    rw [bt_drop s i his, List.all_cons]
    by_cases hf : 48 ≤ bt s (i : Int) ∧ bt s (i : Int) ≤ 57
    · have hx : hexd (bt s (i : Int)) = true := (hexd_iff _).2 (.inl hf)
      rw [hx, Bool.true_and]
      refine Ev.step (f := fun k => spec_l1IsSum.l0 k s ((i : Int) + 1)) (fun k => ?_) hnx
      simp only [spec_l1IsSum.l0]; rw [if_pos hlt, if_pos h0, specFigure, decide_eq_true hf, Option.bind_some, if_pos rfl, hw]
    · by_cases hl : bt s (i : Int) < 97
      · have hx : hexd (bt s (i : Int)) = false := by rw [Bool.eq_false_iff]; intro h; rw [hexd_iff] at h; clear hw; omega
        rw [hx, Bool.false_and, Bool.false_and]
        refine Ev.step (f := fun _ => some false) (fun k => ?_) (Ev.now _)
        simp only [spec_l1IsSum.l0]; rw [if_pos hlt, if_pos h0, specFigure, decide_eq_false hf, Option.bind_some, if_neg (by simp), if_pos hl]
      · by_cases hg : bt s (i : Int) > 102
        · have hx : hexd (bt s (i : Int)) = false := by rw [Bool.eq_false_iff]; intro h; rw [hexd_iff] at h; clear hw; omega
          rw [hx, Bool.false_and, Bool.false_and]
          refine Ev.step (f := fun _ => some false) (fun k => ?_) (Ev.now _)
          simp only [spec_l1IsSum.l0]; rw [if_pos hlt, if_pos h0, specFigure, decide_eq_false hf, Option.bind_some, if_neg (by simp), if_neg hl, if_pos hg]
        · have hx : hexd (bt s (i : Int)) = true := by rw [hexd_iff]; clear hw; omega
          rw [hx, Bool.true_and]
          refine Ev.step (f := fun k => spec_l1IsSum.l0 k s ((i : Int) + 1)) (fun k => ?_) hnx
          simp only [spec_l1IsSum.l0]; rw [if_pos hlt, if_pos h0, specFigure, decide_eq_false hf, Option.bind_some, if_neg (by simp), if_neg hl, if_neg hg, hw]
theorem specIsSum_ev (s : ByteArray) (hs : s.size ≤ 140737488351232) : Ev (fun k => spec_l1IsSum.f k s) (sumB (bytesOf s)) := by
  have h := specIsSum_loop s hs s.size 0 (by omega)
  rw [List.drop_zero, Int.natCast_zero] at h
  unfold spec_l1IsSum.f sumB
  rw [bytes_len]
  exact h

/-! ### the program's isSum -/
theorem implIsSum_loop (s : ByteArray) (hs : s.size ≤ 140737488351232) (d : Nat) : ∀ i : Nat, i + d = s.size → Ev (fun k => impl_isSum.l0 k s (i : Int)) (((bytesOf s).drop i).all hexd && decide (s.size = 16)) := by
  induction d with
  | zero =>
    intro i hi
    have hlt : ¬ (i : Int) < (s.size : Int) := by omega
    have e : ((s.size : Int) == 16) = decide (s.size = 16) := by rw [Bool.eq_iff_iff, beq_iff_eq, decide_eq_true_iff]; omega
    rw [List.drop_eq_nil_of_le (by rw [bytes_len]; omega), List.all_nil, Bool.true_and]
    refine Ev.step (f := fun _ => some (decide (s.size = 16))) (fun k => ?_) (Ev.now _)
    simp only [impl_isSum.l0]; rw [if_neg hlt, e]
  | succ d ih =>
    intro i hi
    have hlt : (i : Int) < (s.size : Int) := by omega
    have h0 : (0 : Int) ≤ (i : Int) := by omega
    have hi1 : ((i + 1 : Nat) : Int) = (i : Int) + 1 := by omega
    have hd : i + 1 + d = s.size := by omega
    have his : i < s.size := by omega
    have hnx := ih (i + 1) hd
    rw [hi1] at hnx
    have hr := bt_range s (i : Int)
    have hb : wrap64 (bt s (i : Int)) = bt s (i : Int) := w64 (by omega) (by omega)
    have hw : wrap64 ((i : Int) + 1) = (i : Int) + 1 := w64 (by clear hb; omega) (by clear hb; omega)
    rw [bt_drop s i his, List.all_cons]
    by_cases hf : 48 ≤ bt s (i : Int) ∧ bt s (i : Int) ≤ 57
    · have hx : hexd (bt s (i : Int)) = true := (hexd_iff _).2 (.inl hf)
      rw [hx, Bool.true_and]
      refine Ev.step (f := fun k => impl_isSum.l0 k s ((i : Int) + 1)) (fun k => ?_) hnx
      simp only [impl_isSum.l0]; rw [if_pos hlt, if_pos h0, implIn, hb, decide_eq_true hf, Option.bind_some, if_pos rfl, hw]
    · by_cases hl : 97 ≤ bt s (i : Int) ∧ bt s (i : Int) ≤ 102
      · have hx : hexd (bt s (i : Int)) = true := (hexd_iff _).2 (.inr hl)
        rw [hx, Bool.true_and]
        refine Ev.step (f := fun k => impl_isSum.l0 k s ((i : Int) + 1)) (fun k => ?_) hnx
        simp only [impl_isSum.l0]; rw [if_pos hlt, if_pos h0, implIn, hb, decide_eq_false hf, Option.bind_some, if_neg (by simp), implIn, decide_eq_true hl, Option.bind_some, if_pos rfl, hw]
      · have hx : hexd (bt s (i : Int)) = false := by rw [Bool.eq_false_iff]; intro h; rw [hexd_iff] at h; clear hw hb; omega
        rw [hx, Bool.false_and, Bool.false_and]
        refine Ev.step (f := fun _ => some false) (fun k => ?_) (Ev.now _)
        simp only [impl_isSum.l0]; rw [if_pos hlt, if_pos h0, implIn, hb, decide_eq_false hf, Option.bind_some, if_neg (by simp), implIn, decide_eq_false hl, Option.bind_some, if_neg (by simp)]
theorem implIsSum_ev (s : ByteArray) (hs : s.size ≤ 140737488351232) : Ev (fun k => impl_isSum.f k s) (sumB (bytesOf s)) := by
  have h := implIsSum_loop s hs s.size 0 (by omega)
  rw [List.drop_zero, Int.natCast_zero] at h
  unfold impl_isSum.f sumB
  rw [bytes_len]
  exact h

/-! ### the laws' own helpers on peaks: sizes, copies, comparison -/
theorem rdLP (l : List S67) (i : Nat) (h : i < l.length) : rd_T67 l (i : Int) = l[i] := by
  unfold rd_T67
  rw [Int.toNat_natCast, List.getD_eq_getElem?_getD, List.getElem?_eq_getElem h, Option.getD_some]
theorem rdIP (l : List S63) (i : Nat) (h : i < l.length) : rd_T63 l (i : Int) = l[i] := by
  unfold rd_T63
  rw [Int.toNat_natCast, List.getD_eq_getElem?_getD, List.getElem?_eq_getElem h, Option.getD_some]
/-- A peak of the laws as one of the program. -/
def cvP (p : S67) : S63 := ⟨p.f0, p.f1, p.f2⟩
theorem szPeakS_loop (l : List S67) (hl : l.length ≤ 9223372036854775807) (hs : ∀ p ∈ l, p.f0.size ≤ 9223372036854775807) (d : Nat) : ∀ (i : Nat) (a : Int), i + d = l.length → 0 ≤ a → a ≤ 1048576 →
    ∃ v, Ev (fun k => laws_szPeakS.l0 k l a (i : Int)) v ∧ (v < 0 ∨ (v ≤ a ∧ ∀ j, i ≤ j → ∀ h : j < l.length, (l[j].f0.size : Int) ≤ 1048576)) := by
  induction d with
  | zero =>
    intro i a hi h0 h1
    refine ⟨a, Ev.step (f := fun _ => some a) (fun k => ?_) (Ev.now _), .inr ⟨Int.le_refl _, fun j hj h => absurd h (by omega)⟩⟩
    simp only [laws_szPeakS.l0]; rw [if_neg (by omega)]
  | succ d ih =>
    intro i a hi h0 h1
    have hil : i < l.length := by omega
    have hlt : (i : Int) < (l.length : Int) := by omega
    have hi0 : (0 : Int) ≤ (i : Int) := by omega
    have hi1 : ((i + 1 : Nat) : Int) = (i : Int) + 1 := by omega
    have hz := hs _ (List.getElem_mem hil)
    have w2 : wrap64 ((i : Int) + 1) = ((i + 1 : Nat) : Int) := by rw [hi1]; exact w64 (by omega) (by omega)
    have w1 : wrap64 (a - (l[i].f0.size : Int)) = a - (l[i].f0.size : Int) := by clear w2; exact w64 (by omega) (by omega)
    by_cases hn : a - (l[i].f0.size : Int) < 0
    · refine ⟨-1, Ev.step (f := fun _ => some (-1)) (fun k => ?_) (Ev.now _), .inl (by decide)⟩
      simp only [laws_szPeakS.l0, laws_szPeak.f]; rw [if_pos hlt, if_pos hi0, rdLP l i hil, w1, if_pos hn, Option.bind_some, if_pos (by decide)]
    · have hd : i + 1 + d = l.length := by omega
      obtain ⟨v, hv, hvv⟩ := ih (i + 1) (a - (l[i].f0.size : Int)) hd (by clear w1 w2; omega) (by clear w1 w2; omega)
      refine ⟨v, Ev.step (f := fun k => laws_szPeakS.l0 k l (a - (l[i].f0.size : Int)) ((i + 1 : Nat) : Int)) (fun k => ?_) hv, ?_⟩
      · simp only [laws_szPeakS.l0, laws_szPeak.f]; rw [if_pos hlt, if_pos hi0, rdLP l i hil, w1, if_neg hn, Option.bind_some, if_neg hn, w2]
      · rcases hvv with h | ⟨h2, h3⟩
        · exact .inl h
        · refine .inr ⟨by clear w1 w2; omega, fun j hj hjl => ?_⟩
          rcases Nat.eq_or_lt_of_le hj with rfl | hj
          · clear w1 w2; omega
          · exact h3 j hj hjl
/-- The sizes' sum: below 0, or all is small. -/
theorem szPeakS_ev (l : List S67) (a : Int) (h0 : 0 ≤ a) (h1 : a ≤ 1048576) (hl : l.length ≤ 9223372036854775807) (hs : ∀ p ∈ l, p.f0.size ≤ 9223372036854775807) :
    ∃ v, Ev (fun k => laws_szPeakS.f k l a) v ∧ (v < 0 ∨ (v ≤ a ∧ l.length ≤ 1048576 ∧ ∀ p ∈ l, p.f0.size ≤ 1048576)) := by
  unfold laws_szPeakS.f
  have w1 : wrap64 (a - (l.length : Int)) = a - (l.length : Int) := w64 (by omega) (by omega)
  rw [w1]
  clear w1
  by_cases hn : a - (l.length : Int) < 0
  · exact ⟨-1, Ev.ifp hn (Ev.now _), .inl (by decide)⟩
  · obtain ⟨v, hv, hvv⟩ := szPeakS_loop l hl hs l.length 0 (a - (l.length : Int)) (by omega) (by omega) (by omega)
    refine ⟨v, Ev.ifn hn ?_, ?_⟩
    · rw [Int.natCast_zero] at hv; exact hv
    · rcases hvv with h | ⟨h2, h3⟩
      · exact .inl h
      · refine .inr ⟨by omega, by omega, fun p hp => ?_⟩
        obtain ⟨j, hj, rfl⟩ := List.getElem_of_mem hp
        have := h3 j (Nat.zero_le _) hj
        omega
theorem toPeakS_loop (l : List S67) (hl : l.length ≤ 1048576) (d : Nat) : ∀ (i : Nat), i + d = l.length →
    Ev (fun k => laws_toPeakS.l0 k l ((l.take i).map cvP ++ List.replicate d z63) (i : Int)) (l.map cvP) := by
  induction d with
  | zero =>
    intro i hi
    rw [List.take_of_length_le (by omega), List.replicate_zero, List.append_nil]
    refine Ev.step (f := fun _ => some (l.map cvP)) (fun k => ?_) (Ev.now _)
    simp only [laws_toPeakS.l0]; rw [if_neg (by omega)]
  | succ d ih =>
    intro i hi
    have hil : i < l.length := by omega
    have hlt : (i : Int) < (l.length : Int) := by omega
    have hi0 : (0 : Int) ≤ (i : Int) := by omega
    have hi1 : ((i + 1 : Nat) : Int) = (i : Int) + 1 := by omega
    have w2 : wrap64 ((i : Int) + 1) = ((i + 1 : Nat) : Int) := by rw [hi1]; exact w64 (by omega) (by omega)
    have hlen : (((l.take i).map cvP ++ List.replicate (d + 1) z63).length : Int) = (l.length : Int) := by
      rw [List.length_append, List.length_map, List.length_take, List.length_replicate, Nat.min_eq_left (Nat.le_of_lt hil)]; omega
    have hset : ((l.take i).map cvP ++ List.replicate (d + 1) z63).set i (cvP l[i]) = (l.take (i + 1)).map cvP ++ List.replicate d z63 := by
      rw [List.set_append_right _ _ (by rw [List.length_map, List.length_take]; omega), List.length_map, List.length_take, Nat.min_eq_left (Nat.le_of_lt hil), Nat.sub_self, List.replicate_succ, List.set_cons_zero, List.take_succ_eq_append_getElem hil, List.map_append, List.append_assoc]
      rfl
    have hnx := ih (i + 1) (by clear w2; omega)
    rw [← hset] at hnx
    refine Ev.step (f := fun k => laws_toPeakS.l0 k l (((l.take i).map cvP ++ List.replicate (d + 1) z63).set i (cvP l[i])) ((i + 1 : Nat) : Int)) (fun k => ?_) hnx
    simp only [laws_toPeakS.l0, laws_toPeak.f]
    rw [if_pos hlt, if_pos hi0, rdLP l i hil, Option.bind_some, hlen, if_pos hlt, w2, Int.toNat_natCast]
    rfl
theorem toPeakS_ev (l : List S67) (hl : l.length ≤ 1048576) : Ev (fun k => laws_toPeakS.f k l) (l.map cvP) := by
  unfold laws_toPeakS.f
  refine Ev.ifp (by omega) (Ev.ifp (by omega) ?_)
  have h := toPeakS_loop l hl l.length 0 (by omega)
  rw [List.take_zero, List.map_nil, List.nil_append, Int.natCast_zero] at h
  rw [Int.toNat_natCast]
  exact h
theorem eqPeakS_loop (l : List S63) (hl : l.length ≤ 1048576) (d : Nat) : ∀ (i : Nat), i + d = l.length → Ev (fun k => laws_eqPeakS.l0 k l l (i : Int)) true := by
  induction d with
  | zero =>
    intro i hi
    refine Ev.step (f := fun _ => some true) (fun k => ?_) (Ev.now _)
    simp only [laws_eqPeakS.l0]; rw [if_neg (by omega)]
  | succ d ih =>
    intro i hi
    have hlt : (i : Int) < (l.length : Int) := by omega
    have hi0 : (0 : Int) ≤ (i : Int) := by omega
    have hi1 : ((i + 1 : Nat) : Int) = (i : Int) + 1 := by omega
    have w2 : wrap64 ((i : Int) + 1) = ((i + 1 : Nat) : Int) := by rw [hi1]; exact w64 (by omega) (by omega)
    refine Ev.step (f := fun k => laws_eqPeakS.l0 k l l ((i + 1 : Nat) : Int)) (fun k => ?_) (ih (i + 1) (by clear w2; omega))
    simp only [laws_eqPeakS.l0, laws_eqPeak.f]
    rw [if_pos hlt, if_pos hi0, if_pos hlt, if_pos trivial, if_pos trivial, if_pos trivial, Option.bind_some, if_pos rfl, w2]
theorem eqPeakS_ev (l : List S63) (hl : l.length ≤ 1048576) : Ev (fun k => laws_eqPeakS.f k l l) true := by
  unfold laws_eqPeakS.f
  have h := eqPeakS_loop l hl l.length 0 (by omega)
  rw [Int.natCast_zero] at h
  exact Ev.ifp rfl h
theorem cvP_size {l : List S67} (h : ∀ p ∈ l, p.f0.size ≤ 1048576) : ∀ p ∈ l.map cvP, p.f0.size ≤ 1048576 := by
  intro p hp
  obtain ⟨q, hq, rfl⟩ := List.mem_map.1 hp
  exact h q hq

/-! ### the laws' own helpers on sides: sizes, copies, comparison -/
theorem rdLD (l : List S57) (i : Nat) (h : i < l.length) : rd_T57 l (i : Int) = l[i] := by
  unfold rd_T57
  rw [Int.toNat_natCast, List.getD_eq_getElem?_getD, List.getElem?_eq_getElem h, Option.getD_some]
theorem rdID (l : List S60) (i : Nat) (h : i < l.length) : rd_T60 l (i : Int) = l[i] := by
  unfold rd_T60
  rw [Int.toNat_natCast, List.getD_eq_getElem?_getD, List.getElem?_eq_getElem h, Option.getD_some]
/-- A side of the laws as one of the program. -/
def cvS (p : S57) : S60 := ⟨p.f0, p.f1⟩
theorem szSideS_loop (l : List S57) (hl : l.length ≤ 9223372036854775807) (hs : ∀ p ∈ l, p.f0.size ≤ 9223372036854775807) (d : Nat) : ∀ (i : Nat) (a : Int), i + d = l.length → 0 ≤ a → a ≤ 1048576 →
    ∃ v, Ev (fun k => laws_szSideS.l0 k l a (i : Int)) v ∧ (v < 0 ∨ (v ≤ a ∧ ∀ j, i ≤ j → ∀ h : j < l.length, (l[j].f0.size : Int) ≤ 1048576)) := by
  induction d with
  | zero =>
    intro i a hi h0 h1
    refine ⟨a, Ev.step (f := fun _ => some a) (fun k => ?_) (Ev.now _), .inr ⟨Int.le_refl _, fun j hj h => absurd h (by omega)⟩⟩
    simp only [laws_szSideS.l0]; rw [if_neg (by omega)]
  | succ d ih =>
    intro i a hi h0 h1
    have hil : i < l.length := by omega
    have hlt : (i : Int) < (l.length : Int) := by omega
    have hi0 : (0 : Int) ≤ (i : Int) := by omega
    have hi1 : ((i + 1 : Nat) : Int) = (i : Int) + 1 := by omega
    have hz := hs _ (List.getElem_mem hil)
    have w2 : wrap64 ((i : Int) + 1) = ((i + 1 : Nat) : Int) := by rw [hi1]; exact w64 (by omega) (by omega)
    have w1 : wrap64 (a - (l[i].f0.size : Int)) = a - (l[i].f0.size : Int) := by clear w2; exact w64 (by omega) (by omega)
    by_cases hn : a - (l[i].f0.size : Int) < 0
    · refine ⟨-1, Ev.step (f := fun _ => some (-1)) (fun k => ?_) (Ev.now _), .inl (by decide)⟩
      simp only [laws_szSideS.l0, laws_szSide.f]; rw [if_pos hlt, if_pos hi0, rdLD l i hil, w1, if_pos hn, Option.bind_some, if_pos (by decide)]
    · have hd : i + 1 + d = l.length := by omega
      obtain ⟨v, hv, hvv⟩ := ih (i + 1) (a - (l[i].f0.size : Int)) hd (by clear w1 w2; omega) (by clear w1 w2; omega)
      refine ⟨v, Ev.step (f := fun k => laws_szSideS.l0 k l (a - (l[i].f0.size : Int)) ((i + 1 : Nat) : Int)) (fun k => ?_) hv, ?_⟩
      · simp only [laws_szSideS.l0, laws_szSide.f]; rw [if_pos hlt, if_pos hi0, rdLD l i hil, w1, if_neg hn, Option.bind_some, if_neg hn, w2]
      · rcases hvv with h | ⟨h2, h3⟩
        · exact .inl h
        · refine .inr ⟨by clear w1 w2; omega, fun j hj hjl => ?_⟩
          rcases Nat.eq_or_lt_of_le hj with rfl | hj
          · clear w1 w2; omega
          · exact h3 j hj hjl
/-- The sizes' sum: below 0, or all is small. -/
theorem szSideS_ev (l : List S57) (a : Int) (h0 : 0 ≤ a) (h1 : a ≤ 1048576) (hl : l.length ≤ 9223372036854775807) (hs : ∀ p ∈ l, p.f0.size ≤ 9223372036854775807) :
    ∃ v, Ev (fun k => laws_szSideS.f k l a) v ∧ (v < 0 ∨ (v ≤ a ∧ l.length ≤ 1048576 ∧ ∀ p ∈ l, p.f0.size ≤ 1048576)) := by
  unfold laws_szSideS.f
  have w1 : wrap64 (a - (l.length : Int)) = a - (l.length : Int) := w64 (by omega) (by omega)
  rw [w1]
  clear w1
  by_cases hn : a - (l.length : Int) < 0
  · exact ⟨-1, Ev.ifp hn (Ev.now _), .inl (by decide)⟩
  · obtain ⟨v, hv, hvv⟩ := szSideS_loop l hl hs l.length 0 (a - (l.length : Int)) (by omega) (by omega) (by omega)
    refine ⟨v, Ev.ifn hn ?_, ?_⟩
    · rw [Int.natCast_zero] at hv; exact hv
    · rcases hvv with h | ⟨h2, h3⟩
      · exact .inl h
      · refine .inr ⟨by omega, by omega, fun p hp => ?_⟩
        obtain ⟨j, hj, rfl⟩ := List.getElem_of_mem hp
        have := h3 j (Nat.zero_le _) hj
        omega
theorem toSideS_loop (l : List S57) (hl : l.length ≤ 1048576) (d : Nat) : ∀ (i : Nat), i + d = l.length →
    Ev (fun k => laws_toSideS.l0 k l ((l.take i).map cvS ++ List.replicate d z60) (i : Int)) (l.map cvS) := by
  induction d with
  | zero =>
    intro i hi
    rw [List.take_of_length_le (by omega), List.replicate_zero, List.append_nil]
    refine Ev.step (f := fun _ => some (l.map cvS)) (fun k => ?_) (Ev.now _)
    simp only [laws_toSideS.l0]; rw [if_neg (by omega)]
  | succ d ih =>
    intro i hi
    have hil : i < l.length := by omega
    have hlt : (i : Int) < (l.length : Int) := by omega
    have hi0 : (0 : Int) ≤ (i : Int) := by omega
    have hi1 : ((i + 1 : Nat) : Int) = (i : Int) + 1 := by omega
    have w2 : wrap64 ((i : Int) + 1) = ((i + 1 : Nat) : Int) := by rw [hi1]; exact w64 (by omega) (by omega)
    have hlen : (((l.take i).map cvS ++ List.replicate (d + 1) z60).length : Int) = (l.length : Int) := by
      rw [List.length_append, List.length_map, List.length_take, List.length_replicate, Nat.min_eq_left (Nat.le_of_lt hil)]; omega
    have hset : ((l.take i).map cvS ++ List.replicate (d + 1) z60).set i (cvS l[i]) = (l.take (i + 1)).map cvS ++ List.replicate d z60 := by
      rw [List.set_append_right _ _ (by rw [List.length_map, List.length_take]; omega), List.length_map, List.length_take, Nat.min_eq_left (Nat.le_of_lt hil), Nat.sub_self, List.replicate_succ, List.set_cons_zero, List.take_succ_eq_append_getElem hil, List.map_append, List.append_assoc]
      rfl
    have hnx := ih (i + 1) (by clear w2; omega)
    rw [← hset] at hnx
    refine Ev.step (f := fun k => laws_toSideS.l0 k l (((l.take i).map cvS ++ List.replicate (d + 1) z60).set i (cvS l[i])) ((i + 1 : Nat) : Int)) (fun k => ?_) hnx
    simp only [laws_toSideS.l0, laws_toSide.f]
    rw [if_pos hlt, if_pos hi0, rdLD l i hil, Option.bind_some, hlen, if_pos hlt, w2, Int.toNat_natCast]
    rfl
theorem toSideS_ev (l : List S57) (hl : l.length ≤ 1048576) : Ev (fun k => laws_toSideS.f k l) (l.map cvS) := by
  unfold laws_toSideS.f
  refine Ev.ifp (by omega) (Ev.ifp (by omega) ?_)
  have h := toSideS_loop l hl l.length 0 (by omega)
  rw [List.take_zero, List.map_nil, List.nil_append, Int.natCast_zero] at h
  rw [Int.toNat_natCast]
  exact h
theorem eqSideS_loop (l : List S60) (hl : l.length ≤ 1048576) (d : Nat) : ∀ (i : Nat), i + d = l.length → Ev (fun k => laws_eqSideS.l0 k l l (i : Int)) true := by
  induction d with
  | zero =>
    intro i hi
    refine Ev.step (f := fun _ => some true) (fun k => ?_) (Ev.now _)
    simp only [laws_eqSideS.l0]; rw [if_neg (by omega)]
  | succ d ih =>
    intro i hi
    have hlt : (i : Int) < (l.length : Int) := by omega
    have hi0 : (0 : Int) ≤ (i : Int) := by omega
    have hi1 : ((i + 1 : Nat) : Int) = (i : Int) + 1 := by omega
    have w2 : wrap64 ((i : Int) + 1) = ((i + 1 : Nat) : Int) := by rw [hi1]; exact w64 (by omega) (by omega)
    refine Ev.step (f := fun k => laws_eqSideS.l0 k l l ((i + 1 : Nat) : Int)) (fun k => ?_) (ih (i + 1) (by clear w2; omega))
    simp only [laws_eqSideS.l0, laws_eqSide.f]
    rw [if_pos hlt, if_pos hi0, if_pos hlt, if_pos trivial, if_neg (by simp), Option.bind_some, if_pos rfl, w2]
theorem eqSideS_ev (l : List S60) (hl : l.length ≤ 1048576) : Ev (fun k => laws_eqSideS.f k l l) true := by
  unfold laws_eqSideS.f
  have h := eqSideS_loop l hl l.length 0 (by omega)
  rw [Int.natCast_zero] at h
  exact Ev.ifp rfl h
theorem cvS_size {l : List S57} (h : ∀ p ∈ l, p.f0.size ≤ 1048576) : ∀ p ∈ l.map cvS, p.f0.size ≤ 1048576 := by
  intro p hp
  obtain ⟨q, hq, rfl⟩ := List.mem_map.1 hp
  exact h q hq

/-! ### peaks that are a range: the plain words -/
/-- A power of two, of numbers in 1..20. -/
def two (c : Int) : Bool := decide (c = 1 ∨ c = 2 ∨ c = 4 ∨ c = 8 ∨ c = 16)
/-- Whether a peak is ok. -/
def pkB (s : ByteArray) (w c : Int) : Bool := sumB (bytesOf s) && (decide (1 ≤ c ∧ c ≤ 20) && decide (c ≤ w ∧ w ≤ c * 8))
theorem pkB_count {s : ByteArray} {w c : Int} (h : pkB s w c = true) : 1 ≤ c ∧ c ≤ 20 := by
  unfold pkB at h
  rw [Bool.and_eq_true, Bool.and_eq_true, decide_eq_true_iff] at h
  exact h.2.1
theorem pkB_work {s : ByteArray} {w c : Int} (h : pkB s w c = true) : c ≤ w ∧ w ≤ c * 8 := by
  unfold pkB at h
  rw [Bool.and_eq_true, Bool.and_eq_true, decide_eq_true_iff, decide_eq_true_iff] at h
  exact h.2.2
theorem twenty {c : Int} (h : 1 ≤ c ∧ c ≤ 20) : c = 1 ∨ c = 2 ∨ c = 3 ∨ c = 4 ∨ c = 5 ∨ c = 6 ∨ c = 7 ∨ c = 8 ∨ c = 9 ∨ c = 10 ∨ c = 11 ∨ c = 12 ∨ c = 13 ∨ c = 14 ∨ c = 15 ∨ c = 16 ∨ c = 17 ∨ c = 18 ∨ c = 19 ∨ c = 20 := by omega
/-- Is the count not below that of the one ahead? -/
def notLess : Option Int → Int → Bool
  | none, _ => false
  | some q, c => decide (c ≥ q)
/-- Whether peaks are a range, the count of the one ahead and the counts so far being told. -/
def rgo : Option Int → Int → List S63 → Bool
  | _, n, [] => decide (n ≤ 20)
  | prev, n, p :: r => if pkB p.f0 p.f1 p.f2 = true then (if two p.f2 = true then (if notLess prev p.f2 = true then false else rgo (some p.f2) (n + p.f2) r) else false) else false
def rangeB (l : List S63) : Bool := rgo none 0 l
theorem rdIP_ (l : List S63) (i : Nat) (h : i < l.length) : rd_T63 l (i : Int) = l[i] := by
  unfold rd_T63
  rw [Int.toNat_natCast, List.getD_eq_getElem?_getD, List.getElem?_eq_getElem h, Option.getD_some]
/-- The count of the peak ahead. -/
def pv (l : List S63) : Nat → Option Int
  | 0 => none
  | i + 1 => some (rd_T63 l (i : Int)).f2
theorem pv_succ (l : List S63) (i : Nat) : pv l (i + 1) = some (rd_T63 l (i : Int)).f2 := rfl
theorem rgo_at (l : List S63) (i : Nat) (n : Int) (h : i < l.length) : rgo (pv l i) n (l.drop i) = if pkB l[i].f0 l[i].f1 l[i].f2 = true then (if two l[i].f2 = true then (if notLess (pv l i) l[i].f2 = true then false else rgo (pv l (i + 1)) (n + l[i].f2) (l.drop (i + 1))) else false) else false := by
  have e : pv l (i + 1) = some l[i].f2 := by rw [pv_succ, rdIP_ l i h]
  rw [List.drop_eq_getElem_cons h, e]
  rfl

/-! ### the reference's RangeOk -/
theorem specTwo_ev {c : Int} (h : 1 ≤ c ∧ c ≤ 20) : Ev (fun k => spec_l5Two.f k c) (two c) := by
  rcases twenty h with rfl | rfl | rfl | rfl | rfl | rfl | rfl | rfl | rfl | rfl | rfl | rfl | rfl | rfl | rfl | rfl | rfl | rfl | rfl | rfl <;> exact Ev.of (fun k => spec_l5Two.mono _ k) (k := 7) (by decide +kernel)
theorem specPeak_ev (s : ByteArray) (w c : Int) (hs : s.size ≤ 140737488351232) : Ev (fun k => spec_l5PeakOk.f k s w c) (pkB s w c) := by
  unfold spec_l5PeakOk.f pkB
  refine Ev.bind (specIsSum_ev s hs) ?_
  by_cases h : sumB (bytesOf s) = true
  · refine Ev.ifp h (Ev.b (specIn _ _ _) ?_)
    rw [h, Bool.true_and]
    by_cases hc : 1 ≤ c ∧ c ≤ 20
    · have hw : wrap64 (c * 8) = c * 8 := w64 (by omega) (by omega)
      rw [decide_eq_true hc, Bool.true_and, hw]
      exact Ev.ifp rfl (Ev.b (specIn _ _ _) (Ev.now _))
    · rw [decide_eq_false hc, Bool.false_and]
      exact Ev.ifn (by simp) (Ev.now _)
  · rw [Bool.eq_false_iff.2 h, Bool.false_and]
    exact Ev.ifn (by simp) (Ev.now _)
theorem specRange_loop (l : List S63) (hl : l.length ≤ 1048576) (hs : ∀ p ∈ l, p.f0.size ≤ 1048576) (d : Nat) : ∀ (i : Nat) (n : Int), i + d = l.length → 0 ≤ n → n ≤ 20 * (i : Int) →
    Ev (fun k => spec_l5Ok.l0 k l n (i : Int)) (rgo (pv l i) n (l.drop i)) := by
  induction d with
  | zero =>
    intro i n hi h0 h1
    rw [List.drop_eq_nil_of_le (by omega)]
    refine Ev.step (f := fun _ => some (decide (n ≤ 20))) (fun k => ?_) (Ev.now _)
    simp only [spec_l5Ok.l0]; rw [if_neg (by omega)]
  | succ d ih =>
    intro i n hi h0 h1
    have hil : i < l.length := by omega
    have hlt : (i : Int) < (l.length : Int) := by omega
    have hi0 : (0 : Int) ≤ (i : Int) := by omega
    have hi1 : ((i + 1 : Nat) : Int) = (i : Int) + 1 := by omega
    have hd : i + 1 + d = l.length := by omega
    have hz := hs _ (List.getElem_mem hil)
    have w2 : wrap64 ((i : Int) + 1) = ((i + 1 : Nat) : Int) := by rw [hi1]; exact w64 (by omega) (by omega)
    rw [rgo_at l i n hil]
    have hpk := specPeak_ev l[i].f0 l[i].f1 l[i].f2 (by clear w2; omega)
    refine Ev.step (f := fun k => (spec_l5PeakOk.f k l[i].f0 l[i].f1 l[i].f2).bind fun t126 => (if t126 = true then ((spec_l5Two.f k l[i].f2).bind fun t128 => (if t128 = true then (if (i : Int) > 0 then (if 0 ≤ (wrap64 ((i : Int) - 1)) then (if (wrap64 ((i : Int) - 1)) < (l.length : Int) then (if l[i].f2 ≥ ((rd_T63 l (wrap64 ((i : Int) - 1))).f2) then (some false) else (spec_l5Ok.l0 k l (wrap64 (n + l[i].f2)) (wrap64 ((i : Int) + 1)))) else (none)) else (none)) else (spec_l5Ok.l0 k l (wrap64 (n + l[i].f2)) (wrap64 ((i : Int) + 1)))) else (some false))) else (some false))) (fun k => ?_) (Ev.bind hpk ?_)
    · simp only [spec_l5Ok.l0]; rw [if_pos hlt, if_pos hi0, rdIP_ l i hil]
    by_cases hp : pkB l[i].f0 l[i].f1 l[i].f2 = true
    · rw [if_pos hp]
      have hc := pkB_count hp
      refine Ev.ifp hp (Ev.bind (specTwo_ev hc) ?_)
      by_cases ht : two l[i].f2 = true
      · rw [if_pos ht]
        refine Ev.ifp ht ?_
        have w3 : wrap64 (n + l[i].f2) = n + l[i].f2 := by clear w2; exact w64 (by omega) (by omega)
        have hnx := ih (i + 1) (n + l[i].f2) hd (by clear w2 w3; omega) (by clear w2 w3; omega)
        rw [w3, w2]
        cases i with
        | zero =>
          rw [if_neg (show ¬ notLess (pv l 0) l[0].f2 = true by unfold pv notLess; simp)]
          exact Ev.ifn (by clear w2 w3; omega) hnx
        | succ i =>
          have w4 : wrap64 (((i + 1 : Nat) : Int) - 1) = (i : Int) := by clear w2 w3; exact (w64 (by omega) (by omega)).trans (by omega)
          rw [w4]
          rw [pv_succ]
          refine Ev.ifp (by clear w2 w3 w4; omega) (Ev.ifp (by clear w2 w3 w4; omega) (Ev.ifp (by clear w2 w3 w4; omega) ?_))
          by_cases hg : l[i + 1].f2 ≥ (rd_T63 l (i : Int)).f2
          · rw [if_pos (show notLess (some (rd_T63 l (i : Int)).f2) l[i + 1].f2 = true from decide_eq_true hg)]
            exact Ev.ifp hg (Ev.now _)
          · rw [if_neg (show ¬ notLess (some (rd_T63 l (i : Int)).f2) l[i + 1].f2 = true by rw [show notLess (some (rd_T63 l (i : Int)).f2) l[i + 1].f2 = false from decide_eq_false hg]; simp)]
            exact Ev.ifn hg hnx
      · rw [if_neg ht]
        exact Ev.ifn ht (Ev.now _)
    · rw [if_neg hp]
      exact Ev.ifn hp (Ev.now _)
theorem specRange_ev (l : List S63) (hl : l.length ≤ 1048576) (hs : ∀ p ∈ l, p.f0.size ≤ 1048576) : Ev (fun k => spec_l5Ok.f k l) (rangeB l) := by
  have h := specRange_loop l hl hs l.length 0 0 (by omega) (by omega) (by omega)
  rw [List.drop_zero, Int.natCast_zero] at h
  unfold spec_l5Ok.f
  exact h

/-! ### the program's RangeOk -/
theorem implPeak_ev (s : ByteArray) (w c : Int) (hs : s.size ≤ 140737488351232) : Ev (fun k => impl_peakOk.f k s w c) (pkB s w c) := by
  unfold impl_peakOk.f pkB
  refine Ev.bind (implIsSum_ev s hs) ?_
  by_cases h : sumB (bytesOf s) = true
  · refine Ev.ifp h (Ev.b (implIn _ _ _) ?_)
    rw [h, Bool.true_and]
    by_cases hc : 1 ≤ c ∧ c ≤ 20
    · have hw : wrap64 (c * 8) = c * 8 := w64 (by omega) (by omega)
      rw [decide_eq_true hc, Bool.true_and, hw]
      exact Ev.ifp rfl (Ev.b (implIn _ _ _) (Ev.now _))
    · rw [decide_eq_false hc, Bool.false_and]
      exact Ev.ifn (by simp) (Ev.now _)
  · rw [Bool.eq_false_iff.2 h, Bool.false_and]
    exact Ev.ifn (by simp) (Ev.now _)
theorem two_and {c : Int} (h : 1 ≤ c ∧ c ≤ 20) : Go.bits .and .i64 c (wrap64 (c - 1)) = 0 ↔ two c = true := by
  rcases twenty h with rfl | rfl | rfl | rfl | rfl | rfl | rfl | rfl | rfl | rfl | rfl | rfl | rfl | rfl | rfl | rfl | rfl | rfl | rfl | rfl <;> decide +kernel
theorem implRange_loop (l : List S63) (hl : l.length ≤ 1048576) (hs : ∀ p ∈ l, p.f0.size ≤ 1048576) (d : Nat) : ∀ (i : Nat) (n : Int), i + d = l.length → 0 ≤ n → n ≤ 20 * (i : Int) →
    Ev (fun k => impl_RangeOk.l0 k l n l (l.length : Int) (i : Int)) (rgo (pv l i) n (l.drop i)) := by
  induction d with
  | zero =>
    intro i n hi h0 h1
    rw [List.drop_eq_nil_of_le (by omega)]
    refine Ev.step (f := fun _ => some (decide (n ≤ 20))) (fun k => ?_) (Ev.now _)
    simp only [impl_RangeOk.l0]; rw [if_neg (by omega)]
  | succ d ih =>
    intro i n hi h0 h1
    have hil : i < l.length := by omega
    have hlt : (i : Int) < (l.length : Int) := by omega
    have hi0 : (0 : Int) ≤ (i : Int) := by omega
    have hi1 : ((i + 1 : Nat) : Int) = (i : Int) + 1 := by omega
    have hd : i + 1 + d = l.length := by omega
    have hz := hs _ (List.getElem_mem hil)
    have w2 : wrap64 ((i : Int) + 1) = ((i + 1 : Nat) : Int) := by rw [hi1]; exact w64 (by omega) (by omega)
    rw [rgo_at l i n hil]
    have hpk := implPeak_ev l[i].f0 l[i].f1 l[i].f2 (by clear w2; omega)
    refine Ev.step (f := fun k => (impl_peakOk.f k l[i].f0 l[i].f1 l[i].f2).bind fun t146 => (if t146 = true then (if (Go.bits .and .i64 l[i].f2 (wrap64 (l[i].f2 - 1))) = 0 then (if (i : Int) > 0 then (if 0 ≤ (wrap64 ((i : Int) - 1)) then (if (wrap64 ((i : Int) - 1)) < (l.length : Int) then (if l[i].f2 ≥ ((rd_T63 l (wrap64 ((i : Int) - 1))).f2) then (some false) else (impl_RangeOk.l0 k l (wrap64 (n + l[i].f2)) l (l.length : Int) (wrap64 ((i : Int) + 1)))) else (none)) else (none)) else (impl_RangeOk.l0 k l (wrap64 (n + l[i].f2)) l (l.length : Int) (wrap64 ((i : Int) + 1)))) else (some false)) else (some false))) (fun k => ?_) (Ev.bind hpk ?_)
    · simp only [impl_RangeOk.l0]; rw [if_pos hlt, if_pos hi0, if_pos hlt, rdIP_ l i hil]
    by_cases hp : pkB l[i].f0 l[i].f1 l[i].f2 = true
    · rw [if_pos hp]
      have hc := pkB_count hp
      refine Ev.ifp hp ?_
      by_cases ht : two l[i].f2 = true
      · rw [if_pos ht]
        refine Ev.ifp ((two_and hc).2 ht) ?_
        have w3 : wrap64 (n + l[i].f2) = n + l[i].f2 := by clear w2; exact w64 (by omega) (by omega)
        have hnx := ih (i + 1) (n + l[i].f2) hd (by clear w2 w3; omega) (by clear w2 w3; omega)
        rw [w3, w2]
        cases i with
        | zero =>
          rw [if_neg (show ¬ notLess (pv l 0) l[0].f2 = true by unfold pv notLess; simp)]
          exact Ev.ifn (by clear w2 w3; omega) hnx
        | succ i =>
          have w4 : wrap64 (((i + 1 : Nat) : Int) - 1) = (i : Int) := by clear w2 w3; exact (w64 (by omega) (by omega)).trans (by omega)
          rw [w4]
          rw [pv_succ]
          refine Ev.ifp (by clear w2 w3 w4; omega) (Ev.ifp (by clear w2 w3 w4; omega) (Ev.ifp (by clear w2 w3 w4; omega) ?_))
          by_cases hg : l[i + 1].f2 ≥ (rd_T63 l (i : Int)).f2
          · rw [if_pos (show notLess (some (rd_T63 l (i : Int)).f2) l[i + 1].f2 = true from decide_eq_true hg)]
            exact Ev.ifp hg (Ev.now _)
          · rw [if_neg (show ¬ notLess (some (rd_T63 l (i : Int)).f2) l[i + 1].f2 = true by rw [show notLess (some (rd_T63 l (i : Int)).f2) l[i + 1].f2 = false from decide_eq_false hg]; simp)]
            exact Ev.ifn hg hnx
      · rw [if_neg ht]
        exact Ev.ifn (fun h => ht ((two_and hc).1 h)) (Ev.now _)
    · rw [if_neg hp]
      exact Ev.ifn hp (Ev.now _)
theorem implRange_ev (l : List S63) (hl : l.length ≤ 1048576) (hs : ∀ p ∈ l, p.f0.size ≤ 1048576) : Ev (fun k => impl_RangeOk.f k l) (rangeB l) := by
  have h := implRange_loop l hl hs l.length 0 0 (by omega) (by omega) (by omega)
  rw [List.drop_zero, Int.natCast_zero] at h
  unfold impl_RangeOk.f
  exact h

/-- All counts and all work of peaks, as Go adds them. -/
def mgo : Int → Int → List S63 → Int × Int
  | n, w, [] => (n, w)
  | n, w, p :: r => mgo (wrap64 (n + p.f2)) (wrap64 (w + p.f1)) r
/-- What RangeMany answers. -/
def manyB (l : List S63) : Int × Int := if rangeB l = true then mgo 0 0 l else (-1, -1)
theorem mgo_at (l : List S63) (i : Nat) (n w : Int) (h : i < l.length) : mgo n w (l.drop i) = mgo (wrap64 (n + l[i].f2)) (wrap64 (w + l[i].f1)) (l.drop (i + 1)) := by
  rw [List.drop_eq_getElem_cons h]
  rfl

theorem specMany_loop (l : List S63) (hl : l.length ≤ 1048576) (d : Nat) : ∀ (i : Nat) (n w : Int), i + d = l.length → Ev (fun k => spec_l5Many.l0 k l n w (i : Int)) (mgo n w (l.drop i)) := by
  induction d with
  | zero =>
    intro i n w hi
    rw [List.drop_eq_nil_of_le (by omega)]
    refine Ev.step (f := fun _ => some (n, w)) (fun k => ?_) (Ev.now _)
    simp only [spec_l5Many.l0]; rw [if_neg (by omega)]
  | succ d ih =>
    intro i n w hi
    have hil : i < l.length := by omega
    have hlt : (i : Int) < (l.length : Int) := by omega
    have hi0 : (0 : Int) ≤ (i : Int) := by omega
    have hi1 : ((i + 1 : Nat) : Int) = (i : Int) + 1 := by omega
    have hd : i + 1 + d = l.length := by omega
    have w2 : wrap64 ((i : Int) + 1) = ((i + 1 : Nat) : Int) := by rw [hi1]; exact w64 (by omega) (by omega)
    rw [mgo_at l i n w hil]
    refine Ev.step (f := fun k => spec_l5Many.l0 k l (wrap64 (n + l[i].f2)) (wrap64 (w + l[i].f1)) ((i + 1 : Nat) : Int)) (fun k => ?_) (ih (i + 1) _ _ hd)
    simp only [spec_l5Many.l0]; rw [if_pos hlt, if_pos hi0, rdIP_ l i hil, w2]
theorem specRangeMany_ev (l : List S63) (hl : l.length ≤ 1048576) (hs : ∀ p ∈ l, p.f0.size ≤ 1048576) : Ev (fun k => spec_RangeMany.f k l) (manyB l) := by
  unfold spec_RangeMany.f manyB
  refine Ev.bind (specRange_ev l hl hs) ?_
  by_cases h : rangeB l = true
  · rw [if_pos h]
    have hm := specMany_loop l hl l.length 0 0 0 (by omega)
    rw [List.drop_zero, Int.natCast_zero] at hm
    refine Ev.ifp h (Ev.bind (f := fun _ b => some (b.1, b.2)) (a := mgo 0 0 l) ?_ (Ev.now _))
    unfold spec_l5Many.f
    exact hm
  · rw [if_neg h]
    exact Ev.ifn h (Ev.now _)

theorem implMany_loop (l : List S63) (hl : l.length ≤ 1048576) (d : Nat) : ∀ (i : Nat) (n w : Int), i + d = l.length → Ev (fun k => impl_RangeMany.l0 k n w l (l.length : Int) (i : Int)) (mgo n w (l.drop i)) := by
  induction d with
  | zero =>
    intro i n w hi
    rw [List.drop_eq_nil_of_le (by omega)]
    refine Ev.step (f := fun _ => some (n, w)) (fun k => ?_) (Ev.now _)
    simp only [impl_RangeMany.l0]; rw [if_neg (by omega)]
  | succ d ih =>
    intro i n w hi
    have hil : i < l.length := by omega
    have hlt : (i : Int) < (l.length : Int) := by omega
    have hi0 : (0 : Int) ≤ (i : Int) := by omega
    have hi1 : ((i + 1 : Nat) : Int) = (i : Int) + 1 := by omega
    have hd : i + 1 + d = l.length := by omega
    have w2 : wrap64 ((i : Int) + 1) = ((i + 1 : Nat) : Int) := by rw [hi1]; exact w64 (by omega) (by omega)
    rw [mgo_at l i n w hil]
    refine Ev.step (f := fun k => impl_RangeMany.l0 k (wrap64 (n + l[i].f2)) (wrap64 (w + l[i].f1)) l (l.length : Int) ((i + 1 : Nat) : Int)) (fun k => ?_) (ih (i + 1) _ _ hd)
    simp only [impl_RangeMany.l0]; rw [if_pos hlt, if_pos hi0, if_pos hlt, rdIP_ l i hil, w2]
theorem implRangeMany_ev (l : List S63) (hl : l.length ≤ 1048576) (hs : ∀ p ∈ l, p.f0.size ≤ 1048576) : Ev (fun k => impl_RangeMany.f k l) (manyB l) := by
  unfold impl_RangeMany.f manyB
  refine Ev.bind (implRange_ev l hl hs) ?_
  by_cases h : rangeB l = true
  · rw [if_pos h]
    have hm := implMany_loop l hl l.length 0 0 0 (by omega)
    rw [List.drop_zero, Int.natCast_zero] at hm
    exact Ev.ifp h hm
  · rw [if_neg h]
    exact Ev.ifn h (Ev.now _)

/-- The counts of a range are at most 20, all together. -/
theorem rgo_many : ∀ (l : List S63) (prev : Option Int) (n w : Int), 0 ≤ n → rgo prev n l = true → n ≤ 20 ∧ 0 ≤ (mgo n w l).1 ∧ (mgo n w l).1 ≤ 20
  | [], prev, n, w, h0, h => by
    have h1 : decide (n ≤ 20) = true := h
    rw [decide_eq_true_iff] at h1
    exact ⟨h1, h0, h1⟩
  | p :: r, prev, n, w, h0, h => by
    unfold rgo at h
    by_cases hp : pkB p.f0 p.f1 p.f2 = true
    · rw [if_pos hp] at h
      have hc := pkB_count hp
      by_cases ht : two p.f2 = true
      · rw [if_pos ht] at h
        by_cases hq : notLess prev p.f2 = true
        · rw [if_pos hq] at h; cases h
        · rw [if_neg hq] at h
          have ih := fun w' => rgo_many r (some p.f2) (n + p.f2) w' (by omega) h
          have hn := (ih 0).1
          have e : wrap64 (n + p.f2) = n + p.f2 := w64 (by omega) (by omega)
          unfold mgo
          rw [e]
          exact ⟨by clear e; omega, (ih _).2.1, (ih _).2.2⟩
      · rw [if_neg ht] at h; cases h
    · rw [if_neg hp] at h; cases h
theorem manyB_range (l : List S63) : -1 ≤ (manyB l).1 ∧ (manyB l).1 ≤ 20 := by
  unfold manyB
  by_cases h : rangeB l = true
  · rw [if_pos h]
    have := rgo_many l none 0 0 (by omega) h
    omega
  · rw [if_neg h]
    decide

/-! ### the laws' own helpers on heads, proofs and what is paid -/
theorem szHead_some (s t : ByteArray) (x y z a : Int) (h0 : 0 ≤ a) (h1 : a ≤ 1048576) (hs : s.size ≤ 9223372036854775807) (ht : t.size ≤ 9223372036854775807) :
    ∃ v, laws_szHead.f s t x y z a = some v ∧ (v < 0 ∨ (v ≤ a ∧ s.size ≤ 1048576 ∧ t.size ≤ 1048576)) := by
  unfold laws_szHead.f
  have w1 : wrap64 (a - (s.size : Int)) = a - (s.size : Int) := w64 (by omega) (by omega)
  rw [w1]
  clear w1
  by_cases h : a - (s.size : Int) < 0
  · exact ⟨-1, if_pos h, .inl (by decide)⟩
  · rw [if_neg h]
    have w2 : wrap64 (a - (s.size : Int) - (t.size : Int)) = a - (s.size : Int) - (t.size : Int) := w64 (by omega) (by omega)
    rw [w2]
    clear w2
    by_cases h2 : a - (s.size : Int) - (t.size : Int) < 0
    · exact ⟨-1, if_pos h2, .inl (by decide)⟩
    · exact ⟨_, if_neg h2, .inr (by omega)⟩
theorem szProof_ev (l m : List S67) (a : Int) (h0 : 0 ≤ a) (h1 : a ≤ 1048576) (hl : l.length ≤ 9223372036854775807) (hs : ∀ p ∈ l, p.f0.size ≤ 9223372036854775807) (hm : m.length ≤ 9223372036854775807) (hsm : ∀ p ∈ m, p.f0.size ≤ 9223372036854775807) :
    ∃ v, Ev (fun k => laws_szProof.f k l m a) v ∧ (v < 0 ∨ (v ≤ a ∧ (l.length ≤ 1048576 ∧ ∀ p ∈ l, p.f0.size ≤ 1048576) ∧ (m.length ≤ 1048576 ∧ ∀ p ∈ m, p.f0.size ≤ 1048576))) := by
  unfold laws_szProof.f
  obtain ⟨v, hv, hvv⟩ := szPeakS_ev l a h0 h1 hl hs
  by_cases h : v < 0
  · exact ⟨-1, Ev.bind hv (Ev.ifp h (Ev.now _)), .inl (by decide)⟩
  · obtain ⟨va, hn, hz⟩ := hvv.resolve_left h
    obtain ⟨u, hu, huu⟩ := szPeakS_ev m v (by omega) (by omega) hm hsm
    by_cases h2 : u < 0
    · exact ⟨-1, Ev.bind hv (Ev.ifn h (Ev.bind hu (Ev.ifp h2 (Ev.now _)))), .inl (by decide)⟩
    · obtain ⟨ua, hn2, hz2⟩ := huu.resolve_left h2
      exact ⟨u, Ev.bind hv (Ev.ifn h (Ev.bind hu (Ev.ifn h2 (Ev.now _)))), .inr ⟨by omega, ⟨hn, hz⟩, ⟨hn2, hz2⟩⟩⟩
/-- What is paid, of the laws: its strings can be read. -/
def PaidIn (s t : ByteArray) (l m : List S67) (q : List S57) : Prop :=
  s.size ≤ 9223372036854775807 ∧ t.size ≤ 9223372036854775807 ∧ (l.length ≤ 9223372036854775807 ∧ ∀ p ∈ l, p.f0.size ≤ 9223372036854775807) ∧ (m.length ≤ 9223372036854775807 ∧ ∀ p ∈ m, p.f0.size ≤ 9223372036854775807) ∧ (q.length ≤ 9223372036854775807 ∧ ∀ p ∈ q, p.f0.size ≤ 9223372036854775807)
/-- What is paid, of the laws: all is small. -/
def PaidSmall (s t : ByteArray) (l m : List S67) (q : List S57) : Prop :=
  s.size ≤ 1048576 ∧ t.size ≤ 1048576 ∧ (l.length ≤ 1048576 ∧ ∀ p ∈ l, p.f0.size ≤ 1048576) ∧ (m.length ≤ 1048576 ∧ ∀ p ∈ m, p.f0.size ≤ 1048576) ∧ (q.length ≤ 1048576 ∧ ∀ p ∈ q, p.f0.size ≤ 1048576)
theorem szPaid_ev (at_ : Int) (s t : ByteArray) (x y z : Int) (l m : List S67) (q : List S57) (h : PaidIn s t l m q) :
    ∃ v, Ev (fun k => laws_szPaid.f k at_ s t x y z l m q 1048576) v ∧ (v < 0 ∨ PaidSmall s t l m q) := by
  obtain ⟨hs, ht, hl, hm, hq⟩ := h
  unfold laws_szPaid.f
  obtain ⟨v, hv, hvv⟩ := szHead_some s t x y z 1048576 (by omega) (by omega) hs ht
  by_cases h : v < 0
  · exact ⟨-1, Ev.b hv (Ev.ifp h (Ev.now _)), .inl (by decide)⟩
  obtain ⟨va, hs2, ht2⟩ := hvv.resolve_left h
  obtain ⟨u, hu, huu⟩ := szProof_ev l m v (by omega) va hl.1 hl.2 hm.1 hm.2
  by_cases h2 : u < 0
  · exact ⟨-1, Ev.b hv (Ev.ifn h (Ev.bind hu (Ev.ifp h2 (Ev.now _)))), .inl (by decide)⟩
  obtain ⟨ua, hl2, hm2⟩ := huu.resolve_left h2
  obtain ⟨r, hr, hrr⟩ := szSideS_ev q u (by omega) (by omega) hq.1 hq.2
  by_cases h3 : r < 0
  · exact ⟨-1, Ev.b hv (Ev.ifn h (Ev.bind hu (Ev.ifn h2 (Ev.bind hr (Ev.ifp h3 (Ev.now _)))))), .inl (by decide)⟩
  obtain ⟨_, hq1, hq2⟩ := hrr.resolve_left h3
  exact ⟨r, Ev.b hv (Ev.ifn h (Ev.bind hu (Ev.ifn h2 (Ev.bind hr (Ev.ifn h3 (Ev.now _)))))), .inr ⟨hs2, ht2, hl2, hm2, hq1, hq2⟩⟩
theorem toPaid_ev (at_ : Int) (s t : ByteArray) (x y z : Int) (l m : List S67) (q : List S57) (h : PaidSmall s t l m q) :
    Ev (fun k => laws_toPaid.f k at_ s t x y z l m q) (at_, s, t, x, y, z, l.map cvP, m.map cvP, q.map cvS) := by
  obtain ⟨_, _, hl, hm, hq⟩ := h
  unfold laws_toPaid.f laws_toHead.f laws_toProof.f
  simp only [Option.bind_some]
  exact Ev.bind (Ev.bind (toPeakS_ev l hl.1) (Ev.bind (toPeakS_ev m hm.1) (Ev.now _))) (Ev.bind (toSideS_ev q hq.1) (Ev.now _))
theorem eqPaid_ev (at_ : Int) (s t : ByteArray) (x y z : Int) (l m : List S63) (q : List S60) (hl : l.length ≤ 1048576) (hm : m.length ≤ 1048576) (hq : q.length ≤ 1048576) :
    Ev (fun k => laws_eqPaid.f k at_ s t x y z l m q at_ s t x y z l m q) true := by
  unfold laws_eqPaid.f laws_eqProof.f
  have hh : laws_eqHead.f s t x y z s t x y z = some true := by unfold laws_eqHead.f; simp
  exact Ev.ifp rfl (Ev.b hh (Ev.ifp rfl (Ev.bind (Ev.bind (eqPeakS_ev l hl) (Ev.ifp rfl (Ev.bind (eqPeakS_ev m hm) (Ev.ifp rfl (Ev.now _))))) (Ev.ifp rfl (Ev.bind (eqSideS_ev q hq) (Ev.ifp rfl (Ev.now _)))))))

/-- What PaidDeep answers. -/
def deepB (at_ : Int) (l : List S63) : Int := if 0 ≤ at_ ∧ at_ ≤ wrap64 ((manyB l).1 - 1) then wrap64 (wrap64 ((manyB l).1 - 1) - at_) else -1
theorem specDeep_ev (at_ : Int) (s t : ByteArray) (x y z : Int) (l m : List S63) (q : List S60) (hl : l.length ≤ 1048576) (hs : ∀ p ∈ l, p.f0.size ≤ 1048576) : Ev (fun k => spec_PaidDeep.f k at_ s t x y z l m q) (deepB at_ l) := by
  unfold spec_PaidDeep.f deepB
  refine Ev.bind (specRangeMany_ev l hl hs) ?_
  have hr := manyB_range l
  by_cases h : (manyB l).1 < 0
  · have e : wrap64 ((manyB l).1 - 1) = (manyB l).1 - 1 := w64 (by omega) (by omega)
    have e2 : ¬ (0 ≤ at_ ∧ at_ ≤ wrap64 ((manyB l).1 - 1)) := by rw [e]; clear e; omega
    rw [if_neg e2]
    exact Ev.ifp h (Ev.now _)
  · refine Ev.ifn h (Ev.b (specIn _ _ _) ?_)
    by_cases h2 : 0 ≤ at_ ∧ at_ ≤ wrap64 ((manyB l).1 - 1)
    · rw [if_pos h2]
      exact Ev.ifp (decide_eq_true h2) (Ev.now _)
    · rw [if_neg h2]
      exact Ev.ifn (by simpa using h2) (Ev.now _)
theorem implDeep_ev (at_ : Int) (s t : ByteArray) (x y z : Int) (l m : List S63) (q : List S60) (hl : l.length ≤ 1048576) (hs : ∀ p ∈ l, p.f0.size ≤ 1048576) : Ev (fun k => impl_PaidDeep.f k at_ s t x y z l m q) (deepB at_ l) := by
  unfold impl_PaidDeep.f deepB
  refine Ev.bind (implRangeMany_ev l hl hs) (Ev.b (implIn _ _ _) ?_)
  by_cases h2 : 0 ≤ at_ ∧ at_ ≤ wrap64 ((manyB l).1 - 1)
  · rw [if_pos h2]
    exact Ev.ifp (decide_eq_true h2) (Ev.now _)
  · rw [if_neg h2]
    exact Ev.ifn (by simpa using h2) (Ev.now _)
/-- The law's own function answers true, of all that is paid. -/
theorem FnExactPaidDeep (at_ : Int) (s t : ByteArray) (x y z : Int) (l m : List S67) (q : List S57) (h : PaidIn s t l m q) : ∃ k, laws_FnExactPaidDeep.f k at_ s t x y z l m q = some true := by
  refine Ev.rounds (g := fun k => laws_FnExactPaidDeep.f k at_ s t x y z l m q) (r := true) ?_
  unfold laws_FnExactPaidDeep.f
  obtain ⟨v, hv, hvv⟩ := szPaid_ev at_ s t x y z l m q h
  refine Ev.bind hv ?_
  by_cases hn : v < 0
  · exact Ev.ifp hn (Ev.now _)
  have hp := hvv.resolve_left hn
  have hl2 : (l.map cvP).length ≤ 1048576 := by rw [List.length_map]; exact hp.2.2.1.1
  have hm2 : (m.map cvP).length ≤ 1048576 := by rw [List.length_map]; exact hp.2.2.2.1.1
  have hq2 : (q.map cvS).length ≤ 1048576 := by rw [List.length_map]; exact hp.2.2.2.2.1
  have hz2 := cvP_size hp.2.2.1.2
  have ht := toPaid_ev at_ s t x y z l m q hp
  refine Ev.ifn hn (Ev.bind ht (Ev.bind (specDeep_ev at_ s t x y z _ _ _ hl2 hz2) (Ev.bind ht (Ev.bind (implDeep_ev at_ s t x y z _ _ _ hl2 hz2) (Ev.ifp rfl (Ev.bind ht (Ev.bind (eqPaid_ev at_ s t x y z _ _ _ hl2 hm2 hq2) (Ev.ifp rfl (Ev.now _)))))))))

end Go.Proofs.Ytgjljbaadglpnaa.Pure
