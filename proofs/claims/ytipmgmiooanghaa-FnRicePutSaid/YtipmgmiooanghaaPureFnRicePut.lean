/- The statement FnRicePut, in plain Lean. Conditions: none beyond those that the statement tells. -/
import Derived.Test.YtipmgmiooanghaaPFnRicePutx2
import Derived.Test.YtipmgmiooanghaaPd
import Derived.Test.YtipmgmiooanghaaRy
namespace Go.Proofs.Ytipmgmiooanghaa.Pure
open Go Go.RowKit Go.Proofs.Ytipmgmiooanghaa.PFnRicePut Go.Proofs.YtipmgmiooanghaaW.PrintWords Go.Proofs.YtipmgmiooanghaaW.PrintLast Go.Proofs.YtipmgmiooanghaaW.PrintMore Go.Proofs.Ytipmgmiooanghaa.Pl
set_option linter.unusedVariables false

theorem specIn (a b c : Int) : spec_l1In.f a b c = some (decide (b ≤ a ∧ a ≤ c)) := by
  unfold spec_l1In.f
  by_cases h : a ≥ b
  · rw [if_pos h]; congr 1; exact decide_eq_decide.2 ⟨fun k => ⟨h, k⟩, fun k => k.2⟩
  · rw [if_neg h]; congr 1; exact (decide_eq_false (fun k => h k.1)).symm

open Go.Proofs.Ytipmgmiooanghaa.Rice in
theorem l2Numbers_loop (l : List Int) (hm : l.length ≤ 1000000000000) : ∀ (d i : Nat), i + d = l.length → Ev (fun k => spec_l2Numbers.l0 k l (i : Int)) (decide ((∀ x ∈ l.drop i, numOk x) ∧ l.length ≤ 40))
  | 0, i, h => by
    refine Ev.step (f := fun _ => some (decide ((l.length : Int) ≤ 40))) (fun k => ?_) (Ev.at_ (Ev.now _) (decide_eq_decide.2 ?_))
    · simp only [spec_l2Numbers.l0]; rw [if_neg (by omega)]
    · rw [List.drop_eq_nil_of_le (by omega)]; exact ⟨fun h => ⟨by simp, by omega⟩, fun h => by omega⟩
  | d + 1, i, h => by
    have hi : i < l.length := by omega
    have hr : rd l (i : Int) = l[i] := by unfold rd; rw [Int.toNat_natCast, List.getD_eq_getElem?_getD, List.getElem?_eq_getElem hi, Option.getD_some]
    rw [List.drop_eq_getElem_cons hi]
    by_cases e : numOk l[i]
    · refine Ev.step (f := fun k => spec_l2Numbers.l0 k l ((i + 1 : Nat) : Int)) (fun k => ?_) (Ev.at_ (l2Numbers_loop l hm d (i + 1) (by omega)) (decide_eq_decide.2 ⟨fun h => ⟨fun x hx => (List.mem_cons.1 hx).elim (fun q => q ▸ e) (h.1 x), h.2⟩, fun h => ⟨fun x hx => h.1 x (List.mem_cons_of_mem _ hx), h.2⟩⟩))
      simp only [spec_l2Numbers.l0]
      rw [if_pos (by omega), if_pos (by omega), specIn, hr, Option.bind_some, if_pos (decide_eq_true (show 0 ≤ l[i] ∧ l[i] ≤ 60000 from e)), w64 (by omega) (by omega)]
      rfl
    · refine Ev.step (f := fun _ => some false) (fun k => ?_) (Ev.at_ (Ev.now _) (decide_eq_false fun h => e (h.1 _ List.mem_cons_self)).symm)
      simp only [spec_l2Numbers.l0]
      rw [if_pos (by omega), if_pos (by omega), specIn, hr, Option.bind_some, if_neg (show ¬ decide (0 ≤ l[i] ∧ l[i] ≤ 60000) = true by rw [decide_eq_true_iff]; exact e)]
open Go.Proofs.Ytipmgmiooanghaa.Rice in
theorem specRicePut_ev (l : List Int) (b : Int) (hm : l.length ≤ 1000000000000) : Ev (fun k => spec_RicePut.f k l b) (ricePut l b) := by
  unfold spec_RicePut.f ricePut
  refine Ev.bind (l2Numbers_loop l hm l.length 0 (by omega)) ?_
  rw [List.drop_zero]
  by_cases h : (∀ x ∈ l, numOk x) ∧ l.length ≤ 40
  · refine Ev.ifp (decide_eq_true h) (Ev.b (specIn b 0 8) ?_)
    by_cases hb : 0 ≤ b ∧ b ≤ 8
    · refine Ev.ifp (decide_eq_true hb) ?_
      rw [if_pos (show l.length ≤ 40 ∧ (0 ≤ b ∧ b ≤ 8) ∧ ∀ x ∈ l, numOk x from ⟨h.2, hb, h.1⟩)]
      refine Ev.b (a := riceB b l) ?_ (Ev.now _)
      unfold spec_l2Rice.f
      rw [if_pos ⟨h.2, hb.1, hb.2, h.1⟩]
    · rw [if_neg (show ¬ (l.length ≤ 40 ∧ (0 ≤ b ∧ b ≤ 8) ∧ ∀ x ∈ l, numOk x) from fun k => hb k.2.1)]
      exact Ev.ifn (by rw [decide_eq_true_iff]; exact hb) (Ev.now _)
  · rw [if_neg (show ¬ (l.length ≤ 40 ∧ (0 ≤ b ∧ b ≤ 8) ∧ ∀ x ∈ l, numOk x) from fun k => h ⟨k.2.2, k.1⟩)]
    exact Ev.ifn (by rw [decide_eq_true_iff]; exact h) (Ev.now _)

theorem implRicePut (l : List Int) (b : Int) (hm : l.length ≤ 1000000000) : impl_RicePut.f l b = some (Go.Proofs.Ytipmgmiooanghaa.Rice.ricePut l b) := by
  unfold impl_RicePut.f; rw [if_pos hm]

theorem implRiceGet (s : ByteArray) (many b : Int) (hm : s.size ≤ 1000000000) : impl_RiceGet.f s many b = some (Go.Proofs.Ytipmgmiooanghaa.Rice.riceGet s many b) := by
  unfold impl_RiceGet.f; rw [if_pos hm]

theorem coInts_loop (a b : List Int) (hl : a.length = b.length) (hm : a.length ≤ 1000000000000) : ∀ (d i : Nat), i + d = a.length → Ev (fun k => laws_coInts.l0 k a b (i : Int)) (decide (a.drop i = b.drop i))
  | 0, i, h => by
    refine Ev.step (f := fun _ => some true) (fun k => ?_) (Ev.at_ (Ev.now _) ?_)
    · simp only [laws_coInts.l0]; rw [if_neg (by omega)]
    · rw [List.drop_eq_nil_of_le (by omega), List.drop_eq_nil_of_le (by omega)]; exact (decide_eq_true rfl).symm
  | d + 1, i, h => by
    have ha : i < a.length := by omega
    have hb : i < b.length := by omega
    have ra : rd a (i : Int) = a[i] := by unfold rd; rw [Int.toNat_natCast, List.getD_eq_getElem?_getD, List.getElem?_eq_getElem ha, Option.getD_some]
    have rb : rd b (i : Int) = b[i] := by unfold rd; rw [Int.toNat_natCast, List.getD_eq_getElem?_getD, List.getElem?_eq_getElem hb, Option.getD_some]
    rw [List.drop_eq_getElem_cons ha, List.drop_eq_getElem_cons hb]
    by_cases e : a[i] = b[i]
    · refine Ev.step (f := fun k => laws_coInts.l0 k a b ((i + 1 : Nat) : Int)) (fun k => ?_) (Ev.at_ (coInts_loop a b hl hm d (i + 1) (by omega)) (decide_eq_decide.2 ⟨fun h => by rw [e, h], fun h => (List.cons.inj h).2⟩))
      simp only [laws_coInts.l0]
      rw [if_pos (by omega), if_pos (by omega), if_pos (by omega), ra, rb, if_pos e, w64 (by omega) (by omega)]
      rfl
    · refine Ev.step (f := fun _ => some false) (fun k => ?_) (Ev.at_ (Ev.now _) (decide_eq_false fun h => e (List.cons.inj h).1).symm)
      simp only [laws_coInts.l0]
      rw [if_pos (by omega), if_pos (by omega), if_pos (by omega), ra, rb, if_neg e]
theorem coInts_ev (a b : List Int) (hm : a.length ≤ 1000000000000) : Ev (fun k => laws_coInts.f k a b) (decide (a = b)) := by
  unfold laws_coInts.f
  by_cases hl : a.length = b.length
  · exact Ev.ifp (by omega) (coInts_loop a b hl hm a.length 0 (by omega))
  · exact Ev.ifn (by omega) (Ev.at_ (Ev.now _) (decide_eq_false fun h => hl (by rw [h])).symm)
theorem coInts_same (a : List Int) (hm : a.length ≤ 1000000000000) : Ev (fun k => laws_coInts.f k a a) true := Ev.at_ (coInts_ev a a hm) (decide_eq_true rfl)

/-! ### what is drawn: a code that is read byte by byte -/
/-- A code that is read. -/
def Code (b : List Int) : Prop := (∀ x ∈ b, 0 ≤ x ∧ x ≤ 255) ∧ b.length ≤ 2000
theorem open_ev {l : List Int} (h : ∀ x ∈ l, 0 ≤ x ∧ x ≤ 255) : ∃ b, spec_l20Open.f l = some (b, 0) ∧ Code b := by
  unfold spec_l20Open.f
  by_cases hl : (l.length : Int) > 2000
  · rw [if_pos hl, if_pos (by omega)]
    exact ⟨_, rfl, fun x hx => h x (List.mem_of_mem_take hx), by rw [List.length_take]; omega⟩
  · rw [if_neg hl]
    exact ⟨_, rfl, h, by omega⟩
theorem tmod_range {a b : Int} (h0 : 0 ≤ a) (hb : 0 < b) : 0 ≤ Int.tmod a b ∧ Int.tmod a b < b := by
  rw [Int.tmod_eq_emod_of_nonneg h0]
  exact ⟨Int.emod_nonneg _ (by omega), Int.emod_lt_of_pos _ hb⟩
theorem mixed {b : List Int} (hb : Code b) {p : Int} (h0 : 0 ≤ p) (h1 : p ≤ 1099511627776) (hl : 0 < b.length) (i j : Int) :
    ∃ x, wrap64 (wrap64 (wrap64 (wrap64 (wrap64 (rd b i) * 131) + wrap64 (wrap64 (rd b j) * 1117)) + wrap64 (p * 29)) + wrap64 (wrap64 (Int.tdiv p (b.length : Int)) * 53)) = x ∧ 0 ≤ x ∧ x < 4611686018427387904 := by
  have hi := rd_range hb.1 i
  have hj := rd_range hb.1 j
  have hd : 0 ≤ Int.tdiv p (b.length : Int) ∧ Int.tdiv p (b.length : Int) ≤ p := by
    rw [Int.tdiv_eq_ediv_of_nonneg h0]
    exact ⟨Int.ediv_nonneg h0 (by omega), Int.ediv_le_self _ h0⟩
  generalize rd b i = u at *
  generalize rd b j = v at *
  generalize Int.tdiv p (b.length : Int) = q at *
  refine ⟨u * 131 + v * 1117 + p * 29 + q * 53, ?_, by omega, by omega⟩
  rw [w64 (i := u) (by omega) (by omega), w64 (i := u * 131) (by omega) (by omega), w64 (i := v) (by omega) (by omega), w64 (i := v * 1117) (by omega) (by omega), w64 (i := u * 131 + v * 1117) (by omega) (by omega),
    w64 (i := p * 29) (by omega) (by omega), w64 (i := u * 131 + v * 1117 + p * 29) (by omega) (by omega), w64 (i := q) (by omega) (by omega), w64 (i := q * 53) (by omega) (by omega), w64 (by omega) (by omega)]
theorem pick_ev {b : List Int} (hb : Code b) (p n : Int) (h0 : 0 ≤ p) (h1 : p ≤ 1099511627776) : ∃ v, Ev (fun k => spec_l20Rd_pick.f k b p n) (v, p + 1) ∧ 0 ≤ v ∧ (1 ≤ n → v < n) ∧ (n < 1 → v = 0) := by
  have hw : wrap64 (p + 1) = p + 1 := w64 (by omega) (by omega)
  unfold spec_l20Rd_pick.f
  by_cases hn : n < 1
  · refine ⟨0, Ev.ifp hn ?_, by omega, by omega, fun _ => rfl⟩
    rw [hw]
    refine Ev.step (f := fun _ => some (0, p + 1)) (fun k => ?_) (Ev.now _)
    simp only [spec_l20Rd_pick.j0]; rw [if_pos trivial]
  · by_cases hl : b.length = 0
    · have e : ((b.length : Int) == 0) = true := by rw [beq_iff_eq]; omega
      refine ⟨0, Ev.ifn hn ?_, by omega, by omega, fun _ => rfl⟩
      rw [hw, e]
      refine Ev.step (f := fun _ => some (0, p + 1)) (fun k => ?_) (Ev.now _)
      simp only [spec_l20Rd_pick.j0]; rw [if_pos trivial]
    · have e : ((b.length : Int) == 0) = false := by rw [beq_eq_false_iff_ne]; omega
      have hw1 : wrap64 (p + 1 - 1) = p := by clear hw; exact (w64 (by omega) (by omega)).trans (by omega)
      have hn0 : ¬ n = 0 := by clear hw hw1; omega
      have hl0 : ¬ (b.length : Int) = 0 := by clear hw hw1; omega
      by_cases hp : p < (b.length : Int)
      · have hr := rd_range hb.1 p
        have hwr : wrap64 (rd b p) = rd b p := by clear hw hw1; exact w64 (by omega) (by omega)
        have ht := tmod_range hr.1 (show 0 < n by clear hw hw1 hwr; omega)
        refine ⟨Int.tmod (rd b p) n, Ev.ifn hn ?_, ht.1, fun _ => ht.2, fun h => absurd h hn⟩
        rw [hw, e]
        refine Ev.step (f := fun _ => some (Int.tmod (rd b p) n, p + 1)) (fun k => ?_) (Ev.now _)
        simp only [spec_l20Rd_pick.j0]; rw [if_neg (by simp), hw1, if_pos hp, if_pos h0, if_neg hn0, hwr]
      · have hlp : 0 < (b.length : Int) := by clear hw hw1; omega
        have t1 := tmod_range h0 hlp
        have hq : wrap64 (wrap64 (p * 7) + 3) = p * 7 + 3 := by clear hw hw1; rw [w64 (i := p * 7) (by omega) (by omega)]; exact w64 (by omega) (by omega)
        have t2 := tmod_range (show 0 ≤ p * 7 + 3 by clear hw hw1 hq; omega) hlp
        obtain ⟨x, hx, hx0, hx1⟩ := mixed hb h0 h1 (show 0 < b.length by clear hw hw1 hq; omega) (Int.tmod p (b.length : Int)) (Int.tmod (p * 7 + 3) (b.length : Int))
        have hd0 : 0 ≤ x / 64 := by clear hx hw hw1 hq; omega
        have hd1 : x / 64 < 4611686018427387904 := by clear hx hw hw1 hq; omega
        have hdx : wrap64 (Int.tdiv x 64) = x / 64 := by rw [Int.tdiv_eq_ediv_of_nonneg hx0]; clear hx hw hw1 hq; exact w64 (by omega) (by omega)
        have hxo := xor64 hx0 hx1 hd0 hd1
        have ht := tmod_range hxo.1 (show 0 < n by clear hx hdx hw hw1 hq; omega)
        refine ⟨Int.tmod (Go.bits .xor .i64 x (x / 64)) n, Ev.ifn hn ?_, ht.1, fun _ => ht.2, fun h => absurd h hn⟩
        rw [hw, e]
        refine Ev.step (f := fun _ => some (Int.tmod (Go.bits .xor .i64 x (x / 64)) n, p + 1)) (fun k => ?_) (Ev.now _)
        simp only [spec_l20Rd_pick.j0]
        rw [if_neg (by simp), hw1, if_neg hp, if_neg hl0, if_pos t1.1, if_pos t1.2, hq, if_pos t2.1, if_pos t2.2, if_neg hn0, hx, hdx]
/-- A number below n, n at least 1. -/
theorem pick_lt {b : List Int} (hb : Code b) (p n : Int) (h0 : 0 ≤ p) (h1 : p ≤ 1099511627776) (hn : 1 ≤ n) : ∃ v, Ev (fun k => spec_l20Rd_pick.f k b p n) (v, p + 1) ∧ 0 ≤ v ∧ v < n := by
  obtain ⟨v, h, h2, h3, _⟩ := pick_ev hb p n h0 h1
  exact ⟨v, h, h2, h3 hn⟩

theorem one_ev {b : List Int} (hb : Code b) (p : Int) (l : List Int) (h0 : 0 ≤ p) (h1 : p ≤ 1099511627776) (hl : 1 ≤ (l.length : Int)) : ∃ x, x ∈ l ∧ Ev (fun k => spec_l20Rd_one.f k b p l) (x, p + 1) := by
  obtain ⟨v, hv, hv0, hv1⟩ := pick_lt hb p (l.length : Int) h0 h1 hl
  refine ⟨rd l v, rd_mem v hv0 hv1, ?_⟩
  unfold spec_l20Rd_one.f
  exact Ev.bind hv (Ev.ifp hv0 (Ev.ifp hv1 (Ev.now _)))

theorem numbers_loop {b : List Int} (hb : Code b) : ∀ (d : Nat) (xs : List Int) (p : Int), 0 ≤ p → p + d ≤ 1000000000 → xs.length + d ≤ 1000 →
    ∃ ys q, Ev (fun k => spec_l20Numbers.l0 k xs (d : Int) b p) (ys, q) ∧ ys.length ≤ xs.length + d + 1 ∧ p ≤ q ∧ q ≤ p + d + 2
  | 0, xs, p, h0, h1, hx => by
    obtain ⟨v, hv, hv0, hv1⟩ := pick_lt hb p 12 h0 (by omega) (by omega)
    by_cases hz : v = 0
    · obtain ⟨x, _, hx1⟩ := one_ev hb (p + 1) ([(-1), 60000, 60001] : List Int) (by omega) (by omega) (by decide)
      refine ⟨xs ++ [x], p + 1 + 1, Ev.step (f := fun k => (spec_l20Rd_pick.f k b p 12).bind fun bt131 => (if bt131.1 = 0 then ((spec_l20Rd_one.f k b bt131.2 (([(-1), 60000, 60001] : List Int))).bind fun bt136 => (if xs.length < 17592186044416 then (some ((xs ++ [bt136.1]), bt136.2)) else (none))) else (some (xs, bt131.2)))) (fun k => ?_) (Ev.bind hv (Ev.ifp hz (Ev.bind hx1 (Ev.ifp (by omega) (Ev.now _))))), by rw [List.length_append, List.length_singleton]; omega, by omega, by omega⟩
      simp only [spec_l20Numbers.l0]
      rw [if_neg (by omega)]
    · refine ⟨xs, p + 1, Ev.step (f := fun k => (spec_l20Rd_pick.f k b p 12).bind fun bt131 => (if bt131.1 = 0 then ((spec_l20Rd_one.f k b bt131.2 (([(-1), 60000, 60001] : List Int))).bind fun bt136 => (if xs.length < 17592186044416 then (some ((xs ++ [bt136.1]), bt136.2)) else (none))) else (some (xs, bt131.2)))) (fun k => ?_) (Ev.bind hv (Ev.ifn hz (Ev.now _))), by omega, by omega, by omega⟩
      simp only [spec_l20Numbers.l0]
      rw [if_neg (by omega)]
  | d + 1, xs, p, h0, h1, hx => by
    obtain ⟨x, _, hx1⟩ := one_ev hb p ([0, 1, 5, 31, 32, 100, 700] : List Int) h0 (by omega) (by decide)
    obtain ⟨ys, q, hy, hl, hq0, hq1⟩ := numbers_loop hb d (xs ++ [x]) (p + 1) (by omega) (by omega) (by rw [List.length_append, List.length_singleton]; omega)
    rw [List.length_append, List.length_singleton] at hl
    refine ⟨ys, q, Ev.step (f := fun k => (spec_l20Rd_one.f k b p (([0, 1, 5, 31, 32, 100, 700] : List Int))).bind fun bt126 => (if xs.length < 17592186044416 then (spec_l20Numbers.l0 k (xs ++ [bt126.1]) (d : Int) b bt126.2) else (none))) (fun k => ?_) (Ev.bind hx1 (Ev.ifp (by omega) hy)), by omega, by omega, by omega⟩
    simp only [spec_l20Numbers.l0]
    rw [if_pos (by omega), w64 (by omega) (by omega), show ((d + 1 : Nat) : Int) - 1 = (d : Int) by omega]
theorem numbers_ev {b : List Int} (hb : Code b) (p : Int) (h0 : 0 ≤ p) (h1 : p ≤ 100000000) : ∃ ys q, Ev (fun k => spec_l20Numbers.f k b p) (ys, q) ∧ ys.length ≤ 21 ∧ p ≤ q ∧ q ≤ p + 30 := by
  obtain ⟨n, hn, hn1⟩ := one_ev hb p ([0, 1, 3, 8, 20] : List Int) h0 (by omega) (by decide)
  have hnn : 0 ≤ n ∧ n ≤ 20 := by
    simp only [List.mem_cons, List.not_mem_nil, or_false] at hn
    omega
  obtain ⟨ys, q, hy, hl, hq0, hq1⟩ := numbers_loop hb n.toNat [] (p + 1) (by omega) (by omega) (by rw [List.length_nil]; omega)
  rw [Int.toNat_of_nonneg hnn.1] at hy
  rw [List.length_nil] at hl
  refine ⟨ys, q, ?_, by omega, by omega, by omega⟩
  unfold spec_l20Numbers.f
  exact Ev.bind hn1 hy

theorem drawRice_ev {l : List Int} (h : ∀ x ∈ l, 0 ≤ x ∧ x ≤ 255) : ∃ xs b, Ev (fun k => spec_DrawRicePut.f k l) (xs, b) ∧ xs.length ≤ 21 := by
  obtain ⟨c, hb, hc⟩ := open_ev h
  obtain ⟨ys, q, hy, hl, hq0, hq1⟩ := numbers_ev hc 0 (by omega) (by omega)
  obtain ⟨x, _, hx⟩ := one_ev hc q ([0, 2, 5, 5, 8, 9, (-1)] : List Int) (by omega) (by omega) (by decide)
  refine ⟨ys, x, ?_, hl⟩
  unfold spec_DrawRicePut.f
  exact Ev.b hb (Ev.bind hy (Ev.bind hx (Ev.now _)))
open Go.Proofs.Ytipmgmiooanghaa.Rice in
theorem FnRicePut : laws_FnRicePut.Pure := by
  intro l _ _ hw
  refine Ev.rounds (r := true) ?_
  obtain ⟨xs, b, hd, hl⟩ := drawRice_ev (wf_bytes hw)
  unfold laws_FnRicePut.f
  by_cases ha : (l.length : Int) > 1048576
  · exact Ev.ifp ha (Ev.now _)
  refine Ev.ifn ha (Ev.bind hd (Ev.b (implRicePut xs b (by omega)) (Ev.bind (specRicePut_ev xs b (by omega)) (Ev.ifp rfl ?_))))
  have side : Ev (fun k => laws_FnRicePut.j0 k xs b (ricePut xs b) true) true := by
    refine Ev.step (f := fun k => (spec_RicePut.f k xs b).bind fun t161 => (some ((ricePut xs b).toList == t161.toList))) (fun k => ?_) (Ev.bind (specRicePut_ev xs b (by omega)) (Ev.at_ (Ev.now _) (beq_self_eq_true _)))
    simp only [laws_FnRicePut.j0]
    exact if_pos trivial
  by_cases he : (ricePut xs b).toList = ([] : List UInt8)
  · exact Ev.ifp he side
  refine Ev.ifn he ?_
  by_cases hs : ((ricePut xs b).size : Int) > 600
  · rw [decide_eq_true hs]; exact side
  rw [decide_eq_false hs]
  have hv : xs.length ≤ 40 ∧ (0 ≤ b ∧ b ≤ 8) ∧ (∀ x ∈ xs, numOk x) := Classical.byContradiction fun h => he (by unfold ricePut; rw [if_neg h]; exact (toList_nil_iff _).2 bytes_empty)
  have hr : ricePut xs b = riceB b xs := by unfold ricePut; rw [if_pos hv]
  have hg := riceGet_put hv.1 hv.2.1.1 hv.2.1.2 hv.2.2 (by rw [← hr]; omega)
  rw [← hr] at hg
  have hi := implRiceGet (ricePut xs b) (xs.length : Int) b (by omega)
  rw [hg] at hi
  refine Ev.step (f := fun k => (impl_RiceGet.f (ricePut xs b) (xs.length : Int) b).bind fun bt162 => (if bt162.2 = true then ((laws_coInts.f k bt162.1 xs).bind fun t166 => (some t166)) else (some false))) (fun k => ?_) (Ev.b hi (Ev.ifp rfl (Ev.bind (coInts_same xs (by omega)) (Ev.now _))))
  simp only [laws_FnRicePut.j0]
  exact if_neg (by simp)

end Go.Proofs.Ytipmgmiooanghaa.Pure
