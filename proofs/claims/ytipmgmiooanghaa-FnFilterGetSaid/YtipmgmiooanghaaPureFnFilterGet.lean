/- What FnFilterGet computes is true for all codes. Conditions: none beyond those that the statement tells. -/
import Derived.Test.YtipmgmiooanghaaPFnFilterGetx11
import Derived.Test.YtipmgmiooanghaaPd
import Derived.Test.YtipmgmiooanghaaRy
namespace Go.Proofs.Ytipmgmiooanghaa.Pure
open Go Go.RowKit Go.Proofs.Ytipmgmiooanghaa.PFnFilterGet Go.Proofs.YtipmgmiooanghaaW.PrintWords Go.Proofs.YtipmgmiooanghaaW.PrintLast Go.Proofs.YtipmgmiooanghaaW.PrintMore Go.Proofs.Ytipmgmiooanghaa.Pl
set_option linter.unusedVariables false

/-! ### VarPut: the steps -/
theorem step_div {n : Nat} (h : n ≤ 2147483647) : wrap64 (Int.tdiv (n : Int) 128) = ((n / 128 : Nat) : Int) := by
  rw [Int.tdiv_eq_ediv_of_nonneg (by omega), w64 (by omega) (by omega)]; omega
theorem step_mod1 {n : Nat} (h : n ≤ 2147483647) : (wrap64 (128 + Int.tmod (n : Int) 128)) % 256 = ((n % 128 + 128 : Nat) : Int) := by
  rw [Int.tmod_eq_emod_of_nonneg (by omega), w64 (by omega) (by omega)]; omega
theorem step_mod2 {n : Nat} (h : n ≤ 2147483647) : (wrap64 (Int.tmod (n : Int) 128 + 128)) % 256 = ((n % 128 + 128 : Nat) : Int) := by
  rw [Int.tmod_eq_emod_of_nonneg (by omega), w64 (by omega) (by omega)]; omega
/-- What VarPut writes. -/
def vput (n : Int) : ByteArray := if 0 ≤ n ∧ n ≤ 2147483647 then strOfNums (vb n.toNat) else ⟨#[]⟩
theorem vput_in {n : Int} (h : 0 ≤ n ∧ n ≤ 2147483647) : vput n = strOfNums (vb n.toNat) := if_pos h
theorem vput_out {n : Int} (h : ¬ (0 ≤ n ∧ n ≤ 2147483647)) : vput n = ⟨#[]⟩ := if_neg h
theorem vput_bytes {n : Int} (h0 : 0 ≤ n) (h1 : n ≤ 2147483647) : bytesOf (vput n) = vb n.toNat := by
  unfold vput; rw [if_pos ⟨h0, h1⟩, bytes_str _ (vb_nn _)]
theorem vput_none {n : Int} (h : ¬ (0 ≤ n ∧ n ≤ 2147483647)) : bytesOf (vput n) = [] := by
  unfold vput; rw [if_neg h]; rfl

theorem specIn (a b c : Int) : spec_l1In.f a b c = some (decide (b ≤ a ∧ a ≤ c)) := by
  unfold spec_l1In.f
  by_cases h : a ≥ b
  · rw [if_pos h]; congr 1; exact decide_eq_decide.2 ⟨fun k => ⟨h, k⟩, fun k => k.2⟩
  · rw [if_neg h]; congr 1; exact (decide_eq_false (fun k => h k.1)).symm

theorem l1Var_loop (n : Nat) : ∀ xs : List Int, n ≤ 2147483647 → xs.length + n < 140737488355328 → Ev (fun k => spec_l1Var.l0 k (n : Int) xs) (strOfNums (xs ++ vb n)) := by
  induction n using Nat.strongRecOn with
  | ind n ih =>
    intro xs hn hx
    by_cases h : n < 128
    · refine Ev.step (f := fun _ => some (strOfNums (xs ++ vb n))) (fun k => ?_) (Ev.now _)
      rw [vb_lt h]; simp only [spec_l1Var.l0]; rw [if_neg (by omega), if_pos (by omega), Int.emod_eq_of_lt (by omega) (by omega)]
    · refine Ev.step (f := fun k => spec_l1Var.l0 k ((n / 128 : Nat) : Int) (xs ++ [((n % 128 + 128 : Nat) : Int)])) (fun k => ?_) ?_
      · simp only [spec_l1Var.l0]; rw [if_pos (by omega), if_pos (by omega), step_div hn, step_mod1 hn]
      · have := ih (n / 128) (by omega) (xs ++ [((n % 128 + 128 : Nat) : Int)]) (by omega) (by simp only [List.length_append, List.length_singleton]; omega)
        rw [vb_ge h]; rw [List.append_assoc] at this; exact this
theorem l1Var_ev {n : Int} (h0 : 0 ≤ n) (h1 : n ≤ 2147483647) : Ev (fun k => spec_l1Var.f k n) (strOfNums (vb n.toNat)) := by
  obtain ⟨m, rfl⟩ := Int.eq_ofNat_of_zero_le h0
  unfold spec_l1Var.f
  have := l1Var_loop m [] (by omega) (by simp only [List.length_nil]; omega)
  rw [Int.toNat_natCast]; exact this

theorem implIn (a b c : Int) : impl_in.f a b c = some (decide (b ≤ a ∧ a ≤ c)) := by
  unfold impl_in.f
  by_cases h : a ≥ b
  · rw [if_pos h]; congr 1; exact decide_eq_decide.2 ⟨fun k => ⟨h, k⟩, fun k => k.2⟩
  · rw [if_neg h]; congr 1; exact (decide_eq_false (fun k => h k.1)).symm

theorem implVarPut_loop (n : Nat) : ∀ xs : List Int, n ≤ 2147483647 → xs.length + n < 140737488355328 → Ev (fun k => impl_VarPut.l0 k (n : Int) xs) (strOfNums (xs ++ vb n)) := by
  induction n using Nat.strongRecOn with
  | ind n ih =>
    intro xs hn hx
    by_cases h : n < 128
    · refine Ev.step (f := fun _ => some (strOfNums (xs ++ vb n))) (fun k => ?_) (Ev.now _)
      rw [vb_lt h]; simp only [impl_VarPut.l0]; rw [if_neg (by omega), if_pos (by omega), Int.emod_eq_of_lt (by omega) (by omega)]
    · refine Ev.step (f := fun k => impl_VarPut.l0 k ((n / 128 : Nat) : Int) (xs ++ [((n % 128 + 128 : Nat) : Int)])) (fun k => ?_) ?_
      · simp only [impl_VarPut.l0]; rw [if_pos (by omega), if_pos (by omega), step_div hn, step_mod2 hn]
      · have := ih (n / 128) (by omega) (xs ++ [((n % 128 + 128 : Nat) : Int)]) (by omega) (by simp only [List.length_append, List.length_singleton]; omega)
        rw [vb_ge h]; rw [List.append_assoc] at this; exact this
theorem implVarPut_ev (n : Int) : Ev (fun k => impl_VarPut.f k n) (vput n) := by
  unfold impl_VarPut.f
  refine Ev.b (implIn _ _ _) ?_
  by_cases h : 0 ≤ n ∧ n ≤ 2147483647
  · rw [vput_in h]
    refine Ev.ifp (decide_eq_true h) ?_
    obtain ⟨m, rfl⟩ := Int.eq_ofNat_of_zero_le h.1
    have := implVarPut_loop m [] (by omega) (by simp only [List.length_nil]; omega)
    rw [Int.toNat_natCast]; exact this
  · rw [vput_out h]
    exact Ev.ifn (by simpa using h) (Ev.now _)

/-! ### VarGet -/
theorem shl64 {x : Int} {y : Int} {j : Nat} (hy : y = (j : Int)) (hj : j ≤ 62) (h0 : 0 ≤ x) (h1 : x * 2 ^ j ≤ 9223372036854775807) : shl .i64 x y = x * 2 ^ j := by
  subst hy
  unfold shl
  rw [Int.toNat_natCast, Nat.min_eq_left (by show j ≤ 64; omega)]
  have h2 : (0 : Int) ≤ 2 ^ j := Int.le_of_lt (Int.pow_pos (by omega))
  have : 0 ≤ x * 2 ^ j := Int.mul_nonneg h0 h2
  exact (i64_w _).trans (w64 (by omega) h1)
theorem pow7 : ∀ i : Nat, (2 : Int) ^ (7 * i) = 128 ^ i
  | 0 => rfl
  | i + 1 => by rw [show 7 * (i + 1) = 7 * i + 7 by omega, Int.pow_add, pow7 i, Int.pow_succ]; rfl
theorem pow128 : ∀ i : Nat, i ≤ 4 → (128 : Int) ^ i ≤ 268435456 ∧ 1 ≤ (128 : Int) ^ i := by
  intro i hi
  have : i = 0 ∨ i = 1 ∨ i = 2 ∨ i = 3 ∨ i = 4 := by omega
  rcases this with rfl | rfl | rfl | rfl | rfl <;> decide
/-- One byte more. -/
theorem more_byte {n b : Int} {i : Nat} (hi : i ≤ 4) (hn0 : 0 ≤ n) (hn : n < 128 ^ i) (hb : 0 ≤ b) (hb2 : b ≤ 255) : 0 ≤ b % 128 * 128 ^ i ∧ b % 128 * 128 ^ i ≤ 34359738368 ∧ 0 ≤ n + b % 128 * 128 ^ i ∧ n + b % 128 * 128 ^ i < 128 ^ (i + 1) ∧ n + b % 128 * 128 ^ i ≤ 34628173824 := by
  obtain ⟨p1, p0⟩ := pow128 i hi
  rw [Int.pow_succ]
  generalize (128 : Int) ^ i = p at *
  have h0 : 0 ≤ b % 128 := by omega
  have h1 : b % 128 ≤ 127 := by omega
  have a : 0 ≤ b % 128 * p := Int.mul_nonneg h0 (by omega)
  have c : b % 128 * p ≤ 127 * p := Int.mul_le_mul_of_nonneg_right h1 (by omega)
  omega
theorem impl_more {n b : Int} {i : Nat} (hi : i ≤ 4) (hn0 : 0 ≤ n) (hn : n < 128 ^ i) (hb : 0 ≤ b) (hb2 : b ≤ 255) :
    wrap64 (n + shl .i64 (wrap64 (Int.tmod b 128)) (wrap64 (7 * (i : Int)))) = n + b % 128 * 128 ^ i := by
  obtain ⟨h0, h1, h2, h3, h4⟩ := more_byte hi hn0 hn hb hb2
  have e : wrap64 (7 * (i : Int)) = ((7 * i : Nat) : Int) := by rw [w64 (by omega) (by omega)]; omega
  rw [e, Int.tmod_eq_emod_of_nonneg hb, w64 (i := b % 128) (by omega) (by omega), shl64 rfl (by omega) (by omega) (by rw [pow7]; omega), pow7, w64 (by omega) (by omega)]
theorem spec_more {n b : Int} {i : Nat} (hi : i ≤ 4) (hn0 : 0 ≤ n) (hn : n < 128 ^ i) (hb : 0 ≤ b) (hb2 : b ≤ 255) :
    wrap64 (n + wrap64 (Int.tmod (wrap64 b) 128 * 128 ^ i)) = n + b % 128 * 128 ^ i := by
  obtain ⟨h0, h1, h2, h3, h4⟩ := more_byte hi hn0 hn hb hb2
  rw [w64 (i := b) (by omega) (by omega), Int.tmod_eq_emod_of_nonneg hb, w64 (i := b % 128 * 128 ^ i) (by omega) (by omega), w64 (by omega) (by omega)]
/-- What was read so far: it is just what is written, if and only if the bytes are the least that can be. -/
theorem put_is_cut (s : ByteArray) (i : Nat) (h : i < s.size) (hp : ∀ x ∈ (bytesOf s).take i, 128 ≤ x) (hb : bt s (i : Int) < 128) :
    (vput (bval ((bytesOf s).take (i + 1)))).toList = (s.extract 0 (i + 1)).toList ↔ ¬ ((i > 0 ∧ bt s (i : Int) = 0) ∨ bval ((bytesOf s).take (i + 1)) > 2147483647) := by
  have hr := bt_range s (i : Int)
  have hne : (bytesOf s).take (i + 1) ≠ [] := by rw [bt_take s i h]; simp
  have hnn := bval_nn ((bytesOf s).take (i + 1))
  rw [toList_iff, bytes_extract, List.drop_zero]
  constructor
  · rintro he (⟨hi, hz⟩ | hg)
    · by_cases hin : 0 ≤ bval ((bytesOf s).take (i + 1)) ∧ bval ((bytesOf s).take (i + 1)) ≤ 2147483647
      · rw [vput_bytes hin.1 hin.2, bt_take s i h] at he
        have := (vb_last _ _ _ he).2.2 hz
        have hl := congrArg List.length this.2
        rw [List.length_take, bytes_len] at hl
        simp only [List.length_nil] at hl
        omega
      · rw [vput_none hin] at he
        exact hne he.symm
    · rw [vput_none (by omega)] at he
      exact hne he.symm
  · intro hg
    rw [vput_bytes hnn (by omega), bt_take s i h]
    rcases Nat.eq_zero_or_pos i with rfl | hi
    · simp only [List.take_zero, List.nil_append]
      exact vb_bval_one (by omega) hb
    · refine (vb_of_bval _ _ (fun x hx => ⟨hp x hx, (bytes_nn s x (List.mem_of_mem_take hx)).2⟩) ?_ hb).1
      have : ¬ bt s (i : Int) = 0 := fun hz => hg (.inl ⟨hi, hz⟩)
      have h0 : 0 ≤ bt s ((i : Nat) : Int) := hr.1
      omega

theorem specGet_loop (s : ByteArray) (hs : s.size ≤ 140737488351232) (d : Nat) : ∀ (i : Nat) (n : Int), i + d = 5 → i ≤ s.size → 0 ≤ n → n < 128 ^ i →
    Ev (fun k => spec_l1Get.l0 k s n (128 ^ i) (i : Int)) (vgo ((bytesOf s).drop i) i n) := by
  induction d with
  | zero =>
    intro i n hi his hn0 hn
    rw [vgo_five _ _ _ (by omega)]
    have h5 : decide ((i : Int) < 5) = false := decide_eq_false (by omega)
    by_cases hlt : (i : Int) < (s.size : Int)
    · refine Ev.step (f := fun k => spec_l1Get.j1 k s n (128 ^ i) (i : Int) (decide ((i : Int) < 5))) (fun k => by simp only [spec_l1Get.l0]; rw [if_pos hlt]) ?_
      refine Ev.step (f := fun _ => some (0, 0)) (fun k => ?_) (Ev.now _)
      rw [h5]; simp only [spec_l1Get.j1]; rw [if_neg (by simp)]
    · refine Ev.step (f := fun k => spec_l1Get.j1 k s n (128 ^ i) (i : Int) false) (fun k => by simp only [spec_l1Get.l0]; rw [if_neg hlt]) ?_
      refine Ev.step (f := fun _ => some (0, 0)) (fun k => ?_) (Ev.now _)
      simp only [spec_l1Get.j1]; rw [if_neg (by simp)]
  | succ d ih =>
    intro i n hi his hn0 hn
    have h5 : decide ((i : Int) < 5) = true := decide_eq_true (by omega)
    have hi1 : ((i + 1 : Nat) : Int) = (i : Int) + 1 := by omega
    by_cases hlt : (i : Int) < (s.size : Int)
    · have hbt := bt_range s (i : Int)
      have hm := more_byte (i := i) (by omega) hn0 hn hbt.1 hbt.2
      have hsm := spec_more (i := i) (by omega) hn0 hn hbt.1 hbt.2
      refine Ev.step (f := fun k => spec_l1Get.j1 k s n (128 ^ i) (i : Int) true) (fun k => by simp only [spec_l1Get.l0]; rw [if_pos hlt, h5]) ?_
      rw [bt_drop s i (by omega)]
      unfold vgo
      rw [if_neg (by omega)]
      by_cases hb : bt s (i : Int) < 128
      · rw [if_pos hb]
        by_cases hz : (i > 0 ∧ bt s (i : Int) = 0) ∨ n + bt s (i : Int) % 128 * 128 ^ i > 2147483647
        · rw [if_pos hz]
          refine Ev.step (f := fun _ => some (0, 0)) (fun k => ?_) (Ev.now _)
          simp only [spec_l1Get.j1]
          rw [if_pos trivial, if_pos (by omega), if_pos hlt, if_pos hb, hsm]
          by_cases hi0 : (i : Int) > 0
          · rw [if_pos hi0]
            by_cases hb0 : bt s (i : Int) = 0
            · rw [if_pos hb0]
            · rw [if_neg hb0, if_pos (by omega)]
          · rw [if_neg hi0, if_pos (by omega)]
        · rw [if_neg hz]
          refine Ev.step (f := fun _ => some (n + bt s (i : Int) % 128 * 128 ^ i, (i : Int) + 1)) (fun k => ?_) (Ev.now _)
          simp only [spec_l1Get.j1]
          rw [if_pos trivial, if_pos (by omega), if_pos hlt, if_pos hb, hsm, w64 (i := (i : Int) + 1) (by omega) (by omega)]
          by_cases hi0 : (i : Int) > 0
          · rw [if_pos hi0, if_neg (by omega), if_neg (by omega)]
          · rw [if_neg hi0, if_neg (by omega)]
      · rw [if_neg hb]
        have hp := pow128 i (by omega)
        refine Ev.step (f := fun k => spec_l1Get.l0 k s (n + bt s (i : Int) % 128 * 128 ^ i) (128 ^ (i + 1)) ((i + 1 : Nat) : Int)) (fun k => ?_) (ih (i + 1) _ (by omega) (by omega) hm.2.2.1 hm.2.2.2.1)
        simp only [spec_l1Get.j1]
        rw [if_pos trivial, if_pos (by omega), if_pos hlt, if_neg hb, hsm, w64 (i := (i : Int) + 1) (by omega) (by omega), w64 (i := (128 : Int) ^ i * 128) (by omega) (by omega), Int.pow_succ, hi1]
    · refine Ev.step (f := fun k => spec_l1Get.j1 k s n (128 ^ i) (i : Int) false) (fun k => by simp only [spec_l1Get.l0]; rw [if_neg hlt]) ?_
      rw [List.drop_eq_nil_of_le (by rw [bytes_len]; omega), vgo_nil]
      refine Ev.step (f := fun _ => some (0, 0)) (fun k => ?_) (Ev.now _)
      simp only [spec_l1Get.j1]; rw [if_neg (by simp)]
theorem vget_ev (s : ByteArray) (hs : s.size ≤ 140737488351232) : Ev (fun k => spec_l1Get.f k s) (vgo (bytesOf s) 0 0) := by
  have h := specGet_loop s hs 5 0 0 (by omega) (by omega) (by omega) (by simp)
  rw [List.drop_zero, Int.natCast_zero, Int.pow_zero] at h
  unfold spec_l1Get.f
  exact h

theorem implGet_loop (s : ByteArray) (hs : s.size ≤ 140737488351232) (d : Nat) : ∀ (i : Nat) (n : Int), i + d = 5 → i ≤ s.size → n = bval ((bytesOf s).take i) → (∀ x ∈ (bytesOf s).take i, 128 ≤ x) →
    Ev (fun k => impl_VarGet.l0 k s n (i : Int)) (vgo ((bytesOf s).drop i) i n) := by
  induction d with
  | zero =>
    intro i n hi his hn hall
    rw [vgo_five _ _ _ (by omega)]
    have h5 : decide ((i : Int) < 5) = false := decide_eq_false (by omega)
    by_cases hlt : (i : Int) < (s.size : Int)
    · refine Ev.step (f := fun k => impl_VarGet.j1 k s n (i : Int) (decide ((i : Int) < 5))) (fun k => by simp only [impl_VarGet.l0]; rw [if_pos hlt]) ?_
      refine Ev.step (f := fun _ => some (0, 0)) (fun k => ?_) (Ev.now _)
      rw [h5]; simp only [impl_VarGet.j1]; rw [if_neg (by simp)]
    · refine Ev.step (f := fun k => impl_VarGet.j1 k s n (i : Int) false) (fun k => by simp only [impl_VarGet.l0]; rw [if_neg hlt]) ?_
      refine Ev.step (f := fun _ => some (0, 0)) (fun k => ?_) (Ev.now _)
      simp only [impl_VarGet.j1]; rw [if_neg (by simp)]
  | succ d ih =>
    intro i n hi his hn hall
    have hn0 : 0 ≤ n := by rw [hn]; exact bval_nn _
    have hnl : n < 128 ^ i := by
      have := bval_lt ((bytesOf s).take i)
      rw [List.length_take, bytes_len, Nat.min_eq_left his] at this
      rw [hn]; exact this
    have h5 : decide ((i : Int) < 5) = true := decide_eq_true (by omega)
    have hi1 : ((i + 1 : Nat) : Int) = (i : Int) + 1 := by omega
    by_cases hlt : (i : Int) < (s.size : Int)
    · have hbt := bt_range s (i : Int)
      have hw : wrap64 ((i : Int) + 1) = (i : Int) + 1 := w64 (by omega) (by omega)
      have h7 : wrap64 (7 * (i : Int)) = 7 * (i : Int) := w64 (by omega) (by omega)
      have hq : ((i : Int) + 1).toNat = i + 1 := by omega
      have h0i : (0 : Int) ≤ (i : Int) := by omega
      have h70 : (0 : Int) ≤ 7 * (i : Int) := by omega
      have e0 : (0 : Int) ≤ (i : Int) + 1 := by omega
      have e1 : (i : Int) + 1 ≤ (s.size : Int) := by omega
      have hi5 : ¬ i ≥ 5 := by omega
      have hi4 : i ≤ 4 := by omega
      have his1 : i < s.size := by omega
      have his2 : i + 1 ≤ s.size := by omega
      have hid : i + 1 + d = 5 := by omega
      refine Ev.step (f := fun k => impl_VarGet.j1 k s n (i : Int) true) (fun k => by simp only [impl_VarGet.l0]; rw [if_pos hlt, h5]) ?_
      rw [bt_drop s i his1]
      unfold vgo
      rw [if_neg hi5]
      have him := impl_more hi4 hn0 hnl hbt.1 hbt.2
      have hv : n + bt s (i : Int) % 128 * 128 ^ i = bval ((bytesOf s).take (i + 1)) := by
        rw [bt_take s i his1, bval_snoc, List.length_take, bytes_len, Nat.min_eq_left his, hn]
      rw [h7] at him
      by_cases hb : bt s (i : Int) < 128
      · rw [if_pos hb]
        have hc := put_is_cut s i his1 hall hb
        rw [← hv] at hc
        refine Ev.step (f := fun k => (impl_VarPut.f k (n + bt s (i : Int) % 128 * 128 ^ i)).bind fun t => if t.toList = (s.extract 0 (i + 1)).toList then some (n + bt s (i : Int) % 128 * 128 ^ i, (i : Int) + 1) else some (0, 0)) (fun k => ?_) ?_
        · simp only [impl_VarGet.j1]
          rw [if_pos trivial, if_pos h0i, if_pos hlt, h7, if_pos h70, if_pos hb, him, hw, hq]
          refine congrArg _ (funext fun t => ?_)
          rw [if_pos e0, if_pos e1]
        · refine Ev.bind (implVarPut_ev _) ?_
          by_cases hz : (i > 0 ∧ bt s (i : Int) = 0) ∨ n + bt s (i : Int) % 128 * 128 ^ i > 2147483647
          · rw [if_pos hz]
            exact Ev.ifn (fun h => (hc.1 h) hz) (Ev.now _)
          · rw [if_neg hz]
            exact Ev.ifp (hc.2 hz) (Ev.now _)
      · rw [if_neg hb]
        refine Ev.step (f := fun k => impl_VarGet.l0 k s (n + bt s (i : Int) % 128 * 128 ^ i) ((i + 1 : Nat) : Int)) (fun k => ?_) (ih (i + 1) _ hid his2 hv ?_)
        · simp only [impl_VarGet.j1]
          rw [if_pos trivial, if_pos h0i, if_pos hlt, h7, if_pos h70, if_neg hb, him, hw, hi1]
        · rw [bt_take s i his1]
          intro x hx
          rcases List.mem_append.1 hx with hx | hx
          · exact hall x hx
          · simp only [List.mem_singleton] at hx
            clear him hv h7 hw
            omega
    · refine Ev.step (f := fun k => impl_VarGet.j1 k s n (i : Int) false) (fun k => by simp only [impl_VarGet.l0]; rw [if_neg hlt]) ?_
      rw [List.drop_eq_nil_of_le (by rw [bytes_len]; omega), vgo_nil]
      refine Ev.step (f := fun _ => some (0, 0)) (fun k => ?_) (Ev.now _)
      simp only [impl_VarGet.j1]; rw [if_neg (by simp)]
theorem implVarGet_ev (s : ByteArray) (hs : s.size ≤ 140737488351232) : Ev (fun k => impl_VarGet.f k s) (vgo (bytesOf s) 0 0) := by
  have h := implGet_loop s hs 5 0 0 (by omega) (by omega) (by simp [bval]) (by simp)
  rw [List.drop_zero, Int.natCast_zero] at h
  unfold impl_VarGet.f
  exact h

open Go.Proofs.Ytipmgmiooanghaa.Rice in
theorem specBit_in (s : ByteArray) (p : Int) (h0 : 0 ≤ p) (h1 : p < 8 * (s.size : Int)) (hs : s.size ≤ 600) : spec_l2Bit.f s p = some (bitAt s p) := by
  unfold spec_l2Bit.f
  have e : Int.tdiv p 8 = p / 8 := Int.tdiv_eq_ediv_of_nonneg h0
  have e2 : Int.tmod p 8 = p % 8 := Int.tmod_eq_emod_of_nonneg h0
  rw [e, e2, w64 (by omega) (by omega), w64 (show -9223372036854775808 ≤ 7 - p % 8 by omega) (by omega)]
  obtain ⟨hb0, hb1⟩ := bt_range s (p / 8)
  rw [w64 (show -9223372036854775808 ≤ bt s (p / 8) by omega) (by omega), if_neg (by omega), if_pos (by omega), if_pos (by omega), if_pos (by omega), bitAt_of s p h1]
  congr 1
  have hsh : shr .i64 (bt s (p / 8)) (7 - p % 8) = bt s (p / 8) / 2 ^ (7 - p % 8).toNat := by
    unfold shr
    rw [Nat.min_eq_left (by have : IntKind.i64.bits = 64 := rfl; omega)]
  rw [hsh]
  exact Int.tmod_eq_emod_of_nonneg (Int.ediv_nonneg hb0 (Int.pow_nonneg (by omega)))
open Go.Proofs.Ytipmgmiooanghaa.Rice in
theorem specBit_out (s : ByteArray) (p : Int) (h1 : 8 * (s.size : Int) ≤ p) (h2 : p ≤ 1000000) : spec_l2Bit.f s p = some (-1) := by
  unfold spec_l2Bit.f
  have e : Int.tdiv p 8 = p / 8 := Int.tdiv_eq_ediv_of_nonneg (by omega)
  rw [e, w64 (by omega) (by omega), if_pos (by omega)]
open Go.Proofs.Ytipmgmiooanghaa.Rice in
theorem specRest_in (s : ByteArray) (hs : s.size ≤ 600) (m b : Int) (hb0 : 0 ≤ b) (hb8 : b ≤ 8) (xs : List Int) (hx : xs.length ≤ 40) (r : List Int × Int) :
    ∀ (c : Nat) (n p : Int), (c : Int) ≤ b → 0 ≤ p → p + c ≤ 8 * (s.size : Int) → 0 ≤ n → n + 1 ≤ 5000 * 2 ^ (b.toNat - c) →
      Ev (fun k => if restV (bitAt s) c p n > 60000 then some (([] : List Int), (-1 : Int)) else spec_l2Read.l0 k s m b (xs ++ [restV (bitAt s) c p n]) (p + c)) r → Ev (fun k => spec_l2Read.l2 k s m b xs p n (b - c)) r
  | 0, n, p, hc, hp0, hp1, hn0, hn1, h => by
    refine Ev.step (f := fun k => if restV (bitAt s) 0 p n > 60000 then some (([] : List Int), (-1 : Int)) else spec_l2Read.l0 k s m b (xs ++ [restV (bitAt s) 0 p n]) (p + ((0 : Nat) : Int))) (fun k => ?_) h
    simp only [spec_l2Read.l2, restV]
    rw [if_neg (by omega), w64 (by omega) (by omega), if_neg (by omega), show p + ((0 : Nat) : Int) = p by omega]
    by_cases h6 : n > 60000
    · rw [if_pos h6]; exact (if_pos h6).symm
    · rw [if_neg h6, if_pos (by omega)]; exact (if_neg h6).symm
  | c + 1, n, p, hc, hp0, hp1, hn0, hn1, h => by
    obtain ⟨h0, h1⟩ := bitAt_range s p
    have hpw : (2 : Int) ^ (b.toNat - c) = 2 * 2 ^ (b.toNat - (c + 1)) := by
      rw [show b.toNat - c = b.toNat - (c + 1) + 1 by omega, Int.pow_succ]; omega
    have hn := (pow8 (show b.toNat - (c + 1) ≤ 8 by omega)).2
    refine Ev.step (f := fun k => spec_l2Read.l2 k s m b xs (p + 1) (2 * n + bitAt s p) (b - c)) (fun k => ?_) (specRest_in s hs m b hb0 hb8 xs hx r c (2 * n + bitAt s p) (p + 1) (by omega) (by omega) (by omega) (by omega) (by omega) ?_)
    · simp only [spec_l2Read.l2]
      rw [if_pos (by omega), specBit_in s p hp0 (by omega) hs, Option.bind_some, w64 (show -9223372036854775808 ≤ p + 1 by omega) (by omega), w64 (show -9223372036854775808 ≤ n * 2 by omega) (by omega), w64 (show -9223372036854775808 ≤ n * 2 + bitAt s p by omega) (by omega), w64 (show -9223372036854775808 ≤ b - ((c + 1 : Nat) : Int) + 1 by omega) (by omega), show b - ((c + 1 : Nat) : Int) + 1 = b - c by omega, Int.mul_comm n 2]
    · rw [show p + 1 + (c : Int) = p + ((c + 1 : Nat) : Int) by omega]
      exact h
open Go.Proofs.Ytipmgmiooanghaa.Rice in
theorem specBit_any (s : ByteArray) (hs : s.size ≤ 600) (p : Int) (h0 : 0 ≤ p) (h2 : p ≤ 1000000) : ∃ t, spec_l2Bit.f s p = some t ∧ -1 ≤ t ∧ t ≤ 1 := by
  by_cases h : p < 8 * (s.size : Int)
  · exact ⟨_, specBit_in s p h0 h hs, by have := (bitAt_range s p).1; omega, (bitAt_range s p).2⟩
  · exact ⟨_, specBit_out s p (by omega) h2, by omega, by omega⟩
open Go.Proofs.Ytipmgmiooanghaa.Rice in
theorem specRest_out (s : ByteArray) (hs : s.size ≤ 600) (m b : Int) (hb0 : 0 ≤ b) (hb8 : b ≤ 8) (xs : List Int) :
    ∀ (c : Nat) (n p : Int), (c : Int) ≤ b → 0 ≤ p → p + c ≤ 100000 → 8 * (s.size : Int) < p + c → -(5000 * 2 ^ (b.toNat - c)) < n → n < 5000 * 2 ^ (b.toNat - c) →
      Ev (fun k => spec_l2Read.l2 k s m b xs p n (b - c)) ([], -1)
  | 0, n, p, hc, hp0, hp1, hp2, hn0, hn1 => by
    refine Ev.step (f := fun _ => some ([], -1)) (fun k => ?_) (Ev.now _)
    simp only [spec_l2Read.l2]
    rw [if_neg (by omega), w64 (by omega) (by omega), if_pos (by omega)]
  | c + 1, n, p, hc, hp0, hp1, hp2, hn0, hn1 => by
    obtain ⟨t, ht, ht0, ht1⟩ := specBit_any s hs p hp0 (by omega)
    have hpw : (2 : Int) ^ (b.toNat - c) = 2 * 2 ^ (b.toNat - (c + 1)) := by
      rw [show b.toNat - c = b.toNat - (c + 1) + 1 by omega, Int.pow_succ]; omega
    have hn := (pow8 (show b.toNat - (c + 1) ≤ 8 by omega)).2
    refine Ev.step (f := fun k => spec_l2Read.l2 k s m b xs (p + 1) (n * 2 + t) (b - c)) (fun k => ?_) (specRest_out s hs m b hb0 hb8 xs c (n * 2 + t) (p + 1) (by omega) (by omega) (by omega) (by omega) (by omega) (by omega))
    simp only [spec_l2Read.l2]
    rw [if_pos (by omega), ht, Option.bind_some, w64 (show -9223372036854775808 ≤ p + 1 by omega) (by omega), w64 (show -9223372036854775808 ≤ n * 2 by omega) (by omega), w64 (show -9223372036854775808 ≤ n * 2 + t by omega) (by omega), w64 (show -9223372036854775808 ≤ b - ((c + 1 : Nat) : Int) + 1 by omega) (by omega), show b - ((c + 1 : Nat) : Int) + 1 = b - c by omega]
open Go.Proofs.Ytipmgmiooanghaa.Rice in
theorem specOnes (s : ByteArray) (hs : s.size ≤ 600) (m b : Int) (xs : List Int) (r : List Int × Int) :
    ∀ (q : Nat) (n p : Int), ones s p = q → 0 ≤ p → p ≤ 100000 → 0 ≤ n → n + q ≤ 4800 → Ev (fun k => spec_l2Read.l2 k s m b xs (p + q + 1) (n + q) 0) r → Ev (fun k => spec_l2Read.l1 k s m b xs p n) r
  | 0, n, p, hq, hp0, hp1, hn0, hn1, h => by
    have h1 : ¬ bitAt s p = 1 := fun h => by rw [ones_one h] at hq; omega
    refine Ev.step (f := fun k => spec_l2Read.l2 k s m b xs (p + 1) n 0) (fun k => ?_) (by simpa using h)
    simp only [spec_l2Read.l1]
    by_cases hp : p < 8 * (s.size : Int)
    · rw [specBit_in s p hp0 hp hs, Option.bind_some, if_neg h1, w64 (by omega) (by omega)]
    · rw [specBit_out s p (by omega) (by omega), Option.bind_some, if_neg (by omega), w64 (by omega) (by omega)]
  | q + 1, n, p, hq, hp0, hp1, hn0, hn1, h => by
    have h1 : bitAt s p = 1 := Classical.byContradiction fun h => by rw [ones_not h] at hq; omega
    have hp : p < 8 * (s.size : Int) := by
      rcases Int.lt_or_le p (8 * (s.size : Int)) with hp | hp
      · exact hp
      · rw [bitAt_out s p hp] at h1; omega
    rw [ones_one h1] at hq
    refine Ev.step (f := fun k => spec_l2Read.l1 k s m b xs (p + 1) (n + 1)) (fun k => ?_) (specOnes s hs m b xs r q (n + 1) (p + 1) (by omega) (by omega) (by omega) (by omega) (by omega) ?_)
    · simp only [spec_l2Read.l1]
      rw [specBit_in s p hp0 hp hs, Option.bind_some, if_pos h1, w64 (by omega) (by omega), w64 (by omega) (by omega)]
    · rw [show p + 1 + (q : Int) + 1 = p + ((q + 1 : Nat) : Int) + 1 by omega, show n + 1 + (q : Int) = n + ((q + 1 : Nat) : Int) by omega]
      exact h
/-- What l2Read answers. -/
def readR (s : ByteArray) (b : Int) (d : Nat) (p : Int) (xs : List Int) : List Int × Int :=
  if (∀ x ∈ Go.Proofs.Ytipmgmiooanghaa.Rice.nums1 s b d p, x ≤ 60000) ∧ Go.Proofs.Ytipmgmiooanghaa.Rice.endN s b d p ≤ 8 * (s.size : Int) then (xs ++ Go.Proofs.Ytipmgmiooanghaa.Rice.nums1 s b d p, Go.Proofs.Ytipmgmiooanghaa.Rice.endN s b d p) else ([], -1)
open Go.Proofs.Ytipmgmiooanghaa.Rice in
theorem specRead_loop (s : ByteArray) (hs : s.size ≤ 600) (b : Int) (hb0 : 0 ≤ b) (hb8 : b ≤ 8) : ∀ (d i : Nat) (p : Int) (xs : List Int), xs.length = i → i + d ≤ 40 → 0 ≤ p → p ≤ 8 * (s.size : Int) → Ev (fun k => spec_l2Read.l0 k s ((i + d : Nat) : Int) b xs p) (readR s b d p xs)
  | 0, i, p, xs, hx, hi, hp0, hp1 => by
    refine Ev.step (f := fun _ => some (xs, p)) (fun k => ?_) (Ev.at_ (Ev.now _) ?_)
    · simp only [spec_l2Read.l0]
      rw [if_neg (by omega)]
    · unfold readR
      rw [if_pos (show (∀ x ∈ nums1 s b 0 p, x ≤ 60000) ∧ endN s b 0 p ≤ 8 * (s.size : Int) from ⟨fun x hx => by simp [nums1] at hx, hp1⟩)]
      simp [nums1, endN]
  | d + 1, i, p, xs, hx, hi, hp0, hp1 => by
    have hl := ones_end s p
    refine Ev.step (f := fun k => spec_l2Read.l1 k s ((i + (d + 1) : Nat) : Int) b xs p 0) (fun k => ?_) (specOnes s hs _ b xs _ (ones s p) 0 p rfl hp0 (by omega) (by omega) (by omega) ?_)
    · simp only [spec_l2Read.l0]
      rw [if_pos (by omega)]
    have hz : b.toNat - b.toNat = 0 := by omega
    have hbe : b - ((b.toNat : Nat) : Int) = 0 := by omega
    have hv : restV (bitAt s) b.toNat (p + (ones s p : Int) + 1) (0 + (ones s p : Int)) = numAt s b p := by rw [Int.zero_add]; rfl
    have he : p + (ones s p : Int) + 1 + ((b.toNat : Nat) : Int) = endAt s b p := by unfold endAt; omega
    have hge := endN_ge s b hb0 d (endAt s b p)
    by_cases hin : endAt s b p ≤ 8 * (s.size : Int)
    · have hr := specRest_in s hs ((i + (d + 1) : Nat) : Int) b hb0 hb8 xs (by omega) (readR s b (d + 1) p xs) b.toNat (0 + (ones s p : Int)) (p + (ones s p : Int) + 1) (by omega) (by omega) (by omega) (by omega) (by rw [hz]; omega) (by
        rw [hv, he]
        by_cases hn : numAt s b p > 60000
        · refine Ev.ifp hn (Ev.at_ (Ev.now _) ?_)
          unfold readR
          rw [if_neg (fun h => by have := h.1 (numAt s b p) (by simp [nums1]); omega)]
        · refine Ev.ifn hn (Ev.at_ (specRead_loop s hs b hb0 hb8 d (i + 1) (endAt s b p) (xs ++ [numAt s b p]) (by rw [List.length_append, List.length_singleton, hx]) (by omega) (by unfold endAt; omega) hin |> fun h => by rw [show ((i + (d + 1) : Nat) : Int) = ((i + 1 + d : Nat) : Int) by omega]; exact h) ?_)
          unfold readR
          simp only [nums1, endN, List.append_assoc, List.cons_append, List.nil_append]
          have e : (∀ x ∈ numAt s b p :: nums1 s b d (endAt s b p), x ≤ 60000) ↔ (∀ x ∈ nums1 s b d (endAt s b p), x ≤ 60000) :=
            ⟨fun h x hx => h x (List.mem_cons_of_mem _ hx), fun h x hx => (List.mem_cons.1 hx).elim (fun e => by rw [e]; omega) (h x)⟩
          simp only [e])
      rw [hbe] at hr
      exact hr
    · have hr := specRest_out s hs ((i + (d + 1) : Nat) : Int) b hb0 hb8 xs b.toNat (0 + (ones s p : Int)) (p + (ones s p : Int) + 1) (by omega) (by omega) (by omega) (by omega) (by rw [hz]; omega) (by rw [hz]; omega)
      rw [hbe] at hr
      refine Ev.at_ hr ?_
      unfold readR
      rw [if_neg (fun h => by have := h.2; rw [endN] at this; omega)]
open Go.Proofs.Ytipmgmiooanghaa.Rice in
theorem specRiceGet_ev (s : ByteArray) (many b : Int) : Ev (fun k => spec_RiceGet.f k s many b) (riceGet s many b) := by
  unfold spec_RiceGet.f
  refine Ev.b (specIn many 0 40) ?_
  by_cases hm : 0 ≤ many ∧ many ≤ 40
  · refine Ev.ifp (decide_eq_true hm) (Ev.b (specIn b 0 8) ?_)
    by_cases hb : 0 ≤ b ∧ b ≤ 8
    · refine Ev.ifp (decide_eq_true hb) ?_
      by_cases hs : s.size ≤ 600
      · refine Ev.step (f := fun k => (spec_l2Read.f k s many b).bind fun bt113 => (if bt113.2 < 0 then (some (([] : List Int), false)) else ((spec_l2Rice.f bt113.1 b).bind fun t117 => (if t117.toList = s.toList then (some (bt113.1, true)) else (some (([] : List Int), false)))))) (fun k => ?_) ?_
        · simp only [spec_RiceGet.j0]
          rw [if_neg (by rw [decide_eq_true_iff]; omega)]
        · have hr := specRead_loop s hs b hb.1 hb.2 many.toNat 0 0 [] rfl (by omega) (by omega) (by omega)
          rw [show ((0 + many.toNat : Nat) : Int) = many by omega] at hr
          refine Ev.bind (g := fun k => spec_l2Read.f k s many b) (by unfold spec_l2Read.f; exact hr) ?_
          unfold readR
          by_cases h : (∀ x ∈ nums1 s b many.toNat 0, x ≤ 60000) ∧ endN s b many.toNat 0 ≤ 8 * (s.size : Int)
          · rw [if_pos h]
            have hge := endN_ge s b hb.1 many.toNat 0
            refine Ev.ifn (by show ¬ endN s b many.toNat 0 < 0; omega) ?_
            simp only [List.nil_append]
            refine Ev.b (a := riceB b (nums1 s b many.toNat 0)) ?_ ?_
            · unfold spec_l2Rice.f
              rw [if_pos ⟨by rw [nums1_len]; omega, hb.1, hb.2, fun x hx => ⟨nums1_ge s b _ _ x hx, h.1 x hx⟩⟩]
            · by_cases e : riceB b (nums1 s b many.toNat 0) = s
              · refine Ev.at_ (Ev.ifp (by rw [e]) (Ev.now _)) ?_
                unfold riceGet
                rw [if_pos ⟨⟨hm.1, hm.2, hb.1, hb.2, hs⟩, h.1, e⟩]
              · refine Ev.at_ (Ev.ifn (fun k => e ((toList_iff' _ _).1 k)) (Ev.now _)) ?_
                unfold riceGet
                rw [if_neg (fun k => e k.2.2)]
          · rw [if_neg h]
            refine Ev.ifp (by show (-1 : Int) < 0; omega) (Ev.at_ (Ev.now _) ?_)
            unfold riceGet
            rw [if_neg (fun k => h ⟨k.2.1, read_in hb.1 k.2.2⟩)]
      · refine Ev.step (f := fun _ => some ([], false)) (fun k => ?_) (Ev.at_ (Ev.now _) (by unfold riceGet; rw [if_neg (fun k => hs k.1.2.2.2.2)]))
        simp only [spec_RiceGet.j0]
        rw [if_pos (by rw [decide_eq_true_iff]; omega)]
    · refine Ev.ifn (by rw [decide_eq_true_iff]; exact hb) (Ev.step (f := fun _ => some ([], false)) (fun k => ?_) (Ev.at_ (Ev.now _) (by unfold riceGet; rw [if_neg (fun k => hb ⟨k.1.2.2.1, k.1.2.2.2.1⟩)])))
      simp only [spec_RiceGet.j0]
      exact if_pos trivial
  · refine Ev.ifn (by rw [decide_eq_true_iff]; exact hm) (Ev.step (f := fun _ => some ([], false)) (fun k => ?_) (Ev.at_ (Ev.now _) (by unfold riceGet; rw [if_neg (fun k => hm ⟨k.1.1, k.1.2.1⟩)])))
    simp only [spec_RiceGet.j0]
    exact if_pos trivial

theorem implRiceGet (s : ByteArray) (many b : Int) (hm : s.size ≤ 1000000000) : impl_RiceGet.f s many b = some (Go.Proofs.Ytipmgmiooanghaa.Rice.riceGet s many b) := by
  unfold impl_RiceGet.f; rw [if_pos hm]

theorem riceGet_len (s : ByteArray) (many b : Int) : (Go.Proofs.Ytipmgmiooanghaa.Rice.riceGet s many b).1.length ≤ 40 := by
  unfold Go.Proofs.Ytipmgmiooanghaa.Rice.riceGet
  split
  · rename_i h
    have := h.1.2.1
    show (Go.Proofs.Ytipmgmiooanghaa.Rice.nums1 s b many.toNat 0).length ≤ 40
    rw [Go.Proofs.Ytipmgmiooanghaa.Rice.nums1_len]
    omega
  · exact Nat.zero_le _

/-! ### where a filter's items fall, added up -/
/-- Numbers added up, one by one. -/
def psum : Int → List Int → List Int
  | _, [] => []
  | a, x :: xs => (a + x) :: psum (a + x) xs
/-- The last of them. -/
def tot : Int → List Int → Int
  | a, [] => a
  | a, x :: xs => tot (a + x) xs
theorem psum_len : ∀ (xs : List Int) (a : Int), (psum a xs).length = xs.length
  | [], _ => rfl
  | x :: xs, a => by rw [psum, List.length_cons, psum_len xs, List.length_cons]
theorem tot_ge : ∀ (xs : List Int) (a : Int), (∀ x ∈ xs, 0 ≤ x) → a ≤ tot a xs
  | [], a, _ => by rw [tot]; omega
  | x :: xs, a, h => by
    have h1 := h x List.mem_cons_self
    have h2 := tot_ge xs (a + x) fun y hy => h y (List.mem_cons_of_mem _ hy)
    rw [tot]; omega
theorem psum_get : ∀ (xs : List Int) (a : Int) (j : Nat), j < xs.length → (psum a xs).getD j 0 = tot a (xs.take (j + 1))
  | [], _, _, h => absurd h (by simp)
  | x :: xs, a, 0, _ => by rw [psum, List.getD_cons_zero, List.take_succ_cons, List.take_zero, tot, tot]
  | x :: xs, a, j + 1, h => by
    rw [psum, List.getD_cons_succ, List.take_succ_cons, tot]
    exact psum_get xs (a + x) j (by rw [List.length_cons] at h; omega)
theorem tot_app : ∀ (xs ys : List Int) (a : Int), tot a (xs ++ ys) = tot (tot a xs) ys
  | [], _, _ => rfl
  | x :: xs, ys, a => by rw [List.cons_append, tot, tot]; exact tot_app xs ys (a + x)
theorem tot_take_le {xs : List Int} {a : Int} {i j : Nat} (h : ∀ x ∈ xs, 0 ≤ x) (hij : i ≤ j) : tot a (xs.take i) ≤ tot a (xs.take j) := by
  have e : xs.take j = xs.take i ++ (xs.drop i).take (j - i) := by
    rw [← List.take_add, Nat.add_sub_cancel' hij]
  rw [e, tot_app]
  exact tot_ge _ _ fun x hx => h x (List.mem_of_mem_drop (List.mem_of_mem_take hx))
theorem vgo_range : ∀ (l : List Int) (i : Nat) (n : Int), (vgo l i n).2 = 0 ∨ (0 < (vgo l i n).2 ∧ (vgo l i n).2 ≤ (i : Int) + (l.length : Int))
  | [], _, _ => .inl rfl
  | b :: r, i, n => by
    unfold vgo
    by_cases h5 : i ≥ 5
    · rw [if_pos h5]; exact .inl rfl
    · rw [if_neg h5]
      by_cases hb : b < 128
      · rw [if_pos hb]
        by_cases hz : (i > 0 ∧ b = 0) ∨ n + b % 128 * 128 ^ i > 2147483647
        · rw [if_pos hz]; exact .inl rfl
        · rw [if_neg hz, List.length_cons]
          exact .inr ⟨by show 0 < (i : Int) + 1; omega, by show (i : Int) + 1 ≤ (i : Int) + ((r.length + 1 : Nat) : Int); omega⟩
      · rw [if_neg hb, List.length_cons]
        rcases vgo_range r (i + 1) (n + b % 128 * 128 ^ i) with h | ⟨h, k⟩
        · exact .inl h
        · exact .inr ⟨h, by omega⟩
open Go.Proofs.Ytipmgmiooanghaa.Rice in
theorem riceGet_false {s : ByteArray} {many b : Int} (h : (riceGet s many b).2 = false) : riceGet s many b = ([], false) := by
  unfold riceGet at h ⊢
  split
  · rename_i c; rw [if_pos c] at h; exact absurd h (by simp)
  · rfl
open Go.Proofs.Ytipmgmiooanghaa.Rice in
/-- What the numbers of a read text are. -/
theorem riceGet_nums {s : ByteArray} {many b : Int} (h : (riceGet s many b).2 = true) : (0 ≤ many ∧ many ≤ 40) ∧ ((riceGet s many b).1.length : Int) = many ∧ (∀ x ∈ (riceGet s many b).1, 0 ≤ x ∧ x ≤ 60000) := by
  obtain ⟨hv, h6, hr, hg⟩ := riceGet_true h
  rw [hg]
  refine ⟨⟨hv.1, hv.2.1⟩, by show ((nums1 s b many.toNat 0).length : Int) = many; rw [nums1_len]; omega, fun x hx => ⟨nums1_ge s b _ _ x hx, h6 x hx⟩⟩
open Go.Proofs.Ytipmgmiooanghaa.Rice in
/-- What is read as a filter. -/
def filterGet (s : ByteArray) : List Int × Bool :=
  if (vgo (bytesOf s) 0 0).2 = 0 ∨ (vgo (bytesOf s) 0 0).1 > 40 ∨ s.size > 600 then ([], false)
  else if (riceGet (s.extract ((vgo (bytesOf s) 0 0).2 : Int).toNat s.size) (vgo (bytesOf s) 0 0).1 5).2 = true ∧ (tot 0 (riceGet (s.extract ((vgo (bytesOf s) 0 0).2 : Int).toNat s.size) (vgo (bytesOf s) 0 0).1 5).1 < (vgo (bytesOf s) 0 0).1 * 37 ∨ (vgo (bytesOf s) 0 0).1 ≤ 0)
    then (psum 0 (riceGet (s.extract ((vgo (bytesOf s) 0 0).2 : Int).toNat s.size) (vgo (bytesOf s) 0 0).1 5).1, true)
  else ([], false)
theorem implFilter_loop (m : Int) (hm0 : 0 ≤ m) (hm : m ≤ 40) (L : Int) : ∀ (rest pre : List Int) (a : Int), ((pre ++ rest).length : Int) = L → L ≤ 40 → (∀ x ∈ rest, 0 ≤ x ∧ x ≤ 60000) → 0 ≤ a → a ≤ 60000 * (pre.length : Int) →
    Ev (fun k => impl_FilterGet.l0 k m (pre ++ rest) a L (pre.length : Int)) (if tot a rest < m * 37 ∨ rest = [] then (pre ++ psum a rest, true) else ([], false))
  | [], pre, a, hL, h40, hx, ha0, ha => by
    rw [if_pos (.inr rfl)]
    refine Ev.step (f := fun _ => some (pre ++ [], true)) (fun k => ?_) (Ev.now _)
    simp only [impl_FilterGet.l0]
    rw [if_neg (by rw [List.append_nil] at hL; omega)]
  | x :: rest, pre, a, hL, h40, hx, ha0, ha => by
    have hx1 := hx x List.mem_cons_self
    have hxs : ∀ y ∈ rest, 0 ≤ y ∧ y ≤ 60000 := fun y hy => hx y (List.mem_cons_of_mem _ hy)
    have hg := tot_ge rest (a + x) fun y hy => (hxs y hy).1
    rw [List.length_append, List.length_cons] at hL
    have hr : rd (pre ++ x :: rest) (pre.length : Int) = x := by
      unfold rd
      rw [Int.toNat_natCast, List.getD_eq_getElem?_getD, List.getElem?_append_right (Nat.le_refl _), Nat.sub_self, List.getElem?_cons_zero, Option.getD_some]
    have hset : (pre ++ x :: rest).set ((pre.length : Int)).toNat (a + x) = (pre ++ [a + x]) ++ rest := by
      rw [Int.toNat_natCast, List.set_append_right _ _ (Nat.le_refl _), Nat.sub_self, List.set_cons_zero, List.append_assoc]; rfl
    have hs : ((pre.length : Int) + 1) = ((pre ++ [a + x]).length : Int) := by rw [List.length_append, List.length_singleton]; omega
    have f1 : (pre.length : Int) < L := by omega
    have f2 : (0 : Int) ≤ (pre.length : Int) := by omega
    have f3 : (pre.length : Int) < ((pre ++ x :: rest).length : Int) := by rw [List.length_append, List.length_cons]; omega
    by_cases hc : a + x ≥ m * 37
    · rw [if_neg (show ¬ (tot a (x :: rest) < m * 37 ∨ x :: rest = []) from fun h => h.elim (fun h => by rw [tot] at h; omega) (fun h => by cases h))]
      refine Ev.step (f := fun _ => some ([], false)) (fun k => ?_) (Ev.now _)
      simp only [impl_FilterGet.l0]
      rw [if_pos f1, if_pos f2, if_pos f3, hr, w64 (i := a + x) (by omega) (by omega), w64 (i := m * 37) (by omega) (by omega), if_pos hc]
    · have ih := implFilter_loop m hm0 hm L rest (pre ++ [a + x]) (a + x) (by rw [List.length_append, List.length_append, List.length_singleton]; omega) h40 hxs (by omega) (by rw [← hs]; omega)
      rw [← hs] at ih
      refine Ev.step (f := fun k => impl_FilterGet.l0 k m ((pre ++ [a + x]) ++ rest) (a + x) L ((pre.length : Int) + 1)) (fun k => ?_) (Ev.at_ ih ?_)
      · simp only [impl_FilterGet.l0]
        rw [if_pos f1, if_pos f2, if_pos f3, hr, w64 (i := a + x) (by omega) (by omega), w64 (i := m * 37) (by omega) (by omega), if_neg hc, hset, w64 (i := (pre.length : Int) + 1) (by omega) (by omega)]
      · rw [tot, psum]
        by_cases hr0 : rest = []
        · subst hr0
          rw [if_pos (.inr rfl), if_pos (.inl (by rw [tot]; omega)), psum, List.append_nil]
        · by_cases ht : tot (a + x) rest < m * 37
          · rw [if_pos (.inl ht), if_pos (.inl ht), List.append_assoc]; rfl
          · rw [if_neg (fun h => h.elim ht hr0), if_neg (fun h => h.elim ht (fun h => by cases h))]
open Go.Proofs.Ytipmgmiooanghaa.Rice in
theorem implFilterGet_ev (s : ByteArray) (hs : s.size ≤ 140737488351232) : Ev (fun k => impl_FilterGet.f k s) (filterGet s) := by
  have hv := vgo_range (bytesOf s) 0 0
  rw [bytes_len] at hv
  unfold impl_FilterGet.f filterGet
  refine Ev.bind (implVarGet_ev s hs) ?_
  generalize vgo (bytesOf s) 0 0 = v at *
  have out : Ev (fun k => impl_FilterGet.j0 k s v.1 v.2 true) (([], false) : List Int × Bool) := by
    refine Ev.step (f := fun _ => some ([], false)) (fun k => ?_) (Ev.now _)
    simp only [impl_FilterGet.j0]; rw [if_pos trivial]
  by_cases h6 : (s.size : Int) > 600
  · rw [if_pos (.inr (.inr (by omega)))]
    exact Ev.ifp h6 out
  refine Ev.ifn h6 ?_
  by_cases h0 : v.2 = 0
  · rw [if_pos (.inl h0)]
    exact Ev.ifp h0 out
  refine Ev.ifn h0 ?_
  by_cases h4 : v.1 > 40
  · rw [if_pos (.inr (.inl h4)), decide_eq_true h4]
    exact out
  rw [if_neg (fun h => h.elim h0 fun h => h.elim h4 (by omega)), decide_eq_false h4]
  have hv2 : 0 < v.2 ∧ v.2 ≤ (s.size : Int) := by omega
  have hi := implRiceGet (s.extract (v.2 : Int).toNat s.size) v.1 5 (by rw [ByteArray.size_extract]; omega)
  refine Ev.step (f := fun k => (impl_RiceGet.f (s.extract (v.2 : Int).toNat s.size) v.1 5).bind fun bt146 => (if bt146.2 = true then (impl_FilterGet.l0 k v.1 bt146.1 0 (bt146.1.length : Int) 0) else (some (([] : List Int), false)))) (fun k => ?_) ?_
  · simp only [impl_FilterGet.j0]
    rw [if_neg (by simp), if_pos (by omega), if_pos hv2.2]
  generalize s.extract (v.2 : Int).toNat s.size = t at *
  refine Ev.b hi ?_
  by_cases ht : (riceGet t v.1 5).2 = true
  · have hn := riceGet_nums ht
    generalize riceGet t v.1 5 = r at *
    refine Ev.ifp ht (Ev.at_ (implFilter_loop v.1 hn.1.1 hn.1.2 (r.1.length : Int) r.1 [] 0 (by rw [List.nil_append]) (by omega) hn.2.2 (by omega) (by rw [List.length_nil]; omega)) ?_)
    rw [List.nil_append]
    have hnil : r.1 = [] ↔ v.1 ≤ 0 := ⟨fun h => by rw [h, List.length_nil] at hn; omega, fun h => List.eq_nil_of_length_eq_zero (by omega)⟩
    by_cases hc : tot 0 r.1 < v.1 * 37 ∨ v.1 ≤ 0
    · rw [if_pos (show tot 0 r.1 < v.1 * 37 ∨ r.1 = [] from hc.imp id hnil.2), if_pos (show r.2 = true ∧ (tot 0 r.1 < v.1 * 37 ∨ v.1 ≤ 0) from ⟨ht, hc⟩)]
    · rw [if_neg (show ¬ (tot 0 r.1 < v.1 * 37 ∨ r.1 = []) from fun h => hc (h.imp id hnil.1)), if_neg (show ¬ (r.2 = true ∧ (tot 0 r.1 < v.1 * 37 ∨ v.1 ≤ 0)) from fun h => hc h.2)]
  · rw [if_neg (fun h => ht h.1)]
    exact Ev.ifn ht (Ev.now _)
theorem specFilter_loop (m : Int) (hm0 : 0 ≤ m) (hm : m ≤ 40) (g : List Int) (ok : Bool) (hg : g.length ≤ 40) (hx : ∀ x ∈ g, 0 ≤ x ∧ x ≤ 60000) : ∀ (d i : Nat) (out : List Int) (a : Int), i + d = g.length → out.length = i → 0 ≤ a → a ≤ 60000 * (i : Int) →
    Ev (fun k => spec_l2Places.l0 k m g ok out a (i : Int)) (if ok = true then (if tot a (g.drop i) < m * 37 ∨ m ≤ 0 then (out ++ psum a (g.drop i), m, true) else ([], 0, false)) else ([], 0, false))
  | 0, i, out, a, h, ho, ha0, ha => by
    rw [List.drop_eq_nil_of_le (by omega), tot, psum, List.append_nil]
    refine Ev.step (f := fun _ => some (if ok = true then (if a < m * 37 ∨ m ≤ 0 then (out, m, true) else ([], 0, false)) else ([], 0, false))) (fun k => ?_) (Ev.now _)
    simp only [spec_l2Places.l0]
    rw [if_neg (by omega), w64 (i := m * 37) (by omega) (by omega)]
    by_cases ho : ok = true
    · rw [if_pos ho, if_pos ho]
      by_cases h1 : a ≥ m * 37
      · rw [if_pos h1]
        by_cases h2 : m > 0
        · rw [if_pos h2, if_neg (by omega)]
        · rw [if_neg h2, if_pos (by omega)]
      · rw [if_neg h1, if_pos (by omega)]
    · rw [if_neg ho, if_neg ho]
  | d + 1, i, out, a, h, ho, ha0, ha => by
    have hi : i < g.length := by omega
    have hr : rd g (i : Int) = g[i] := by unfold rd; rw [Int.toNat_natCast, List.getD_eq_getElem?_getD, List.getElem?_eq_getElem hi, Option.getD_some]
    have hxi := hx g[i] (List.getElem_mem hi)
    have ih := specFilter_loop m hm0 hm g ok hg hx d (i + 1) (out ++ [a + g[i]]) (a + g[i]) (by omega) (by rw [List.length_append, List.length_singleton]; omega) (by omega) (by omega)
    rw [List.drop_eq_getElem_cons hi, tot, psum]
    rw [List.append_assoc] at ih
    refine Ev.step (f := fun k => spec_l2Places.l0 k m g ok (out ++ [a + g[i]]) (a + g[i]) ((i + 1 : Nat) : Int)) (fun k => ?_) ih
    simp only [spec_l2Places.l0]
    rw [if_pos (by omega), if_pos (by omega), if_pos (by omega), hr, w64 (i := a + g[i]) (by omega) (by omega), w64 (by omega) (by omega)]
    rfl
open Go.Proofs.Ytipmgmiooanghaa.Rice in
theorem specFilterGet_ev (s : ByteArray) (hs : s.size ≤ 140737488351232) : Ev (fun k => spec_FilterGet.f k s) (filterGet s) := by
  have hv := vgo_range (bytesOf s) 0 0
  rw [bytes_len] at hv
  suffices h : ∃ n, Ev (fun k => spec_l2Places.f k s) ((filterGet s).1, n, (filterGet s).2) by
    obtain ⟨n, h⟩ := h
    unfold spec_FilterGet.f
    exact Ev.bind h (Ev.now _)
  unfold spec_l2Places.f filterGet
  have hvg := vget_ev s hs
  generalize vgo (bytesOf s) 0 0 = v at *
  have out : Ev (fun k => spec_l2Places.j0 k s v.1 v.2 true) (([], 0, false) : List Int × Int × Bool) := by
    refine Ev.step (f := fun _ => some ([], 0, false)) (fun k => ?_) (Ev.now _)
    simp only [spec_l2Places.j0]; rw [if_pos trivial]
  by_cases h0 : v.2 = 0
  · rw [if_pos (.inl h0)]
    exact ⟨0, Ev.bind hvg (Ev.ifp h0 out)⟩
  by_cases h4 : v.1 > 40
  · rw [if_pos (.inr (.inl h4))]
    exact ⟨0, Ev.bind hvg (Ev.ifn h0 (Ev.ifp h4 out))⟩
  by_cases h6 : (s.size : Int) > 600
  · rw [if_pos (.inr (.inr (by omega)))]
    exact ⟨0, Ev.bind hvg (Ev.ifn h0 (Ev.ifn h4 (by rw [decide_eq_true h6]; exact out)))⟩
  rw [if_neg (fun h => h.elim h0 fun h => h.elim h4 (by omega))]
  have hv2 : 0 < v.2 ∧ v.2 ≤ (s.size : Int) := by omega
  have ht := specRiceGet_ev (s.extract (v.2 : Int).toNat s.size) v.1 5
  have hl := riceGet_len (s.extract (v.2 : Int).toNat s.size) v.1 5
  have go : ∀ r, Ev (fun k => spec_l2Places.l0 k v.1 (riceGet (s.extract (v.2 : Int).toNat s.size) v.1 5).1 (riceGet (s.extract (v.2 : Int).toNat s.size) v.1 5).2 [] 0 0) r → Ev (fun k => (spec_l1Get.f k s).bind fun bt118 => (if bt118.2 = 0 then (spec_l2Places.j0 k s bt118.1 bt118.2 true) else (if bt118.1 > 40 then (spec_l2Places.j0 k s bt118.1 bt118.2 true) else (spec_l2Places.j0 k s bt118.1 bt118.2 (decide ((s.size : Int) > 600)))))) r := by
    intro r h
    refine Ev.bind hvg (Ev.ifn h0 (Ev.ifn h4 ?_))
    rw [decide_eq_false h6]
    refine Ev.step (f := fun k => (spec_RiceGet.f k (s.extract (v.2 : Int).toNat s.size) v.1 5).bind fun bt120 => (spec_l2Places.l0 k v.1 bt120.1 bt120.2 (([] : List Int)) 0 0)) (fun k => ?_) (Ev.bind ht h)
    simp only [spec_l2Places.j0]
    rw [if_neg (by simp), if_pos (by omega), if_pos hv2.2]
  generalize s.extract (v.2 : Int).toNat s.size = t at *
  by_cases hk : (riceGet t v.1 5).2 = true
  · have hn := riceGet_nums hk
    have lp := specFilter_loop v.1 hn.1.1 hn.1.2 (riceGet t v.1 5).1 (riceGet t v.1 5).2 hl hn.2.2 (riceGet t v.1 5).1.length 0 [] 0 (by omega) rfl (by omega) (by omega)
    rw [if_pos hk, List.drop_zero, List.nil_append, Int.natCast_zero] at lp
    by_cases hc : tot 0 (riceGet t v.1 5).1 < v.1 * 37 ∨ v.1 ≤ 0
    · rw [if_pos hc] at lp
      rw [if_pos ⟨hk, hc⟩]
      exact ⟨_, go _ lp⟩
    · rw [if_neg hc] at lp
      rw [if_neg (fun h => hc h.2)]
      exact ⟨_, go _ lp⟩
  · have hf : (riceGet t v.1 5).2 = false := by rcases h : (riceGet t v.1 5).2 with _ | _; rfl; exact absurd h hk
    rw [if_neg (fun h => hk h.1)]
    refine ⟨0, go _ ?_⟩
    rw [riceGet_false hf]
    refine Ev.step (f := fun _ => some ([], 0, false)) (fun k => ?_) (Ev.now _)
    simp only [spec_l2Places.l0]
    rw [if_neg (by rw [List.length_nil]; omega), if_neg (by simp)]
open Go.Proofs.Ytipmgmiooanghaa.Rice in
theorem filterGet_len (s : ByteArray) : (filterGet s).1.length ≤ 40 := by
  unfold filterGet
  split
  · exact Nat.zero_le _
  · split
    · show (psum 0 _).length ≤ 40
      rw [psum_len]; exact riceGet_len _ _ _
    · exact Nat.zero_le _

theorem coInts_loop (a b : List Int) (hl : a.length = b.length) (hm : a.length ≤ 1000000000000) : ∀ (d i : Nat), i + d = a.length → Ev (fun k => laws_coInts.l0 k a b (i : Int)) (decide (a.drop i = b.drop i))
  | 0, i, h => by
    refine Ev.step (f := fun _ => some true) (fun k => ?_) (Ev.at_ (Ev.now _) ?_)
    · simp only [laws_coInts.l0]; rw [if_neg (by omega)]
    · rw [List.drop_eq_nil_of_le (by omega), List.drop_eq_nil_of_le (by omega)]; exact (decide_eq_true rfl).symm
  | d + 1, i, h => by
    have ha : i < a.length := by omega
    have hb : i < b.length := by omega
    have ra : rd a (i : Int) = a[i] := by unfold rd; rw [Int.toNat_natCast, List.getD_eq_getElem?_getD, List.getElem?_eq_getElem ha, Option.getD_some]
    have rb : rd b (i : Int) = b[i] := by unfold rd; rw [Int.toNat_natCast, List.getD_eq_getElem?_getD, List.getElem?_eq_getElem hb, Option.getD_some]
    rw [List.drop_eq_getElem_cons ha, List.drop_eq_getElem_cons hb]
    by_cases e : a[i] = b[i]
    · refine Ev.step (f := fun k => laws_coInts.l0 k a b ((i + 1 : Nat) : Int)) (fun k => ?_) (Ev.at_ (coInts_loop a b hl hm d (i + 1) (by omega)) (decide_eq_decide.2 ⟨fun h => by rw [e, h], fun h => (List.cons.inj h).2⟩))
      simp only [laws_coInts.l0]
      rw [if_pos (by omega), if_pos (by omega), if_pos (by omega), ra, rb, if_pos e, w64 (by omega) (by omega)]
      rfl
    · refine Ev.step (f := fun _ => some false) (fun k => ?_) (Ev.at_ (Ev.now _) (decide_eq_false fun h => e (List.cons.inj h).1).symm)
      simp only [laws_coInts.l0]
      rw [if_pos (by omega), if_pos (by omega), if_pos (by omega), ra, rb, if_neg e]
theorem coInts_ev (a b : List Int) (hm : a.length ≤ 1000000000000) : Ev (fun k => laws_coInts.f k a b) (decide (a = b)) := by
  unfold laws_coInts.f
  by_cases hl : a.length = b.length
  · exact Ev.ifp (by omega) (coInts_loop a b hl hm a.length 0 (by omega))
  · exact Ev.ifn (by omega) (Ev.at_ (Ev.now _) (decide_eq_false fun h => hl (by rw [h])).symm)
theorem coInts_same (a : List Int) (hm : a.length ≤ 1000000000000) : Ev (fun k => laws_coInts.f k a a) true := Ev.at_ (coInts_ev a a hm) (decide_eq_true rfl)

/-! ### what is drawn: a code that is read byte by byte -/
/-- A code that is read. -/
def Code (b : List Int) : Prop := (∀ x ∈ b, 0 ≤ x ∧ x ≤ 255) ∧ b.length ≤ 2000
theorem open_ev {l : List Int} (h : ∀ x ∈ l, 0 ≤ x ∧ x ≤ 255) : ∃ b, spec_l20Open.f l = some (b, 0) ∧ Code b := by
  unfold spec_l20Open.f
  by_cases hl : (l.length : Int) > 2000
  · rw [if_pos hl, if_pos (by omega)]
    exact ⟨_, rfl, fun x hx => h x (List.mem_of_mem_take hx), by rw [List.length_take]; omega⟩
  · rw [if_neg hl]
    exact ⟨_, rfl, h, by omega⟩
theorem tmod_range {a b : Int} (h0 : 0 ≤ a) (hb : 0 < b) : 0 ≤ Int.tmod a b ∧ Int.tmod a b < b := by
  rw [Int.tmod_eq_emod_of_nonneg h0]
  exact ⟨Int.emod_nonneg _ (by omega), Int.emod_lt_of_pos _ hb⟩
theorem mixed {b : List Int} (hb : Code b) {p : Int} (h0 : 0 ≤ p) (h1 : p ≤ 1099511627776) (hl : 0 < b.length) (i j : Int) :
    ∃ x, wrap64 (wrap64 (wrap64 (wrap64 (wrap64 (rd b i) * 131) + wrap64 (wrap64 (rd b j) * 1117)) + wrap64 (p * 29)) + wrap64 (wrap64 (Int.tdiv p (b.length : Int)) * 53)) = x ∧ 0 ≤ x ∧ x < 4611686018427387904 := by
  have hi := rd_range hb.1 i
  have hj := rd_range hb.1 j
  have hd : 0 ≤ Int.tdiv p (b.length : Int) ∧ Int.tdiv p (b.length : Int) ≤ p := by
    rw [Int.tdiv_eq_ediv_of_nonneg h0]
    exact ⟨Int.ediv_nonneg h0 (by omega), Int.ediv_le_self _ h0⟩
  generalize rd b i = u at *
  generalize rd b j = v at *
  generalize Int.tdiv p (b.length : Int) = q at *
  refine ⟨u * 131 + v * 1117 + p * 29 + q * 53, ?_, by omega, by omega⟩
  rw [w64 (i := u) (by omega) (by omega), w64 (i := u * 131) (by omega) (by omega), w64 (i := v) (by omega) (by omega), w64 (i := v * 1117) (by omega) (by omega), w64 (i := u * 131 + v * 1117) (by omega) (by omega),
    w64 (i := p * 29) (by omega) (by omega), w64 (i := u * 131 + v * 1117 + p * 29) (by omega) (by omega), w64 (i := q) (by omega) (by omega), w64 (i := q * 53) (by omega) (by omega), w64 (by omega) (by omega)]
theorem pick_ev {b : List Int} (hb : Code b) (p n : Int) (h0 : 0 ≤ p) (h1 : p ≤ 1099511627776) : ∃ v, Ev (fun k => spec_l20Rd_pick.f k b p n) (v, p + 1) ∧ 0 ≤ v ∧ (1 ≤ n → v < n) ∧ (n < 1 → v = 0) := by
  have hw : wrap64 (p + 1) = p + 1 := w64 (by omega) (by omega)
  unfold spec_l20Rd_pick.f
  by_cases hn : n < 1
  · refine ⟨0, Ev.ifp hn ?_, by omega, by omega, fun _ => rfl⟩
    rw [hw]
    refine Ev.step (f := fun _ => some (0, p + 1)) (fun k => ?_) (Ev.now _)
    simp only [spec_l20Rd_pick.j0]; rw [if_pos trivial]
  · by_cases hl : b.length = 0
    · have e : ((b.length : Int) == 0) = true := by rw [beq_iff_eq]; omega
      refine ⟨0, Ev.ifn hn ?_, by omega, by omega, fun _ => rfl⟩
      rw [hw, e]
      refine Ev.step (f := fun _ => some (0, p + 1)) (fun k => ?_) (Ev.now _)
      simp only [spec_l20Rd_pick.j0]; rw [if_pos trivial]
    · have e : ((b.length : Int) == 0) = false := by rw [beq_eq_false_iff_ne]; omega
      have hw1 : wrap64 (p + 1 - 1) = p := by clear hw; exact (w64 (by omega) (by omega)).trans (by omega)
      have hn0 : ¬ n = 0 := by clear hw hw1; omega
      have hl0 : ¬ (b.length : Int) = 0 := by clear hw hw1; omega
      by_cases hp : p < (b.length : Int)
      · have hr := rd_range hb.1 p
        have hwr : wrap64 (rd b p) = rd b p := by clear hw hw1; exact w64 (by omega) (by omega)
        have ht := tmod_range hr.1 (show 0 < n by clear hw hw1 hwr; omega)
        refine ⟨Int.tmod (rd b p) n, Ev.ifn hn ?_, ht.1, fun _ => ht.2, fun h => absurd h hn⟩
        rw [hw, e]
        refine Ev.step (f := fun _ => some (Int.tmod (rd b p) n, p + 1)) (fun k => ?_) (Ev.now _)
        simp only [spec_l20Rd_pick.j0]; rw [if_neg (by simp), hw1, if_pos hp, if_pos h0, if_neg hn0, hwr]
      · have hlp : 0 < (b.length : Int) := by clear hw hw1; omega
        have t1 := tmod_range h0 hlp
        have hq : wrap64 (wrap64 (p * 7) + 3) = p * 7 + 3 := by clear hw hw1; rw [w64 (i := p * 7) (by omega) (by omega)]; exact w64 (by omega) (by omega)
        have t2 := tmod_range (show 0 ≤ p * 7 + 3 by clear hw hw1 hq; omega) hlp
        obtain ⟨x, hx, hx0, hx1⟩ := mixed hb h0 h1 (show 0 < b.length by clear hw hw1 hq; omega) (Int.tmod p (b.length : Int)) (Int.tmod (p * 7 + 3) (b.length : Int))
        have hd0 : 0 ≤ x / 64 := by clear hx hw hw1 hq; omega
        have hd1 : x / 64 < 4611686018427387904 := by clear hx hw hw1 hq; omega
        have hdx : wrap64 (Int.tdiv x 64) = x / 64 := by rw [Int.tdiv_eq_ediv_of_nonneg hx0]; clear hx hw hw1 hq; exact w64 (by omega) (by omega)
        have hxo := xor64 hx0 hx1 hd0 hd1
        have ht := tmod_range hxo.1 (show 0 < n by clear hx hdx hw hw1 hq; omega)
        refine ⟨Int.tmod (Go.bits .xor .i64 x (x / 64)) n, Ev.ifn hn ?_, ht.1, fun _ => ht.2, fun h => absurd h hn⟩
        rw [hw, e]
        refine Ev.step (f := fun _ => some (Int.tmod (Go.bits .xor .i64 x (x / 64)) n, p + 1)) (fun k => ?_) (Ev.now _)
        simp only [spec_l20Rd_pick.j0]
        rw [if_neg (by simp), hw1, if_neg hp, if_neg hl0, if_pos t1.1, if_pos t1.2, hq, if_pos t2.1, if_pos t2.2, if_neg hn0, hx, hdx]
/-- A number below n, n at least 1. -/
theorem pick_lt {b : List Int} (hb : Code b) (p n : Int) (h0 : 0 ≤ p) (h1 : p ≤ 1099511627776) (hn : 1 ≤ n) : ∃ v, Ev (fun k => spec_l20Rd_pick.f k b p n) (v, p + 1) ∧ 0 ≤ v ∧ v < n := by
  obtain ⟨v, h, h2, h3, _⟩ := pick_ev hb p n h0 h1
  exact ⟨v, h, h2, h3 hn⟩

theorem of_ev {b : List Int} (hb : Code b) (p : Int) (l : List ByteArray) (h0 : 0 ≤ p) (h1 : p ≤ 1099511627776) (hl : 1 ≤ (l.length : Int)) : ∃ x, x ∈ l ∧ Ev (fun k => spec_l20Rd_of.f k b p l) (x, p + 1) := by
  obtain ⟨v, hv, hv0, hv1⟩ := pick_lt hb p (l.length : Int) h0 h1 hl
  refine ⟨rdOf ByteArray.empty l v, rdOf_mem _ v hv0 hv1, ?_⟩
  unfold spec_l20Rd_of.f
  exact Ev.bind hv (Ev.ifp hv0 (Ev.ifp hv1 (Ev.now _)))

theorem bent_ev {b : List Int} (hb : Code b) (p : Int) (s : ByteArray) (hs : s.size ≤ 1000000000) (h0 : 0 ≤ p) (h1 : p ≤ 100000000) : ∃ t q, Ev (fun k => spec_l20Bent.f k b p s) (t, q) ∧ t.size ≤ s.size + 1 ∧ p ≤ q ∧ q ≤ p + 3 := by
  obtain ⟨v, hv, hv0, hv1⟩ := pick_lt hb p ((s.size : Int) + 1) h0 (by omega) (by omega)
  obtain ⟨u, hu, hu0, hu1⟩ := pick_lt hb (p + 1) 5 (by omega) (by omega) (by omega)
  have hw : wrap64 ((s.size : Int) + 1) = (s.size : Int) + 1 := w64 (by omega) (by omega)
  rw [← hw] at hv
  unfold spec_l20Bent.f
  by_cases c0 : u = 0
  · by_cases c1 : v < (s.size : Int)
    · obtain ⟨x, hx, hx1⟩ := of_ev hb (p + 1 + 1) ([(⟨#[48]⟩ : ByteArray), (⟨#[97]⟩ : ByteArray), (⟨#[32]⟩ : ByteArray), (⟨#[0]⟩ : ByteArray), (⟨#[255]⟩ : ByteArray), (⟨#[128]⟩ : ByteArray), (⟨#[102]⟩ : ByteArray), (⟨#[10]⟩ : ByteArray)] : List ByteArray) (by omega) (by omega) (by decide)
      have hxs : x.size = 1 := by
        simp only [List.mem_cons, List.not_mem_nil, or_false] at hx
        rcases hx with rfl | rfl | rfl | rfl | rfl | rfl | rfl | rfl <;> rfl
      have hw2 : wrap64 (v + 1) = v + 1 := w64 (by omega) (by omega)
      have e1 : (s.extract 0 (v : Int).toNat).size ≤ v.toNat := by rw [ByteArray.size_extract]; omega
      have e2 : (s.extract ((wrap64 (v + 1)) : Int).toNat s.size).size = s.size - (v.toNat + 1) := by rw [hw2, ByteArray.size_extract]; omega
      have e3 : ((s.extract 0 (v : Int).toNat) ++ x).size ≤ v.toNat + 1 := by rw [ByteArray.size_append]; omega
      refine ⟨((s.extract 0 (v : Int).toNat) ++ x) ++ (s.extract ((wrap64 (v + 1)) : Int).toNat s.size), p + 1 + 1 + 1, Ev.bind hv (Ev.bind hu (Ev.ifp c0 (Ev.ifp c1 (Ev.ifp hv0 (Ev.ifp (by show v ≤ (s.size : Int); omega) (Ev.bind hx1 (Ev.ifp (by show (s.extract 0 (v : Int).toNat).size + x.size ≤ 9223372036854775807; omega) (Ev.ifp (by show 0 ≤ wrap64 (v + 1); omega) (Ev.ifp (by show wrap64 (v + 1) ≤ (s.size : Int); omega) (Ev.ifp (by show ((s.extract 0 (v : Int).toNat) ++ x).size + (s.extract ((wrap64 (v + 1)) : Int).toNat s.size).size ≤ 9223372036854775807; omega) (Ev.now _))))))))))), by rw [ByteArray.size_append]; omega, by omega, by omega⟩
    · exact ⟨s, p + 1 + 1, Ev.bind hv (Ev.bind hu (Ev.ifp c0 (Ev.ifn c1 (Ev.now _)))), by omega, by omega, by omega⟩
  · by_cases c1 : u = 1
    · refine ⟨s.extract 0 (v : Int).toNat, p + 1 + 1, Ev.bind hv (Ev.bind hu (Ev.ifn c0 (Ev.ifp c1 (Ev.ifp hv0 (Ev.ifp (by show v ≤ (s.size : Int); omega) (Ev.now _)))))), by rw [ByteArray.size_extract]; omega, by omega, by omega⟩
    · by_cases c2 : u = 2
      · obtain ⟨x, hx, hx1⟩ := of_ev hb (p + 1 + 1) ([(⟨#[48]⟩ : ByteArray), (⟨#[32]⟩ : ByteArray), (⟨#[0]⟩ : ByteArray), (⟨#[255]⟩ : ByteArray)] : List ByteArray) (by omega) (by omega) (by decide)
        have hxs : x.size = 1 := by
          simp only [List.mem_cons, List.not_mem_nil, or_false] at hx
          rcases hx with rfl | rfl | rfl | rfl <;> rfl
        exact ⟨s ++ x, p + 1 + 1 + 1, Ev.bind hv (Ev.bind hu (Ev.ifn c0 (Ev.ifn c1 (Ev.ifp c2 (Ev.bind hx1 (Ev.ifp (by show s.size + x.size ≤ 9223372036854775807; omega) (Ev.now _))))))), by rw [ByteArray.size_append]; omega, by omega, by omega⟩
      · exact ⟨s, p + 1 + 1, Ev.bind hv (Ev.bind hu (Ev.ifn c0 (Ev.ifn c1 (Ev.ifn c2 (Ev.now _))))), by omega, by omega, by omega⟩

/-! ### the reference's l1IsSum -/
theorem specFigure (b : Int) : spec_l1Figure.f b = some (decide (48 ≤ b ∧ b ≤ 57)) := by
  unfold spec_l1Figure.f
  by_cases h : b ≥ 48
  · rw [if_pos h]; congr 1; exact decide_eq_decide.2 ⟨fun k => ⟨h, k⟩, fun k => k.2⟩
  · rw [if_neg h]; congr 1; exact (decide_eq_false (fun k => h k.1)).symm
theorem specIsSum_loop (s : ByteArray) (hs : s.size ≤ 140737488351232) (d : Nat) : ∀ i : Nat, i + d = s.size → Ev (fun k => spec_l1IsSum.l0 k s (i : Int)) (((bytesOf s).drop i).all hexd && decide (s.size = 16)) := by
  induction d with
  | zero =>
    intro i hi
    have hlt : ¬ (i : Int) < (s.size : Int) := by omega
    have e : ((s.size : Int) == 16) = decide (s.size = 16) := by rw [Bool.eq_iff_iff, beq_iff_eq, decide_eq_true_iff]; omega
    rw [List.drop_eq_nil_of_le (by rw [bytes_len]; omega), List.all_nil, Bool.true_and]
    refine Ev.step (f := fun _ => some (decide (s.size = 16))) (fun k => ?_) (Ev.now _)
    simp only [spec_l1IsSum.l0]; rw [if_neg hlt, e]
  | succ d ih =>
    intro i hi
    have hlt : (i : Int) < (s.size : Int) := by omega
    have h0 : (0 : Int) ≤ (i : Int) := by omega
    have hi1 : ((i + 1 : Nat) : Int) = (i : Int) + 1 := by omega
    have hd : i + 1 + d = s.size := by omega
    have his : i < s.size := by omega
    have hnx := ih (i + 1) hd
    rw [hi1] at hnx
    have hn : (∀ x, x = bt s (i : Int) → hexd x = true) ∨ (∀ x, x = bt s (i : Int) → hexd x = false) := by
      cases h : hexd (bt s (i : Int))
      · exact .inr fun x hx => by rw [hx]; exact h
      · exact .inl fun x hx => by rw [hx]; exact h
    have hw : wrap64 ((i : Int) + 1) = (i : Int) + 1 := w64 (by omega) (by omega)
    rw [bt_drop s i his, List.all_cons]
    by_cases hf : 48 ≤ bt s (i : Int) ∧ bt s (i : Int) ≤ 57
    · have hx : hexd (bt s (i : Int)) = true := (hexd_iff _).2 (.inl hf)
      rw [hx, Bool.true_and]
      refine Ev.step (f := fun k => spec_l1IsSum.l0 k s ((i : Int) + 1)) (fun k => ?_) hnx
      simp only [spec_l1IsSum.l0]; rw [if_pos hlt, if_pos h0, specFigure, decide_eq_true hf, Option.bind_some, if_pos rfl, hw]
    · by_cases hl : bt s (i : Int) < 97
      · have hx : hexd (bt s (i : Int)) = false := by rw [Bool.eq_false_iff]; intro h; rw [hexd_iff] at h; clear hw; omega
        rw [hx, Bool.false_and, Bool.false_and]
        refine Ev.step (f := fun _ => some false) (fun k => ?_) (Ev.now _)
        simp only [spec_l1IsSum.l0]; rw [if_pos hlt, if_pos h0, specFigure, decide_eq_false hf, Option.bind_some, if_neg (by simp), if_pos hl]
      · by_cases hg : bt s (i : Int) > 102
        · have hx : hexd (bt s (i : Int)) = false := by rw [Bool.eq_false_iff]; intro h; rw [hexd_iff] at h; clear hw; omega
          rw [hx, Bool.false_and, Bool.false_and]
          refine Ev.step (f := fun _ => some false) (fun k => ?_) (Ev.now _)
          simp only [spec_l1IsSum.l0]; rw [if_pos hlt, if_pos h0, specFigure, decide_eq_false hf, Option.bind_some, if_neg (by simp), if_neg hl, if_pos hg]
        · have hx : hexd (bt s (i : Int)) = true := by rw [hexd_iff]; clear hw; omega
          rw [hx, Bool.true_and]
          refine Ev.step (f := fun k => spec_l1IsSum.l0 k s ((i : Int) + 1)) (fun k => ?_) hnx
          simp only [spec_l1IsSum.l0]; rw [if_pos hlt, if_pos h0, specFigure, decide_eq_false hf, Option.bind_some, if_neg (by simp), if_neg hl, if_neg hg, hw]
theorem specIsSum_ev (s : ByteArray) (hs : s.size ≤ 140737488351232) : Ev (fun k => spec_l1IsSum.f k s) (sumB (bytesOf s)) := by
  have h := specIsSum_loop s hs s.size 0 (by omega)
  rw [List.drop_zero, Int.natCast_zero] at h
  unfold spec_l1IsSum.f sumB
  rw [bytes_len]
  exact h

/-! ### the reference's SumHead -/
theorem fig_mod {b : Int} (h : hexd b = true) (h0 : 0 ≤ b) (h1 : b ≤ 255) (hg : b ≥ 97) : (b - 97) % 256 + 10 = hx b := by
  unfold hx; rw [if_pos hg]; omega
theorem fig_mod' {b : Int} (h : hexd b = true) (h0 : 0 ≤ b) (h1 : b ≤ 255) (hg : ¬ b ≥ 97) : (b - 48) % 256 = hx b := by
  rw [hexd_iff] at h; unfold hx; rw [if_neg hg]; omega
theorem specHead_loop (s : ByteArray) (hs : s.size ≤ 140737488351232) (h8 : 8 ≤ s.size) (hx_ : ∀ x ∈ bytesOf s, hexd x = true) (d : Nat) : ∀ (i : Nat) (n : Int), i + d = 8 → 0 ≤ n → n < 16 ^ i →
    Ev (fun k => spec_l1Head.l0 k s n (i : Int)) (hgo (((bytesOf s).take 8).drop i) n / 2) := by
  induction d with
  | zero =>
    intro i n hi h0 h1
    have hlt : ¬ (i : Int) < 8 := by omega
    obtain rfl : i = 8 := by omega
    have hp := pow16 8 (by omega)
    have e : wrap64 (Int.tdiv n 2) = n / 2 := by rw [Int.tdiv_eq_ediv_of_nonneg h0]; exact w64 (by omega) (by omega)
    rw [List.drop_eq_nil_of_le (by rw [List.length_take]; omega)]
    refine Ev.step (f := fun _ => some (n / 2)) (fun k => ?_) (Ev.now _)
    simp only [spec_l1Head.l0]; rw [if_neg hlt, e]
  | succ d ih =>
    intro i n hi h0 h1
    have hlt : (i : Int) < 8 := by omega
    have hi0 : (0 : Int) ≤ (i : Int) := by omega
    have his : (i : Int) < (s.size : Int) := by omega
    have hisn : i < s.size := by omega
    have hi1 : ((i + 1 : Nat) : Int) = (i : Int) + 1 := by omega
    have hd : i + 1 + d = 8 := by omega
    have hp := pow16 i (by omega)
    have hr := bt_range s (i : Int)
    have hxb : hexd (bt s (i : Int)) = true := hx_ _ (by rw [bt_nat s i hisn]; exact List.getElem_mem _)
    have hxr := hx_range hxb
    have hst := hgo_step h0 h1 hxr.1 hxr.2
    have hnx := ih (i + 1) _ hd hst.1 hst.2
    rw [hi1] at hnx
    have e : ((bytesOf s).take 8).drop i = bt s (i : Int) :: ((bytesOf s).take 8).drop (i + 1) := by
      have hl : i < ((bytesOf s).take 8).length := by rw [List.length_take, bytes_len]; omega
      rw [List.drop_eq_getElem_cons hl, List.getElem_take, bt_nat s i hisn]
    have w1 : wrap64 (n * 16) = 16 * n := by rw [Int.mul_comm]; exact w64 (by omega) (by omega)
    have w2 : wrap64 (16 * n + hx (bt s (i : Int))) = 16 * n + hx (bt s (i : Int)) := by clear w1; exact w64 (by omega) (by omega)
    have hw : wrap64 ((i : Int) + 1) = (i : Int) + 1 := by clear w1 w2; exact w64 (by omega) (by omega)
    rw [e]
    unfold hgo
    refine Ev.step (f := fun k => spec_l1Head.l0 k s (16 * n + hx (bt s (i : Int))) ((i : Int) + 1)) (fun k => ?_) hnx
    simp only [spec_l1Head.l0]
    rw [if_pos hlt, if_pos hi0, if_pos his]
    by_cases hg : bt s (i : Int) ≥ 97
    · rw [if_pos hg, fig_mod hxb hr.1 hr.2 hg, w1, w2, hw]
    · rw [if_neg hg, fig_mod' hxb hr.1 hr.2 hg, w1, w2, hw]
theorem specHead_ev (s : ByteArray) (hs : s.size ≤ 140737488351232) (h8 : 8 ≤ s.size) (hx_ : ∀ x ∈ bytesOf s, hexd x = true) : Ev (fun k => spec_l1Head.f k s) (head31 (bytesOf s)) := by
  have h := specHead_loop s hs h8 hx_ 8 0 0 (by omega) (by omega) (by omega)
  rw [List.drop_zero, Int.natCast_zero] at h
  unfold spec_l1Head.f head31
  exact h

/-! ### the reference's l1Sum: it ends, and answers a sum -/
theorem and_range (x : Int) {y : Int} (h0 : 0 ≤ y) (h1 : y ≤ 4294967295) : 0 ≤ Go.bits .and .i64 x y ∧ Go.bits .and .i64 x y ≤ y := by
  have e : Go.bits .and .i64 x y = (((BitVec.ofInt 64 x).toNat &&& y.toNat : Nat) : Int) := by
    show IntKind.i64.wrap ((BitVec.ofInt 64 x &&& BitVec.ofInt 64 y).toNat : Int) = _
    rw [BitVec.toNat_and, bitvec_toNat h0 (by omega), i64_w]
    have hle : (BitVec.ofInt 64 x).toNat &&& y.toNat ≤ y.toNat := Nat.and_le_right
    exact w64 (by omega) (by omega)
  have hle : (BitVec.ofInt 64 x).toNat &&& y.toNat ≤ y.toNat := Nat.and_le_right
  rw [e]
  omega
theorem turn_some (a c : Int) (h0 : 0 ≤ c) (h1 : c ≤ 32) : ∃ t, spec_l1Turn.f a c = some t := by
  unfold spec_l1Turn.f
  rw [if_pos h0, w64 (i := 32 - c) (by omega) (by omega), if_pos (by omega)]
  exact ⟨_, rfl⟩
theorem mix_l1 (x0 x18 : List Int) (h8 : 8 ≤ x0.length) (h18 : x18.length = 8) (d : Nat) : ∀ (i : Nat) (x19 : List Int), i + d = 8 → x19.length = 8 → (∀ x ∈ x19, 0 ≤ x ∧ x ≤ 4294967295) →
    ∃ r, Ev (fun k => spec_l1Mix.l1 k x0 x18 x19 (i : Int)) r ∧ r.length = 8 ∧ ∀ x ∈ r, 0 ≤ x ∧ x ≤ 4294967295 := by
  induction d with
  | zero =>
    intro i x19 hi h19 hr
    refine ⟨x19, Ev.step (f := fun _ => some x19) (fun k => ?_) (Ev.now _), h19, hr⟩
    simp only [spec_l1Mix.l1]; rw [if_neg (by omega)]
  | succ d ih =>
    intro i x19 hi h19 hr
    have hi1 : ((i + 1 : Nat) : Int) = (i : Int) + 1 := by omega
    have hlt : (i : Int) < 8 := by omega
    have hi0 : (0 : Int) ≤ (i : Int) := by omega
    have l0 : (i : Int) < (x0.length : Int) := by omega
    have l1 : (i : Int) < (x18.length : Int) := by omega
    have l2 : (i : Int) < (x19.length : Int) := by omega
    have hd : i + 1 + d = 8 := by omega
    have hw : wrap64 ((i : Int) + 1) = ((i + 1 : Nat) : Int) := by rw [hi1]; exact w64 (by omega) (by omega)
    have hv := and_range (wrap64 (rd x0 (i : Int) + rd x18 (i : Int))) (y := 4294967295) (by decide) (by decide)
    obtain ⟨r, h, hl, hrr⟩ := ih (i + 1) (x19.set i (Go.bits .and .i64 (wrap64 (rd x0 (i : Int) + rd x18 (i : Int))) 4294967295)) hd (by rw [List.length_set]; exact h19)
      (fun x hx => by rcases List.mem_or_eq_of_mem_set hx with hx | rfl; exact hr x hx; exact hv)
    refine ⟨r, Ev.step (fun k => ?_) h, hl, hrr⟩
    simp only [spec_l1Mix.l1]
    rw [if_pos hlt, if_pos hi0, if_pos l0, if_pos l1, if_pos l2, hw, Int.toNat_natCast]
theorem mix_l0 (x0 x1 x2 : List Int) (h8 : 8 ≤ x0.length) (h1 : x1.length = 64) (h2 : x2.length = 64) (d : Nat) : ∀ (i : Nat) (a b c e f g h j : Int), i + d = 64 →
    ∃ r, Ev (fun k => spec_l1Mix.l0 k x0 x1 x2 a b c e f g h j (i : Int)) r ∧ r.length = 8 ∧ ∀ x ∈ r, 0 ≤ x ∧ x ≤ 4294967295 := by
  induction d with
  | zero =>
    intro i a b c e f g h j hi
    obtain ⟨r, hr, hl, hrr⟩ := mix_l1 x0 [a, b, c, e, f, g, h, j] h8 rfl 8 0 (List.replicate 8 0) (by omega) (by simp) (fun x hx => by rw [List.eq_of_mem_replicate hx]; decide)
    refine ⟨r, Ev.step (fun k => ?_) hr, hl, hrr⟩
    simp only [spec_l1Mix.l0]
    rw [if_neg (by omega), if_pos (by decide)]
    rfl
  | succ d ih =>
    intro i a b c e f g h j hi
    have hi1 : ((i + 1 : Nat) : Int) = (i : Int) + 1 := by omega
    have hlt : (i : Int) < 64 := by omega
    have hi0 : (0 : Int) ≤ (i : Int) := by omega
    have l1 : (i : Int) < (x1.length : Int) := by omega
    have l2 : (i : Int) < (x2.length : Int) := by omega
    have hd : i + 1 + d = 64 := by omega
    have hw : wrap64 ((i : Int) + 1) = ((i + 1 : Nat) : Int) := by rw [hi1]; exact w64 (by omega) (by omega)
    obtain ⟨t1, e1⟩ := turn_some f 6 (by decide) (by decide)
    obtain ⟨t2, e2⟩ := turn_some f 11 (by decide) (by decide)
    obtain ⟨t3, e3⟩ := turn_some f 25 (by decide) (by decide)
    obtain ⟨t4, e4⟩ := turn_some a 2 (by decide) (by decide)
    obtain ⟨t5, e5⟩ := turn_some a 13 (by decide) (by decide)
    obtain ⟨t6, e6⟩ := turn_some a 22 (by decide) (by decide)
    obtain ⟨A, B, hs⟩ : ∃ A B, ∀ k, spec_l1Mix.l0 (k + 1) x0 x1 x2 a b c e f g h j (i : Int) = spec_l1Mix.l0 k x0 x1 x2 A a b c B f g h ((i + 1 : Nat) : Int) := by
      apply Exists.intro
      apply Exists.intro
      intro k
      simp only [spec_l1Mix.l0]
      rw [if_pos hlt, e1, Option.bind_some, e2, Option.bind_some, e3, Option.bind_some, if_pos hi0, if_pos l2, if_pos l1, e4, Option.bind_some, e5, Option.bind_some, e6, Option.bind_some, hw]
    obtain ⟨r, hr, hl, hrr⟩ := ih (i + 1) A a b c B f g h hd
    exact ⟨r, Ev.step hs hr, hl, hrr⟩
theorem mix_ev (x0 x1 x2 : List Int) (h8 : x0.length = 8) (h1 : x1.length = 64) (h2 : x2.length = 64) : ∃ r, Ev (fun k => spec_l1Mix.f k x0 x1 x2) r ∧ r.length = 8 ∧ ∀ x ∈ r, 0 ≤ x ∧ x ≤ 4294967295 := by
  obtain ⟨r, hr, hl, hrr⟩ := mix_l0 x0 x1 x2 (by omega) h1 h2 64 0 (rd x0 0) (rd x0 1) (rd x0 2) (rd x0 3) (rd x0 4) (rd x0 5) (rd x0 6) (rd x0 7) (by omega)
  refine ⟨r, ?_, hl, hrr⟩
  unfold spec_l1Mix.f
  rw [Int.natCast_zero] at hr
  exact Ev.ifp (by omega) (Ev.ifp (by omega) (Ev.ifp (by omega) (Ev.ifp (by omega) (Ev.ifp (by omega) (Ev.ifp (by omega) (Ev.ifp (by omega) (Ev.ifp (by omega) hr)))))))
theorem words_l1 (d : Nat) : ∀ (i : Nat) (x3 : List Int), i + d = 64 → 16 ≤ i → x3.length = 64 → ∃ r, Ev (fun k => spec_l1Words.l1 k x3 (i : Int)) r ∧ r.length = 64 := by
  induction d with
  | zero =>
    intro i x3 hi h16 h3
    refine ⟨x3, Ev.step (f := fun _ => some x3) (fun k => ?_) (Ev.now _), h3⟩
    simp only [spec_l1Words.l1]; rw [if_neg (by omega)]
  | succ d ih =>
    intro i x3 hi h16 h3
    have hi1 : ((i + 1 : Nat) : Int) = (i : Int) + 1 := by omega
    have hlt : (i : Int) < 64 := by omega
    have hi0 : (0 : Int) ≤ (i : Int) := by omega
    have hd : i + 1 + d = 64 := by omega
    have a15 : 0 ≤ (i : Int) - 15 := by omega
    have a2 : 0 ≤ (i : Int) - 2 := by omega
    have a16 : 0 ≤ (i : Int) - 16 := by omega
    have a7 : 0 ≤ (i : Int) - 7 := by omega
    have b15 : (i : Int) - 15 < (x3.length : Int) := by omega
    have b2 : (i : Int) - 2 < (x3.length : Int) := by omega
    have b16 : (i : Int) - 16 < (x3.length : Int) := by omega
    have b7 : (i : Int) - 7 < (x3.length : Int) := by omega
    have b0 : (i : Int) < (x3.length : Int) := by omega
    have w15 : wrap64 ((i : Int) - 15) = (i : Int) - 15 := w64 (by omega) (by omega)
    have w2 : wrap64 ((i : Int) - 2) = (i : Int) - 2 := by clear w15; exact w64 (by omega) (by omega)
    have w16 : wrap64 ((i : Int) - 16) = (i : Int) - 16 := by clear w15 w2; exact w64 (by omega) (by omega)
    have w7 : wrap64 ((i : Int) - 7) = (i : Int) - 7 := by clear w15 w2 w16; exact w64 (by omega) (by omega)
    have hw : wrap64 ((i : Int) + 1) = ((i + 1 : Nat) : Int) := by clear w15 w2 w16 w7; rw [hi1]; exact w64 (by omega) (by omega)
    obtain ⟨t1, e1⟩ := turn_some (rd x3 ((i : Int) - 15)) 7 (by decide) (by decide)
    obtain ⟨t2, e2⟩ := turn_some (rd x3 ((i : Int) - 15)) 18 (by decide) (by decide)
    obtain ⟨t3, e3⟩ := turn_some (rd x3 ((i : Int) - 2)) 17 (by decide) (by decide)
    obtain ⟨t4, e4⟩ := turn_some (rd x3 ((i : Int) - 2)) 19 (by decide) (by decide)
    obtain ⟨A, hs⟩ : ∃ A, ∀ k, spec_l1Words.l1 (k + 1) x3 (i : Int) = spec_l1Words.l1 k (x3.set i A) ((i + 1 : Nat) : Int) := by
      apply Exists.intro
      intro k
      simp only [spec_l1Words.l1]
      rw [if_pos hlt, w15, w2, if_pos a15, if_pos b15, if_pos a2, if_pos b2, e1, Option.bind_some, e2, Option.bind_some, e3, Option.bind_some, e4, Option.bind_some, w16, if_pos a16, if_pos b16, w7, if_pos a7, if_pos b7, if_pos hi0, if_pos b0, hw, Int.toNat_natCast]
    obtain ⟨r, hr, hl⟩ := ih (i + 1) (x3.set i A) hd (by omega) (by rw [List.length_set]; exact h3)
    exact ⟨r, Ev.step hs hr, hl⟩
theorem words_l0 (x0 : List Int) (h0 : x0.length = 64) (d : Nat) : ∀ (i : Nat) (x3 : List Int), i + d = 16 → x3.length = 64 → ∃ r, Ev (fun k => spec_l1Words.l0 k x0 x3 (i : Int)) r ∧ r.length = 64 := by
  induction d with
  | zero =>
    intro i x3 hi h3
    obtain ⟨r, hr, hl⟩ := words_l1 48 16 x3 (by omega) (by omega) h3
    refine ⟨r, Ev.step (fun k => ?_) hr, hl⟩
    simp only [spec_l1Words.l0]; rw [if_neg (by omega)]; rfl
  | succ d ih =>
    intro i x3 hi h3
    have hi1 : ((i + 1 : Nat) : Int) = (i : Int) + 1 := by omega
    have hlt : (i : Int) < 16 := by omega
    have hi0 : (0 : Int) ≤ (i : Int) := by omega
    have hd : i + 1 + d = 16 := by omega
    have a0 : 0 ≤ 4 * (i : Int) := by omega
    have a1 : 0 ≤ 4 * (i : Int) + 1 := by omega
    have a2 : 0 ≤ 4 * (i : Int) + 2 := by omega
    have a3 : 0 ≤ 4 * (i : Int) + 3 := by omega
    have b0 : 4 * (i : Int) < (x0.length : Int) := by omega
    have b1 : 4 * (i : Int) + 1 < (x0.length : Int) := by omega
    have b2 : 4 * (i : Int) + 2 < (x0.length : Int) := by omega
    have b3 : 4 * (i : Int) + 3 < (x0.length : Int) := by omega
    have bi : (i : Int) < (x3.length : Int) := by omega
    have w0 : wrap64 (4 * (i : Int)) = 4 * (i : Int) := w64 (by omega) (by omega)
    have w1 : wrap64 (4 * (i : Int) + 1) = 4 * (i : Int) + 1 := by clear w0; exact w64 (by omega) (by omega)
    have w2 : wrap64 (4 * (i : Int) + 2) = 4 * (i : Int) + 2 := by clear w0 w1; exact w64 (by omega) (by omega)
    have w3 : wrap64 (4 * (i : Int) + 3) = 4 * (i : Int) + 3 := by clear w0 w1 w2; exact w64 (by omega) (by omega)
    have hw : wrap64 ((i : Int) + 1) = ((i + 1 : Nat) : Int) := by clear w0 w1 w2 w3; rw [hi1]; exact w64 (by omega) (by omega)
    obtain ⟨A, hs⟩ : ∃ A, ∀ k, spec_l1Words.l0 (k + 1) x0 x3 (i : Int) = spec_l1Words.l0 k x0 (x3.set i A) ((i + 1 : Nat) : Int) := by
      apply Exists.intro
      intro k
      simp only [spec_l1Words.l0]
      rw [if_pos hlt, w0, if_pos a0, if_pos b0, w1, if_pos a1, if_pos b1, w2, if_pos a2, if_pos b2, w3, if_pos a3, if_pos b3, if_pos hi0, if_pos bi, hw, Int.toNat_natCast]
    obtain ⟨r, hr, hl⟩ := ih (i + 1) (x3.set i A) hd (by rw [List.length_set]; exact h3)
    exact ⟨r, Ev.step hs hr, hl⟩
theorem words_ev (x0 : List Int) (h0 : x0.length = 64) : ∃ r, Ev (fun k => spec_l1Words.f k x0) r ∧ r.length = 64 := by
  obtain ⟨r, hr, hl⟩ := words_l0 x0 h0 16 0 (List.replicate 64 0) (by omega) (by simp)
  refine ⟨r, ?_, hl⟩
  unfold spec_l1Words.f
  rw [Int.natCast_zero] at hr
  exact Ev.ifp (by decide) hr
theorem pad_l1 (m : Nat) (hm : 8 < m) (hm2 : m ≤ 2000000000) (n : Int) (d : Nat) : ∀ (i : Nat) (x3 : List Int), i + d = 8 → x3.length = m → ∃ r, Ev (fun k => spec_l1Pad.l1 k x3 n (i : Int)) r ∧ r.length = m := by
  induction d with
  | zero =>
    intro i x3 hi h3
    refine ⟨x3, Ev.step (f := fun _ => some x3) (fun k => ?_) (Ev.now _), h3⟩
    simp only [spec_l1Pad.l1]; rw [if_neg (by omega)]
  | succ d ih =>
    intro i x3 hi h3
    have hi1 : ((i + 1 : Nat) : Int) = (i : Int) + 1 := by omega
    have hlt : (i : Int) < 8 := by omega
    have hd : i + 1 + d = 8 := by omega
    have a0 : 0 ≤ 8 * (i : Int) := by omega
    have hxl : (x3.length : Int) = (m : Int) := by omega
    have a1 : 0 ≤ (m : Int) - 1 - (i : Int) := by omega
    have b1 : (m : Int) - 1 - (i : Int) < (m : Int) := by omega
    have w0 : wrap64 (8 * (i : Int)) = 8 * (i : Int) := w64 (by omega) (by omega)
    have w1 : wrap64 ((m : Int) - 1) = (m : Int) - 1 := by clear w0; exact w64 (by omega) (by omega)
    have w2 : wrap64 ((m : Int) - 1 - (i : Int)) = (m : Int) - 1 - (i : Int) := by clear w0 w1; exact w64 (by omega) (by omega)
    have hw : wrap64 ((i : Int) + 1) = ((i + 1 : Nat) : Int) := by clear w0 w1 w2; rw [hi1]; exact w64 (by omega) (by omega)
    obtain ⟨A, hs⟩ : ∃ A, ∀ k, spec_l1Pad.l1 (k + 1) x3 n (i : Int) = spec_l1Pad.l1 k (x3.set ((m : Int) - 1 - (i : Int)).toNat A) n ((i + 1 : Nat) : Int) := by
      apply Exists.intro
      intro k
      simp only [spec_l1Pad.l1]
      rw [if_pos hlt, w0, if_pos a0, hxl, w1, w2, if_pos a1, if_pos b1, hw]
    obtain ⟨r, hr, hl⟩ := ih (i + 1) (x3.set ((m : Int) - 1 - (i : Int)).toNat A) hd (by rw [List.length_set]; exact h3)
    exact ⟨r, Ev.step hs hr, hl⟩
theorem pad_l0 (s : ByteArray) (hs : s.size ≤ 1000000000) (m : Nat) (hm : s.size + 8 < m) (hm2 : m ≤ 2000000000) (d : Nat) : ∀ (i : Nat) (x3 : List Int), i + d = s.size → x3.length = m → ∃ r, Ev (fun k => spec_l1Pad.l0 k s x3 (i : Int)) r ∧ r.length = m := by
  induction d with
  | zero =>
    intro i x3 hi h3
    have hlt : ¬ (i : Int) < (s.size : Int) := by omega
    have h0 : 0 ≤ (s.size : Int) := by omega
    have hl : (s.size : Int) < (x3.length : Int) := by omega
    obtain ⟨r, hr, hrl⟩ := pad_l1 m (by omega) hm2 (wrap64 ((s.size : Int) * 8)) 8 0 (x3.set ((s.size : Int) : Int).toNat 128) (by omega) (by rw [List.length_set]; exact h3)
    refine ⟨r, Ev.step (fun k => ?_) hr, hrl⟩
    simp only [spec_l1Pad.l0]
    rw [if_neg hlt, if_pos h0, if_pos hl]
    rfl
  | succ d ih =>
    intro i x3 hi h3
    have hi1 : ((i + 1 : Nat) : Int) = (i : Int) + 1 := by omega
    have hlt : (i : Int) < (s.size : Int) := by omega
    have hi0 : (0 : Int) ≤ (i : Int) := by omega
    have hl : (i : Int) < (x3.length : Int) := by omega
    have hd : i + 1 + d = s.size := by omega
    have hw : wrap64 ((i : Int) + 1) = ((i + 1 : Nat) : Int) := by rw [hi1]; exact w64 (by omega) (by omega)
    obtain ⟨r, hr, hrl⟩ := ih (i + 1) (x3.set i (wrap64 (bt s (i : Int)))) hd (by rw [List.length_set]; exact h3)
    refine ⟨r, Ev.step (fun k => ?_) hr, hrl⟩
    simp only [spec_l1Pad.l0]
    rw [if_pos hlt, if_pos hi0, if_pos hl, hw, Int.toNat_natCast]
theorem pad_ev (s : ByteArray) (hs : s.size ≤ 1000000000) : ∃ r q, Ev (fun k => spec_l1Pad.f k s) r ∧ r.length = 64 * q ∧ r.length ≤ 2000000000 := by
  have e : wrap64 (wrap64 (Int.tdiv (wrap64 ((s.size : Int) + 72)) 64) * 64) = ((64 * ((s.size + 72) / 64) : Nat) : Int) := by
    rw [w64 (i := (s.size : Int) + 72) (by omega) (by omega), Int.tdiv_eq_ediv_of_nonneg (by omega)]
    rw [w64 (i := ((s.size : Int) + 72) / 64) (by omega) (by omega), w64 (by omega) (by omega)]
    omega
  obtain ⟨r, hr, hl⟩ := pad_l0 s hs (64 * ((s.size + 72) / 64)) (by omega) (by omega) s.size 0 (List.replicate (64 * ((s.size + 72) / 64)) 0) (by omega) (by simp)
  refine ⟨r, (s.size + 72) / 64, ?_, hl, by omega⟩
  unfold spec_l1Pad.f
  rw [e, Int.toNat_natCast]
  rw [Int.natCast_zero] at hr
  exact Ev.ifp (by omega) (Ev.ifp (by omega) hr)
theorem sha_l0 (x4 x5 : List Int) (h4 : x4.length = 64) (q : Nat) (h5 : x5.length = 64 * q) (h5b : x5.length ≤ 2000000000) (d : Nat) : ∀ (i : Nat) (x3 : List Int), i + d = q → x3.length = 8 → (∀ x ∈ x3, 0 ≤ x ∧ x ≤ 4294967295) →
    ∃ r, Ev (fun k => spec_l1Sha.l0 k x3 x4 x5 ((64 * i : Nat) : Int)) r ∧ r.length = 8 ∧ ∀ x ∈ r, 0 ≤ x ∧ x ≤ 4294967295 := by
  induction d with
  | zero =>
    intro i x3 hi h3 hr
    refine ⟨x3, Ev.step (f := fun _ => some x3) (fun k => ?_) (Ev.now _), h3, hr⟩
    simp only [spec_l1Sha.l0]; rw [if_neg (by omega)]
  | succ d ih =>
    intro i x3 hi h3 hr
    have hi1 : ((64 * (i + 1) : Nat) : Int) = ((64 * i : Nat) : Int) + 64 := by omega
    have hlt : ((64 * i : Nat) : Int) < (x5.length : Int) := by omega
    have hi0 : (0 : Int) ≤ ((64 * i : Nat) : Int) := by omega
    have hle : ((64 * i : Nat) : Int) ≤ ((64 * (i + 1) : Nat) : Int) := by omega
    have hle2 : ((64 * (i + 1) : Nat) : Int) ≤ (x5.length : Int) := by omega
    have hd : i + 1 + d = q := by omega
    have hcut : ((x5.take (64 * (i + 1))).drop (64 * i)).length = 64 := by rw [List.length_drop, List.length_take]; omega
    have hw : wrap64 (((64 * i : Nat) : Int) + 64) = ((64 * (i + 1) : Nat) : Int) := by rw [hi1]; exact w64 (by omega) (by omega)
    obtain ⟨t, ht, htl⟩ := words_ev _ hcut
    obtain ⟨u, hu, hul, hur⟩ := mix_ev x3 t x4 h3 htl h4
    obtain ⟨r, h, hl, hrr⟩ := ih (i + 1) u hd hul hur
    refine ⟨r, Ev.step (f := fun k => (spec_l1Words.f k ((x5.take (64 * (i + 1))).drop (64 * i))).bind fun t177 => ((spec_l1Mix.f k x3 t177 x4).bind fun t180 => (spec_l1Sha.l0 k t180 x4 x5 ((64 * (i + 1) : Nat) : Int)))) (fun k => ?_) (Ev.bind ht (Ev.bind hu h)), hl, hrr⟩
    simp only [spec_l1Sha.l0]
    rw [if_pos hlt, if_pos hi0, hw, if_pos hle, if_pos hle2, Int.toNat_natCast, Int.toNat_natCast]
theorem sha_ev (s : ByteArray) (hs : s.size ≤ 1000000000) : ∃ r, Ev (fun k => spec_l1Sha.f k s) r ∧ r.length = 8 ∧ ∀ x ∈ r, 0 ≤ x ∧ x ≤ 4294967295 := by
  obtain ⟨p, q, hp, hpl, hpb⟩ := pad_ev s hs
  have hc : ∃ c : List Int × List Int, spec_l1Consts.f = some c ∧ c.1.length = 8 ∧ c.2.length = 64 ∧ ∀ x ∈ c.1, 0 ≤ x ∧ x ≤ 4294967295 := ⟨_, rfl, rfl, rfl, by decide⟩
  obtain ⟨c, hc, hc1, hc2, hc3⟩ := hc
  obtain ⟨r, hr, hl, hrr⟩ := sha_l0 c.2 p hc2 q hpl hpb q 0 c.1 (by omega) hc1 hc3
  refine ⟨r, ?_, hl, hrr⟩
  unfold spec_l1Sha.f
  exact Ev.b hc (Ev.bind hp hr)
/-- The sixteen figures. -/
theorem fig_hexd (j : Int) (h0 : 0 ≤ j) (h1 : j < 16) : hexd (bt (⟨#[48, 49, 50, 51, 52, 53, 54, 55, 56, 57, 97, 98, 99, 100, 101, 102]⟩ : ByteArray) j) = true := by
  have : j = 0 ∨ j = 1 ∨ j = 2 ∨ j = 3 ∨ j = 4 ∨ j = 5 ∨ j = 6 ∨ j = 7 ∨ j = 8 ∨ j = 9 ∨ j = 10 ∨ j = 11 ∨ j = 12 ∨ j = 13 ∨ j = 14 ∨ j = 15 := by omega
  rcases this with rfl | rfl | rfl | rfl | rfl | rfl | rfl | rfl | rfl | rfl | rfl | rfl | rfl | rfl | rfl | rfl <;> decide
theorem shr_nn {x : Int} (y : Int) (h : 0 ≤ x) : 0 ≤ shr .i64 x y := by
  unfold shr
  exact Int.ediv_nonneg h (Int.le_of_lt (Int.pow_pos (by decide)))
theorem hexd_byte {x : Int} (h : hexd x = true) : 0 ≤ x ∧ x ≤ 255 := by rw [hexd_iff] at h; omega
theorem hex_l0 (x : Int) (hx : 0 ≤ x) (d : Nat) : ∀ (l : List Int), l.length + d = 8 → (∀ y ∈ l, hexd y = true) →
    ∃ r, Ev (fun k => spec_l1Hex.l0 k x l ((d : Int) - 1)) (strOfNums r) ∧ r.length = 8 ∧ ∀ y ∈ r, hexd y = true := by
  induction d with
  | zero =>
    intro l hl hr
    refine ⟨l, Ev.step (f := fun _ => some (strOfNums l)) (fun k => ?_) (Ev.now _), by omega, hr⟩
    simp only [spec_l1Hex.l0]; rw [if_neg (by omega)]
  | succ d ih =>
    intro l hl hr
    have h8 : d ≤ 8 := by omega
    have hg : (((d + 1 : Nat) : Int) - 1) ≥ 0 := by omega
    have e : (((d + 1 : Nat) : Int) - 1) = (d : Int) := by omega
    have a0 : 0 ≤ 4 * (d : Int) := by omega
    have hlim : l.length < 140737488355328 := by omega
    have hll : (l.length + 1) + d = 8 := by omega
    have w0 : wrap64 (4 * (d : Int)) = 4 * (d : Int) := w64 (by omega) (by omega)
    have w1 : wrap64 ((d : Int) - 1) = (d : Int) - 1 := by clear w0; exact w64 (by omega) (by omega)
    have ht := tmod16 (shr_nn (x := x) (4 * (d : Int)) hx)
    obtain ⟨r, h, hrl, hrr⟩ := ih (l ++ [bt (⟨#[48, 49, 50, 51, 52, 53, 54, 55, 56, 57, 97, 98, 99, 100, 101, 102]⟩ : ByteArray) (Int.tmod (shr .i64 x (4 * (d : Int))) 16)]) (by rw [List.length_append, List.length_singleton]; exact hll)
      (fun y hy => by rcases List.mem_append.1 hy with hy | hy; exact hr y hy; rw [List.mem_singleton.1 hy]; exact fig_hexd _ ht.1 ht.2)
    refine ⟨r, Ev.step (fun k => ?_) h, hrl, hrr⟩
    simp only [spec_l1Hex.l0]
    rw [if_pos hg, e, w0, if_pos a0, if_pos ht.1, if_pos ht.2, if_pos hlim, w1]
theorem hex_ev (x : Int) (hx : 0 ≤ x) : ∃ r, Ev (fun k => spec_l1Hex.f k x) (strOfNums r) ∧ r.length = 8 ∧ ∀ y ∈ r, hexd y = true := by
  obtain ⟨r, h, hl, hr⟩ := hex_l0 x hx 8 [] (by simp) (by simp)
  refine ⟨r, ?_, hl, hr⟩
  unfold spec_l1Hex.f
  exact h
/-- The sum of a text: it is told, and it is a sum. -/
theorem sum_ev (s : ByteArray) (hs : s.size ≤ 1000000000) : ∃ t, Ev (fun k => spec_l1Sum.f k s) t ∧ sumB (bytesOf t) = true ∧ t.size = 16 := by
  obtain ⟨h, hh, hl, hr⟩ := sha_ev s hs
  have h0 : 0 ≤ rd h 0 := (hr _ (rd_mem 0 (by decide) (by omega))).1
  have h1 : 0 ≤ rd h 1 := (hr _ (rd_mem 1 (by decide) (by omega))).1
  obtain ⟨a, ha, hal, har⟩ := hex_ev _ h0
  obtain ⟨b, hb, hbl, hbr⟩ := hex_ev _ h1
  have hby : bytesOf (strOfNums a ++ strOfNums b) = a ++ b := by
    rw [bytes_append, bytes_str _ (fun x hx => hexd_byte (har x hx)), bytes_str _ (fun x hx => hexd_byte (hbr x hx))]
  refine ⟨strOfNums a ++ strOfNums b, ?_, ?_, ?_⟩
  · unfold spec_l1Sum.f
    exact Ev.bind hh (Ev.ifp (by omega) (Ev.bind ha (Ev.ifp (by omega) (Ev.bind hb (Ev.ifp (by rw [str_size, str_size]; omega) (Ev.now _))))))
  · rw [hby, sumB_iff]
    exact ⟨fun x hx => by rcases List.mem_append.1 hx with hx | hx; exact har x hx; exact hbr x hx, by rw [List.length_append]; omega⟩
  · rw [ByteArray.size_append, str_size, str_size]; omega

theorem item_ev {b : List Int} (hb : Code b) (p : Int) (h0 : 0 ≤ p) (h1 : p ≤ 1099511627776) : ∃ s, Ev (fun k => spec_l20Item.f k b p) (s, p + 1) ∧ s.size ≤ 8 := by
  obtain ⟨x, hm, hx⟩ := of_ev hb p ([(⟨#[97]⟩ : ByteArray), (⟨#[98]⟩ : ByteArray), (⟨#[99]⟩ : ByteArray), (⟨#[100]⟩ : ByteArray), (⟨#[97, 110, 110]⟩ : ByteArray), (⟨#[98, 111, 98]⟩ : ByteArray), (⟨#[99, 121, 100]⟩ : ByteArray), (⟨#[120, 49]⟩ : ByteArray), (⟨#[120, 50]⟩ : ByteArray), (⟨#[120, 51]⟩ : ByteArray), (⟨#[122, 122]⟩ : ByteArray), (⟨#[108, 111, 110, 103, 110, 97, 109, 101]⟩ : ByteArray)] : List ByteArray) h0 h1 (by decide)
  refine ⟨x, ?_, ?_⟩
  · unfold spec_l20Item.f
    exact Ev.bind hx (Ev.now _)
  · simp only [List.mem_cons, List.not_mem_nil, or_false] at hm
    rcases hm with rfl | rfl | rfl | rfl | rfl | rfl | rfl | rfl | rfl | rfl | rfl | rfl <;> decide

theorem wsucc {i : Nat} (h : i ≤ 1000000000000) : wrap64 ((i : Int) + 1) = ((i + 1 : Nat) : Int) := by rw [w64 (by omega) (by omega)]; omega
theorem items_loop {b : List Int} (hb : Code b) : ∀ (d : Nat) (xs : List ByteArray) (p : Int), 0 ≤ p → p + d ≤ 1000000000 → xs.length + d ≤ 1000 → (∀ x ∈ xs, x.size ≤ 8) →
    ∃ ys q, Ev (fun k => spec_l20Items.l0 k xs (d : Int) b p) (ys, q) ∧ ys.length = xs.length + d ∧ (∀ x ∈ ys, x.size ≤ 8) ∧ p ≤ q ∧ q ≤ p + d
  | 0, xs, p, h0, h1, hx, hy => by
    refine ⟨xs, p, Ev.step (f := fun _ => some (xs, p)) (fun k => ?_) (Ev.now _), by omega, hy, by omega, by omega⟩
    simp only [spec_l20Items.l0]
    rw [if_neg (by omega)]
  | d + 1, xs, p, h0, h1, hx, hy => by
    obtain ⟨x, hx1, hxs⟩ := item_ev hb p h0 (by omega)
    obtain ⟨ys, q, he, hl, hz, hq0, hq1⟩ := items_loop hb d (xs ++ [x]) (p + 1) (by omega) (by omega) (by rw [List.length_append, List.length_singleton]; omega)
      (fun y h => (List.mem_append.1 h).elim (hy y) (fun h => by rw [List.mem_singleton.1 h]; exact hxs))
    rw [List.length_append, List.length_singleton] at hl
    refine ⟨ys, q, Ev.step (f := fun k => (spec_l20Item.f k b p).bind fun bt271 => (if xs.length < 8796093022208 then (spec_l20Items.l0 k (xs ++ [bt271.1]) (d : Int) b bt271.2) else (none))) (fun k => ?_) (Ev.bind hx1 (Ev.ifp (by omega) he)), by omega, hz, by omega, by omega⟩
    simp only [spec_l20Items.l0]
    rw [if_pos (by omega), w64 (by omega) (by omega), show ((d + 1 : Nat) : Int) - 1 = (d : Int) by omega]
theorem items_ev {b : List Int} (hb : Code b) (p m : Int) (h0 : 0 ≤ p) (h1 : p ≤ 100000000) (hm0 : 0 ≤ m) (hm1 : m ≤ 100) : ∃ ys q, Ev (fun k => spec_l20Items.f k b p m) (ys, q) ∧ (ys.length : Int) ≤ m ∧ (∀ x ∈ ys, x.size ≤ 8) ∧ p ≤ q ∧ q ≤ p + 1 + m := by
  obtain ⟨v, hv, hv0, hv1⟩ := pick_lt hb p (m + 1) h0 (by omega) (by omega)
  obtain ⟨ys, q, hy, hl, hz, hq0, hq1⟩ := items_loop hb v.toNat [] (p + 1) (by omega) (by omega) (by rw [List.length_nil]; omega) (fun x h => absurd h (by simp))
  rw [Int.toNat_of_nonneg hv0] at hy hq1
  rw [List.length_nil] at hl
  refine ⟨ys, q, ?_, by omega, hz, by omega, by omega⟩
  unfold spec_l20Items.f
  rw [← w64 (i := m + 1) (by omega) (by omega)] at hv
  exact Ev.bind hv hy
theorem rdOf_at {α : Type} (z : α) (l : List α) (i : Nat) (h : i < l.length) : rdOf z l (i : Int) = l[i] := by
  unfold rdOf
  rw [Int.toNat_natCast, List.getD_eq_getElem?_getD, List.getElem?_eq_getElem h, Option.getD_some]
theorem itemOk_loop (s : ByteArray) (hs : s.size ≤ 1000000000) : ∀ (d i : Nat), i + d = s.size → ∃ r, Ev (fun k => spec_l2ItemOk.l0 k s (i : Int)) r
  | 0, i, h => by
    refine ⟨decide (1 ≤ (s.size : Int) ∧ (s.size : Int) ≤ 8), Ev.step (f := fun _ => (spec_l1In.f (s.size : Int) 1 8).bind fun t => some t) (fun k => ?_) (Ev.b (specIn _ _ _) (Ev.now _))⟩
    simp only [spec_l2ItemOk.l0]
    rw [if_neg (by omega)]
  | d + 1, i, h => by
    obtain ⟨r, hr⟩ := itemOk_loop s hs d (i + 1) (by omega)
    by_cases h1 : bt s (i : Int) < 97
    · by_cases h2 : decide (48 ≤ bt s (i : Int) ∧ bt s (i : Int) ≤ 57) = true
      · refine ⟨r, Ev.step (f := fun k => spec_l2ItemOk.l0 k s ((i + 1 : Nat) : Int)) (fun k => ?_) hr⟩
        simp only [spec_l2ItemOk.l0]
        rw [if_pos (by omega), if_pos (by omega), if_pos h1, specFigure, Option.bind_some, if_pos h2, wsucc (i := i) (by omega)]
      · refine ⟨false, Ev.step (f := fun _ => some false) (fun k => ?_) (Ev.now _)⟩
        simp only [spec_l2ItemOk.l0]
        rw [if_pos (by omega), if_pos (by omega), if_pos h1, specFigure, Option.bind_some, if_neg h2]
    · by_cases h3 : bt s (i : Int) > 122
      · by_cases h2 : decide (48 ≤ bt s (i : Int) ∧ bt s (i : Int) ≤ 57) = true
        · refine ⟨r, Ev.step (f := fun k => spec_l2ItemOk.l0 k s ((i + 1 : Nat) : Int)) (fun k => ?_) hr⟩
          simp only [spec_l2ItemOk.l0]
          rw [if_pos (by omega), if_pos (by omega), if_neg h1, if_pos h3, specFigure, Option.bind_some, if_pos h2, wsucc (i := i) (by omega)]
        · refine ⟨false, Ev.step (f := fun _ => some false) (fun k => ?_) (Ev.now _)⟩
          simp only [spec_l2ItemOk.l0]
          rw [if_pos (by omega), if_pos (by omega), if_neg h1, if_pos h3, specFigure, Option.bind_some, if_neg h2]
      · refine ⟨r, Ev.step (f := fun k => spec_l2ItemOk.l0 k s ((i + 1 : Nat) : Int)) (fun k => ?_) hr⟩
        simp only [spec_l2ItemOk.l0]
        rw [if_pos (by omega), if_pos (by omega), if_neg h1, if_neg h3, wsucc (i := i) (by omega)]
theorem l2Items_loop (l : List ByteArray) (hl : l.length ≤ 1000) (hx : ∀ x ∈ l, x.size ≤ 8) : ∀ (d i : Nat), i + d = l.length → ∃ r, Ev (fun k => spec_l2Items.l0 k l (i : Int)) r
  | 0, i, h => by
    refine ⟨decide ((l.length : Int) ≤ 40), Ev.step (f := fun _ => some (decide ((l.length : Int) ≤ 40))) (fun k => ?_) (Ev.now _)⟩
    simp only [spec_l2Items.l0]
    rw [if_neg (by omega)]
  | d + 1, i, h => by
    obtain ⟨r, hr⟩ := l2Items_loop l hl hx d (i + 1) (by omega)
    have hi : i < l.length := by omega
    have hz := hx l[i] (List.getElem_mem hi)
    obtain ⟨q, hq⟩ := itemOk_loop l[i] (by omega) l[i].size 0 (by omega)
    have hq' : Ev (fun k => spec_l2ItemOk.f k (rdOf ByteArray.empty l (i : Int))) q := by
      rw [rdOf_at _ _ _ hi]; exact hq
    have e : ∀ k, spec_l2Items.l0 (k + 1) l (i : Int) = (spec_l2ItemOk.f k (rdOf ByteArray.empty l (i : Int))).bind fun t281 => (if t281 = true then (spec_l2Items.l0 k l ((i + 1 : Nat) : Int)) else (some false)) := by
      intro k
      simp only [spec_l2Items.l0]
      rw [if_pos (by omega), if_pos (by omega), wsucc (i := i) (by omega)]
    by_cases hc : q = true
    · exact ⟨r, Ev.step e (Ev.bind hq' (Ev.ifp hc hr))⟩
    · exact ⟨false, Ev.step e (Ev.bind hq' (Ev.ifn hc (Ev.now _)))⟩
theorem set_insert {out : List ByteArray} {y : ByteArray} {j : Nat} (hy : y.size ≤ 8) (ho : ∀ x ∈ out, x.size ≤ 8) : ∀ x ∈ (([] : List ByteArray) ++ out.take j) ++ [y] ++ out.drop j, x.size ≤ 8 := by
  intro x hx
  rw [List.nil_append] at hx
  rcases List.mem_append.1 hx with hx | hx
  · rcases List.mem_append.1 hx with hx | hx
    · exact ho x (List.mem_of_mem_take hx)
    · rw [List.mem_singleton.1 hx]; exact hy
  · exact ho x (List.mem_of_mem_drop hx)
theorem set_len {α : Type} {out : List α} {y : α} {j : Nat} : ((([] : List α) ++ out.take j) ++ [y] ++ out.drop j).length = out.length + 1 := by
  rw [List.nil_append, List.length_append, List.length_append, List.length_singleton, List.length_take, List.length_drop]; omega
theorem set_inner (l : List ByteArray) (hl : l.length ≤ 1000) (i : Nat) (hi : i < l.length) (hx : ∀ x ∈ l, x.size ≤ 8)
    (next : ∀ out : List ByteArray, out.length ≤ i + 1 → (∀ x ∈ out, x.size ≤ 8) → ∃ r, Ev (fun k => spec_l2Set.l0 k l out ((i + 1 : Nat) : Int)) r ∧ r.length ≤ l.length ∧ ∀ x ∈ r, x.size ≤ 8)
    (out : List ByteArray) (ho : out.length ≤ i) (hos : ∀ x ∈ out, x.size ≤ 8) : ∀ (d j : Nat), j + d = out.length → ∃ r, Ev (fun k => spec_l2Set.l1 k l out (i : Int) (j : Int)) r ∧ r.length ≤ l.length ∧ ∀ x ∈ r, x.size ≤ 8
  | 0, j, h => by
    obtain ⟨r, hr, hl1, hs1⟩ := next ((([] : List ByteArray) ++ out.take ((j : Int)).toNat) ++ [rdOf ByteArray.empty l (i : Int)] ++ out.drop ((j : Int)).toNat) (by rw [set_len]; omega) (set_insert (by rw [rdOf_at _ _ _ hi]; exact hx _ (List.getElem_mem hi)) hos)
    have t1 : (out.take ((j : Int)).toNat).length ≤ out.length := by rw [List.length_take]; omega
    refine ⟨r, Ev.step (f := fun k => spec_l2Set.l0 k l ((([] : List ByteArray) ++ out.take ((j : Int)).toNat) ++ [rdOf ByteArray.empty l (i : Int)] ++ out.drop ((j : Int)).toNat) ((i + 1 : Nat) : Int)) (fun k => ?_) hr, hl1, hs1⟩
    simp only [spec_l2Set.l1, Option.bind_some]
    rw [if_neg (by omega), if_pos (by omega), if_pos (by omega), if_pos (by rw [List.length_nil]; omega), if_pos (by omega), if_pos (by omega), if_pos (by rw [List.nil_append]; omega), if_pos (by rw [← List.length_append, set_len]; omega), wsucc (i := i) (by omega)]
  | d + 1, j, h => by
    by_cases c1 : (Op.bytesLess ((rdOf ByteArray.empty out (j : Int)).toList) ((rdOf ByteArray.empty l (i : Int)).toList)) = true
    · obtain ⟨r, hr, hl1, hs1⟩ := set_inner l hl i hi hx next out ho hos d (j + 1) (by omega)
      refine ⟨r, Ev.step (f := fun k => spec_l2Set.l1 k l out (i : Int) ((j + 1 : Nat) : Int)) (fun k => ?_) hr, hl1, hs1⟩
      simp only [spec_l2Set.l1]
      rw [if_pos (by omega), if_pos (by omega), if_pos (by omega), if_pos (by omega), if_pos c1, wsucc (i := j) (by omega)]
    · by_cases c2 : (rdOf ByteArray.empty out (j : Int)).toList = (rdOf ByteArray.empty l (i : Int)).toList
      · obtain ⟨r, hr, hl1, hs1⟩ := next out (by omega) hos
        refine ⟨r, Ev.step (f := fun k => spec_l2Set.l0 k l out ((i + 1 : Nat) : Int)) (fun k => ?_) hr, hl1, hs1⟩
        simp only [spec_l2Set.l1]
        rw [if_pos (by omega), if_pos (by omega), if_pos (by omega), if_pos (by omega), if_neg c1, if_pos c2, wsucc (i := i) (by omega)]
      · obtain ⟨r, hr, hl1, hs1⟩ := next ((([] : List ByteArray) ++ out.take ((j : Int)).toNat) ++ [rdOf ByteArray.empty l (i : Int)] ++ out.drop ((j : Int)).toNat) (by rw [set_len]; omega) (set_insert (by rw [rdOf_at _ _ _ hi]; exact hx _ (List.getElem_mem hi)) hos)
        have t1 : (out.take ((j : Int)).toNat).length ≤ out.length := by rw [List.length_take]; omega
        refine ⟨r, Ev.step (f := fun k => spec_l2Set.l0 k l ((([] : List ByteArray) ++ out.take ((j : Int)).toNat) ++ [rdOf ByteArray.empty l (i : Int)] ++ out.drop ((j : Int)).toNat) ((i + 1 : Nat) : Int)) (fun k => ?_) hr, hl1, hs1⟩
        simp only [spec_l2Set.l1, Option.bind_some]
        rw [if_pos (by omega), if_pos (by omega), if_pos (by omega), if_pos (by omega), if_neg c1, if_neg c2, if_pos (by omega), if_pos (by rw [List.length_nil]; omega), if_pos (by rw [List.nil_append]; omega), if_pos (by rw [← List.length_append, set_len]; omega), wsucc (i := i) (by omega)]
theorem set_loop (l : List ByteArray) (hl : l.length ≤ 1000) (hx : ∀ x ∈ l, x.size ≤ 8) : ∀ (d i : Nat) (out : List ByteArray), i + d = l.length → out.length ≤ i → (∀ x ∈ out, x.size ≤ 8) → ∃ r, Ev (fun k => spec_l2Set.l0 k l out (i : Int)) r ∧ r.length ≤ l.length ∧ ∀ x ∈ r, x.size ≤ 8
  | 0, i, out, h, ho, hos => by
    refine ⟨out, Ev.step (f := fun _ => some out) (fun k => ?_) (Ev.now _), by omega, hos⟩
    simp only [spec_l2Set.l0]
    rw [if_neg (by omega)]
  | d + 1, i, out, h, ho, hos => by
    obtain ⟨r, hr, hl1, hs1⟩ := set_inner l hl i (by omega) hx (fun out' h1 h2 => set_loop l hl hx d (i + 1) out' (by omega) h1 h2) out ho hos out.length 0 (by omega)
    refine ⟨r, Ev.step (f := fun k => spec_l2Set.l1 k l out (i : Int) 0) (fun k => ?_) hr, hl1, hs1⟩
    simp only [spec_l2Set.l0]
    rw [if_pos (by omega)]
theorem to_ev (key s : ByteArray) (m : Int) (hk : key.size ≤ 1000) (hs : s.size ≤ 1000) (hm0 : 1 ≤ m) (hm1 : m ≤ 60000) : ∃ v, Ev (fun k => spec_l2To.f k key s m) v ∧ 0 ≤ v ∧ v < m := by
  have e1 : (key ++ (⟨#[32]⟩ : ByteArray)).size = key.size + 1 := by rw [ByteArray.size_append]; rfl
  obtain ⟨t, ht, hts, htl⟩ := sum_ev ((key ++ (⟨#[32]⟩ : ByteArray)) ++ s) (by rw [ByteArray.size_append, e1]; omega)
  have hx := ((sumB_iff _).1 hts).1
  have hr := head31_range hx
  have hh := specHead_ev t (by omega) (by omega) hx
  generalize head31 (bytesOf t) = n at *
  have hp0 : 0 ≤ n * m := Int.mul_nonneg hr.1 (by omega)
  have hp1 : n * m ≤ 2147483647 * m := Int.mul_le_mul_of_nonneg_right hr.2 (by omega)
  refine ⟨n * m / 2147483648, ?_, by omega, by omega⟩
  unfold spec_l2To.f
  refine Ev.ifp (by omega) (Ev.ifp (by rw [e1]; omega) (Ev.bind ht (Ev.bind hh ?_)))
  exact Ev.at_ (Ev.now _) (by show wrap64 (n * m) / 2147483648 = n * m / 2147483648; rw [w64 (by omega) (by omega)])
/-- Ascending, from a number on. -/
def Asc : Int → List Int → Prop
  | _, [] => True
  | a, x :: xs => a ≤ x ∧ Asc x xs
theorem asc_low : ∀ {xs : List Int} {a b : Int}, a ≤ b → Asc b xs → Asc a xs
  | [], _, _, _, _ => trivial
  | _ :: _, _, _, h, k => ⟨Int.le_trans h k.1, k.2⟩
theorem asc_insert : ∀ {xs : List Int} {a y : Int} (j : Nat), Asc a xs → a ≤ y → (∀ x ∈ xs.take j, x ≤ y) → (∀ h : j < xs.length, y ≤ xs[j]) → Asc a (xs.take j ++ [y] ++ xs.drop j)
  | [], a, y, j, _, hy, _, _ => by rw [List.take_nil, List.drop_nil]; exact ⟨hy, trivial⟩
  | x :: xs, a, y, 0, h, hy, _, hj => by
    rw [List.take_zero, List.drop_zero]
    exact ⟨hy, hj (by rw [List.length_cons]; omega), h.2⟩
  | x :: xs, a, y, j + 1, h, hy, ht, hj => by
    rw [List.take_succ_cons, List.drop_succ_cons, List.cons_append, List.cons_append]
    refine ⟨h.1, asc_insert j h.2 (ht x (by rw [List.take_succ_cons]; exact List.mem_cons_self)) (fun z hz => ht z (by rw [List.take_succ_cons]; exact List.mem_cons_of_mem _ hz)) fun hl => ?_⟩
    have := hj (by rw [List.length_cons]; omega)
    rwa [List.getElem_cons_succ] at this
def InR (m : Int) (l : List Int) : Prop := ∀ x ∈ l, 0 ≤ x ∧ x < m
theorem inr_insert {m : Int} {out : List Int} {y : Int} {j : Nat} (hy : 0 ≤ y ∧ y < m) (ho : InR m out) : InR m ((([] : List Int) ++ out.take j) ++ [y] ++ out.drop j) := by
  intro x hx
  rw [List.nil_append] at hx
  rcases List.mem_append.1 hx with hx | hx
  · rcases List.mem_append.1 hx with hx | hx
    · exact ho x (List.mem_of_mem_take hx)
    · rw [List.mem_singleton.1 hx]; exact hy
  · exact ho x (List.mem_of_mem_drop hx)
theorem rd_at' (l : List Int) (i : Nat) (h : i < l.length) : rd l (i : Int) = l[i] := by
  unfold rd; rw [Int.toNat_natCast, List.getD_eq_getElem?_getD, List.getElem?_eq_getElem h, Option.getD_some]
theorem sort_inner (l : List Int) (hl : l.length ≤ 1000) (m : Int) (i : Nat) (hi : i < l.length) (hx : InR m l)
    (next : ∀ out : List Int, out.length = i + 1 → InR m out → Asc 0 out → ∃ r, Ev (fun k => spec_l2Sort.l0 k l out ((i + 1 : Nat) : Int)) r ∧ r.length = l.length ∧ InR m r ∧ Asc 0 r)
    (out : List Int) (ho : out.length = i) (hos : InR m out) (hoa : Asc 0 out) : ∀ (d j : Nat), j + d = out.length → (∀ x ∈ out.take j, x ≤ l[i]) → ∃ r, Ev (fun k => spec_l2Sort.l1 k l out (i : Int) (j : Int)) r ∧ r.length = l.length ∧ InR m r ∧ Asc 0 r
  | 0, j, h, hj => by
    have hxi := hx _ (List.getElem_mem hi)
    obtain ⟨r, hr, hl1⟩ := next ((([] : List Int) ++ out.take ((j : Int)).toNat) ++ [rd l (i : Int)] ++ out.drop ((j : Int)).toNat) (by rw [set_len]; omega) (inr_insert (by rw [rd_at' _ _ hi]; exact hxi) hos)
      (by rw [List.nil_append, rd_at' _ _ hi]; exact asc_insert _ hoa hxi.1 (by rw [Int.toNat_natCast]; exact hj) (fun h => by omega))
    have t1 : (out.take ((j : Int)).toNat).length ≤ out.length := by rw [List.length_take]; omega
    refine ⟨r, Ev.step (f := fun k => spec_l2Sort.l0 k l ((([] : List Int) ++ out.take ((j : Int)).toNat) ++ [rd l (i : Int)] ++ out.drop ((j : Int)).toNat) ((i + 1 : Nat) : Int)) (fun k => ?_) hr, hl1⟩
    simp only [spec_l2Sort.l1, Option.bind_some]
    rw [if_neg (by omega), if_pos (by omega), if_pos (by omega), if_pos (by rw [List.length_nil]; omega), if_pos (by omega), if_pos (by omega), if_pos (by rw [List.nil_append]; omega), if_pos (by rw [← List.length_append, set_len]; omega), wsucc (i := i) (by omega)]
  | d + 1, j, h, hj => by
    have hjl : j < out.length := by omega
    have hxi := hx _ (List.getElem_mem hi)
    by_cases c1 : rd out (j : Int) ≤ rd l (i : Int)
    · have c1' : out[j] ≤ l[i] := by rw [rd_at' _ _ hjl, rd_at' _ _ hi] at c1; exact c1
      obtain ⟨r, hr, hl1⟩ := sort_inner l hl m i hi hx next out ho hos hoa d (j + 1) (by omega) (fun x hx => by
        rw [List.take_succ_eq_append_getElem hjl] at hx
        rcases List.mem_append.1 hx with hx | hx
        · exact hj x hx
        · rw [List.mem_singleton.1 hx]; exact c1')
      refine ⟨r, Ev.step (f := fun k => spec_l2Sort.l1 k l out (i : Int) ((j + 1 : Nat) : Int)) (fun k => ?_) hr, hl1⟩
      simp only [spec_l2Sort.l1]
      rw [if_pos (by omega), if_pos (by omega), if_pos (by omega), if_pos (by omega), if_pos c1, wsucc (i := j) (by omega)]
    · have c1' : l[i] ≤ out[j] := by rw [rd_at' _ _ hjl, rd_at' _ _ hi] at c1; omega
      obtain ⟨r, hr, hl1⟩ := next ((([] : List Int) ++ out.take ((j : Int)).toNat) ++ [rd l (i : Int)] ++ out.drop ((j : Int)).toNat) (by rw [set_len]; omega) (inr_insert (by rw [rd_at' _ _ hi]; exact hxi) hos)
        (by rw [List.nil_append, rd_at' _ _ hi]; exact asc_insert _ hoa hxi.1 (by rw [Int.toNat_natCast]; exact hj) (fun h => by simp only [Int.toNat_natCast]; exact c1'))
      have t1 : (out.take ((j : Int)).toNat).length ≤ out.length := by rw [List.length_take]; omega
      refine ⟨r, Ev.step (f := fun k => spec_l2Sort.l0 k l ((([] : List Int) ++ out.take ((j : Int)).toNat) ++ [rd l (i : Int)] ++ out.drop ((j : Int)).toNat) ((i + 1 : Nat) : Int)) (fun k => ?_) hr, hl1⟩
      simp only [spec_l2Sort.l1, Option.bind_some]
      rw [if_pos (by omega), if_pos (by omega), if_pos (by omega), if_pos (by omega), if_neg c1, if_pos (by omega), if_pos (by rw [List.length_nil]; omega), if_pos (by rw [List.nil_append]; omega), if_pos (by rw [← List.length_append, set_len]; omega), wsucc (i := i) (by omega)]
theorem sort_loop (l : List Int) (hl : l.length ≤ 1000) (m : Int) (hx : InR m l) : ∀ (d i : Nat) (out : List Int), i + d = l.length → out.length = i → InR m out → Asc 0 out → ∃ r, Ev (fun k => spec_l2Sort.l0 k l out (i : Int)) r ∧ r.length = l.length ∧ InR m r ∧ Asc 0 r
  | 0, i, out, h, ho, hos, hoa => by
    refine ⟨out, Ev.step (f := fun _ => some out) (fun k => ?_) (Ev.now _), by omega, hos, hoa⟩
    simp only [spec_l2Sort.l0]
    rw [if_neg (by omega)]
  | d + 1, i, out, h, ho, hos, hoa => by
    obtain ⟨r, hr, hl1⟩ := sort_inner l hl m i (by omega) hx (fun out' h1 h2 h3 => sort_loop l hl m hx d (i + 1) out' (by omega) h1 h2 h3) out ho hos hoa out.length 0 (by omega) (fun x hx => by rw [List.take_zero] at hx; cases hx)
    refine ⟨r, Ev.step (f := fun k => spec_l2Sort.l1 k l out (i : Int) 0) (fun k => ?_) hr, hl1⟩
    simp only [spec_l2Sort.l0]
    rw [if_pos (by omega)]
/-- The gaps of ascending numbers. -/
def gaps : Int → List Int → List Int
  | _, [] => []
  | a, x :: xs => (x - a) :: gaps x xs
theorem gaps_len : ∀ (xs : List Int) (a : Int), (gaps a xs).length = xs.length
  | [], _ => rfl
  | x :: xs, a => by rw [gaps, List.length_cons, gaps_len xs, List.length_cons]
theorem gaps_in {m : Int} : ∀ {xs : List Int} {a : Int}, 0 ≤ a → Asc a xs → InR m xs → ∀ x ∈ gaps a xs, 0 ≤ x ∧ x < m
  | [], _, _, _, _, x, hx => absurd hx (by rw [gaps]; exact List.not_mem_nil)
  | y :: ys, a, ha, h, hr, x, hx => by
    have hy := hr y List.mem_cons_self
    have h1 := h.1
    rcases List.mem_cons.1 hx with rfl | hx
    · omega
    · exact gaps_in (by omega) h.2 (fun z hz => hr z (List.mem_cons_of_mem _ hz)) x hx
open Go.Proofs.Ytipmgmiooanghaa.Rice in
theorem rice_small (b : Int) (hb0 : 0 ≤ b) (hb8 : b ≤ 8) : ∀ xs : List Int, (∀ x ∈ xs, numOk x) → (encL b xs).length ≤ 60009 * xs.length
  | [], _ => Nat.zero_le _
  | y :: ys, hy => by
    have h1 := enc_small hb0 hb8 (hy y List.mem_cons_self)
    have h2 := rice_small b hb0 hb8 ys fun x hx => hy x (List.mem_cons_of_mem _ hx)
    rw [encL, List.length_append, List.length_cons]
    omega
open Go.Proofs.Ytipmgmiooanghaa.Rice in
theorem filter_l1 (set : List ByteArray) (hset : set.length ≤ 40) (l : List Int) (hl : l.length ≤ 40) (hx : InR 60000 l) (hpos : Asc 0 l) : ∀ (d i : Nat) (g : List Int) (a : Int), i + d = l.length → g.length = i → (∀ x ∈ g, numOk x) → 0 ≤ a → a < 60000 → Asc a (l.drop i) →
    ∃ t, Ev (fun k => spec_l2Filter.l1 k set l g a (i : Int)) t ∧ t.size ≤ 400010
  | 0, i, g, a, h, hg, hgo, ha0, ha1, hasc => by
    have hv := l1Var_ev (n := (set.length : Int)) (by omega) (by omega)
    have hvs := vb_len5 (n := ((set.length : Int)).toNat) (by omega)
    have hs := riceB_size 5 g
    have hs2 := rice_small 5 (by omega) (by omega) g hgo
    refine ⟨strOfNums (vb ((set.length : Int)).toNat) ++ riceB 5 g, Ev.step (f := fun k => (spec_l1Var.f k (set.length : Int)).bind fun t411 => ((spec_l2Rice.f g 5).bind fun t412 => (if t411.size + t412.size ≤ 9223372036854775807 then (some (t411 ++ t412)) else (none)))) (fun k => ?_) (Ev.bind hv (Ev.b (a := riceB 5 g) ?_ (Ev.ifp (by rw [str_size]; omega) (Ev.now _)))), by rw [ByteArray.size_append, str_size]; omega⟩
    · simp only [spec_l2Filter.l1]
      rw [if_neg (by omega)]
    · unfold spec_l2Rice.f
      rw [if_pos ⟨by omega, by omega, by omega, hgo⟩]
  | d + 1, i, g, a, h, hg, hgo, ha0, ha1, hasc => by
    have hi : i < l.length := by omega
    have hxi := hx _ (List.getElem_mem hi)
    rw [List.drop_eq_getElem_cons hi] at hasc
    have h1 := hasc.1
    obtain ⟨t, ht, hts⟩ := filter_l1 set hset l hl hx hpos d (i + 1) (g ++ [l[i] - a]) l[i] (by omega) (by rw [List.length_append, List.length_singleton]; omega)
      (fun x hx => (List.mem_append.1 hx).elim (hgo x) (fun h => by rw [List.mem_singleton.1 h]; exact ⟨by omega, by omega⟩)) hxi.1 hxi.2 hasc.2
    refine ⟨t, Ev.step (f := fun k => spec_l2Filter.l1 k set l (g ++ [l[i] - a]) l[i] ((i + 1 : Nat) : Int)) (fun k => ?_) ht, hts⟩
    simp only [spec_l2Filter.l1]
    rw [if_pos (by omega), if_pos (by omega), if_pos (by omega), rd_at' _ _ hi, w64 (i := l[i] - a) (by omega) (by omega), w64 (by omega) (by omega)]
    rfl
theorem filter_l0 (key : ByteArray) (hk : key.size ≤ 1000) (set : List ByteArray) (hset : set.length ≤ 40) (hss : ∀ x ∈ set, x.size ≤ 8) : ∀ (d i : Nat) (at_ : List Int), i + d = set.length → at_.length = i → InR 60000 at_ →
    ∃ t, Ev (fun k => spec_l2Filter.l0 k key set at_ (i : Int)) t ∧ t.size ≤ 400010
  | 0, i, at_, h, ha, har => by
    obtain ⟨r, hr, hrl, hrr, hra⟩ := sort_loop at_ (by omega) 60000 har at_.length 0 [] (by omega) rfl (fun x hx => by cases hx) trivial
    obtain ⟨t, ht, hts⟩ := filter_l1 set hset r (by omega) hrr hra r.length 0 [] 0 (by omega) rfl (fun x hx => by cases hx) (by omega) (by omega) (by rw [List.drop_zero]; exact hra)
    refine ⟨t, Ev.step (f := fun k => (spec_l2Sort.f k at_).bind fun t400 => (spec_l2Filter.l1 k set t400 (([] : List Int)) 0 0)) (fun k => ?_) (Ev.bind hr ht), hts⟩
    simp only [spec_l2Filter.l0]
    rw [if_neg (by omega)]
  | d + 1, i, at_, h, ha, har => by
    have hi : i < set.length := by omega
    obtain ⟨v, hv, hv0, hv1⟩ := to_ev key set[i] ((set.length : Int) * 37) hk (by have := hss _ (List.getElem_mem hi); omega) (by omega) (by omega)
    obtain ⟨t, ht, hts⟩ := filter_l0 key hk set hset hss d (i + 1) (at_ ++ [v]) (by omega) (by rw [List.length_append, List.length_singleton]; omega)
      (fun x hx => (List.mem_append.1 hx).elim (har x) (fun h => by rw [List.mem_singleton.1 h]; exact ⟨hv0, by omega⟩))
    refine ⟨t, Ev.step (f := fun k => (spec_l2To.f k key set[i] ((set.length : Int) * 37)).bind fun t396 => (if at_.length < 17592186044416 then (spec_l2Filter.l0 k key set (at_ ++ [t396]) ((i + 1 : Nat) : Int)) else (none))) (fun k => ?_) (Ev.bind hv (Ev.ifp (by omega) ht)), hts⟩
    simp only [spec_l2Filter.l0]
    rw [if_pos (by omega), if_pos (by omega), rdOf_at _ _ _ hi, w64 (i := (set.length : Int) * 37) (by omega) (by omega), w64 (by omega) (by omega)]
    rfl
theorem filterOf_ev (key : ByteArray) (l : List ByteArray) (hk : key.size ≤ 1000) (hl : l.length ≤ 40) (hx : ∀ x ∈ l, x.size ≤ 8) : ∃ t, Ev (fun k => spec_FilterOf.f k key l) t ∧ t.size ≤ 400010 := by
  have h1 := specIsSum_ev key (by omega)
  obtain ⟨b, hb⟩ := l2Items_loop l (by omega) hx l.length 0 (by omega)
  obtain ⟨set, hs, hsl, hss⟩ := set_loop l (by omega) hx l.length 0 [] (by omega) (by rw [List.length_nil]; omega) (fun x hx => by cases hx)
  obtain ⟨t, ht, hts⟩ := filter_l0 key hk set (by omega) hss set.length 0 [] (by omega) rfl (fun x hx => by cases hx)
  have hb' : Ev (fun k => spec_l2Items.f k l) b := hb
  have hs' : Ev (fun k => spec_l2Set.f k l) set := hs
  have ht' : Ev (fun k => spec_l2Filter.f k key l) t := Ev.bind hs' ht
  unfold spec_FilterOf.f
  by_cases c1 : sumB (bytesOf key) = true
  · by_cases c2 : b = true
    · exact ⟨t, Ev.bind h1 (Ev.ifp c1 (Ev.bind hb' (Ev.ifp c2 (Ev.bind ht' (Ev.now _))))), hts⟩
    · exact ⟨_, Ev.bind h1 (Ev.ifp c1 (Ev.bind hb' (Ev.ifn c2 (Ev.now _)))), Nat.zero_le _⟩
  · exact ⟨_, Ev.bind h1 (Ev.ifn c1 (Ev.now _)), Nat.zero_le _⟩
theorem drawFilter_ev {b : List Int} (hb : Code b) (p : Int) (h0 : 0 ≤ p) (h1 : p ≤ 1000000) : ∃ s key l q, Ev (fun k => spec_l20Filter.f k b p) (s, key, l, q) ∧ s.size ≤ 400010 ∧ p ≤ q ∧ q ≤ p + 100 := by
  obtain ⟨x, hx, hxs⟩ := item_ev hb p h0 (by omega)
  obtain ⟨key, hkey, _, hks⟩ := sum_ev x (by omega)
  obtain ⟨l, q, hl, hll, hls, hq0, hq1⟩ := items_ev hb (p + 1) 8 (by omega) (by omega) (by omega) (by omega)
  obtain ⟨t, ht, hts⟩ := filterOf_ev key l (by omega) (by omega) hls
  refine ⟨t, key, l, q, ?_, hts, by omega, by omega⟩
  unfold spec_l20Filter.f
  exact Ev.bind hx (Ev.bind hkey (Ev.bind hl (Ev.bind ht (Ev.now _))))
theorem drawFilterGet_ev {l : List Int} (h : ∀ x ∈ l, 0 ≤ x ∧ x ≤ 255) : ∃ s, Ev (fun k => spec_DrawFilterGet.f k l) s ∧ s.size ≤ 400020 := by
  obtain ⟨c, hb, hc⟩ := open_ev h
  obtain ⟨s, key, items, q, hs, hsz, hq0, hq1⟩ := drawFilter_ev hc 0 (by omega) (by omega)
  obtain ⟨v, hv, hv0, hv1⟩ := pick_lt hc q 2 (by omega) (by omega) (by omega)
  unfold spec_DrawFilterGet.f
  by_cases c0 : v = 0
  · exact ⟨s, Ev.b hb (Ev.bind hs (Ev.bind hv (Ev.ifp c0 (Ev.now _)))), by omega⟩
  · obtain ⟨t, q2, ht, hts, _, _⟩ := bent_ev hc (q + 1) s (by omega) (by omega) (by omega)
    exact ⟨t, Ev.b hb (Ev.bind hs (Ev.bind hv (Ev.ifn c0 (Ev.bind ht (Ev.now _))))), by omega⟩

theorem lawFilter_loop (L : List Int) (hl : L.length ≤ 40) (m : Int) (hm0 : 0 ≤ m) (hm : m ≤ 40)
    (h : ∀ j : Nat, j < L.length → 0 ≤ rd L (j : Int) ∧ rd L (j : Int) < m * 37 ∧ (0 < j → rd L ((j - 1 : Nat) : Int) ≤ rd L (j : Int))) :
    ∀ (d i : Nat), i + d = L.length → Ev (fun k => laws_FnFilterGet.l0 k L m (i : Int)) ((L.length : Int) == m)
  | 0, i, hi => by
    refine Ev.step (f := fun _ => some ((L.length : Int) == m)) (fun k => ?_) (Ev.now _)
    simp only [laws_FnFilterGet.l0]
    rw [if_neg (by omega)]
  | d + 1, i, hi => by
    obtain ⟨h1, h2, h3⟩ := h i (by omega)
    refine Ev.step (f := fun k => laws_FnFilterGet.l0 k L m ((i + 1 : Nat) : Int)) (fun k => ?_) (lawFilter_loop L hl m hm0 hm h d (i + 1) (by omega))
    simp only [laws_FnFilterGet.l0]
    rw [if_pos (by omega), if_pos (by omega), if_neg (by omega), w64 (i := m * 37) (by omega) (by omega), if_neg (by omega)]
    by_cases h0 : (i : Int) > 0
    · have hwm : wrap64 ((i : Int) - 1) = ((i - 1 : Nat) : Int) := by rw [w64 (by omega) (by omega)]; omega
      have := h3 (by omega)
      rw [if_pos h0, show wrap64 ((i : Int) - 1) = ((i - 1 : Nat) : Int) by rw [w64 (by omega) (by omega)]; omega, if_pos (by omega), if_pos (by omega), if_neg (by omega), wsucc (i := i) (by omega)]
    · rw [if_neg h0, wsucc (i := i) (by omega)]
theorem psum_rd (g : List Int) (j : Nat) (h : j < g.length) : rd (psum 0 g) (j : Int) = tot 0 (g.take (j + 1)) := by
  unfold rd; rw [Int.toNat_natCast]; exact psum_get g 0 j h
open Go.Proofs.Ytipmgmiooanghaa.Rice in
theorem FnFilterGet : laws_FnFilterGet.Pure := by
  intro l _ _ hw
  refine Ev.rounds (r := true) ?_
  obtain ⟨s, hd, hs⟩ := drawFilterGet_ev (wf_bytes hw)
  unfold laws_FnFilterGet.f
  by_cases ha : (l.length : Int) > 1048576
  · exact Ev.ifp ha (Ev.now _)
  have hlen := filterGet_len s
  refine Ev.ifn ha (Ev.bind hd (Ev.bind (implFilterGet_ev s (by omega)) (Ev.bind (specFilterGet_ev s (by omega)) (Ev.ifn (by simp) ?_))))
  refine Ev.bind (coInts_same (filterGet s).1 (by omega)) (Ev.ifp rfl ?_)
  by_cases ht : (filterGet s).2 = true
  · rw [show (!(filterGet s).2) = false by rw [ht]; rfl]
    refine Ev.step (f := fun k => (impl_VarGet.f k s).bind fun bt448 => (laws_FnFilterGet.l0 k (filterGet s).1 bt448.1 0)) (fun k => by simp only [laws_FnFilterGet.j0]; exact if_neg (by simp)) ?_
    refine Ev.bind (implVarGet_ev s (by omega)) ?_
    unfold filterGet at ht hlen ⊢
    generalize vgo (bytesOf s) 0 0 = v at *
    by_cases c0 : v.2 = 0 ∨ v.1 > 40 ∨ s.size > 600
    · rw [if_pos c0] at ht; exact absurd ht (by simp)
    rw [if_neg c0] at ht hlen ⊢
    generalize s.extract (v.2 : Int).toNat s.size = t at *
    by_cases c1 : (riceGet t v.1 5).2 = true ∧ (tot 0 (riceGet t v.1 5).1 < v.1 * 37 ∨ v.1 ≤ 0)
    · rw [if_pos c1] at hlen ⊢
      have hn := riceGet_nums c1.1
      generalize riceGet t v.1 5 = r at *
      have hnn : ∀ x ∈ r.1, 0 ≤ x := fun x hx => (hn.2.2 x hx).1
      refine Ev.at_ (lawFilter_loop (psum 0 r.1) hlen v.1 hn.1.1 hn.1.2 ?_ (psum 0 r.1).length 0 (by omega)) (beq_iff_eq.2 (by rw [psum_len]; exact hn.2.1))
      intro j hj
      rw [psum_len] at hj
      have hlast : tot 0 (r.1.take (j + 1)) ≤ tot 0 r.1 := by
        have := tot_take_le (a := 0) hnn (show j + 1 ≤ r.1.length by omega)
        rwa [List.take_length] at this
      refine ⟨?_, ?_, fun h0 => ?_⟩
      · rw [psum_rd _ _ hj]
        exact tot_ge _ _ fun x hx => hnn x (List.mem_of_mem_take hx)
      · rw [psum_rd _ _ hj]
        have h40 := hn.2.1
        rcases c1.2 with h | h <;> omega
      · rw [psum_rd _ _ hj, psum_rd _ _ (by omega), show j - 1 + 1 = j by omega]
        exact tot_take_le hnn (by omega)
    · rw [if_neg c1] at ht; exact absurd ht (by simp)
  · have hf : (filterGet s).2 = false := by rcases h : (filterGet s).2 with _ | _; rfl; exact absurd h ht
    rw [show (!(filterGet s).2) = true by rw [hf]; rfl]
    refine Ev.step (f := fun k => if (((filterGet s).2 == (filterGet s).2) = true) then ((laws_coInts.f k (filterGet s).1 (filterGet s).1).bind fun t447 => (some t447)) else (some false)) (fun k => by simp only [laws_FnFilterGet.j0]; exact if_pos trivial) ?_
    exact Ev.ifp (beq_self_eq_true _) (Ev.bind (coInts_same (filterGet s).1 (by omega)) (Ev.now _))

end Go.Proofs.Ytipmgmiooanghaa.Pure
