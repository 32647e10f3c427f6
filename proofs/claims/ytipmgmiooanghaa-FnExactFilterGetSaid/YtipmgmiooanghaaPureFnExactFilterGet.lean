/- What FnExactFilterGet computes is true for all texts. Conditions: none beyond those that the statement tells. -/
import Derived.Test.YtipmgmiooanghaaPFnExactFilterGetx4
import Derived.Test.YtipmgmiooanghaaPd
import Derived.Test.YtipmgmiooanghaaRy
namespace Go.Proofs.Ytipmgmiooanghaa.Pure
open Go Go.RowKit Go.Proofs.Ytipmgmiooanghaa.PFnExactFilterGet Go.Proofs.YtipmgmiooanghaaW.PrintWords Go.Proofs.YtipmgmiooanghaaW.PrintLast Go.Proofs.YtipmgmiooanghaaW.PrintMore Go.Proofs.Ytipmgmiooanghaa.Pl
set_option linter.unusedVariables false

/-! ### VarPut: the steps -/
theorem step_div {n : Nat} (h : n ≤ 2147483647) : wrap64 (Int.tdiv (n : Int) 128) = ((n / 128 : Nat) : Int) := by
  rw [Int.tdiv_eq_ediv_of_nonneg (by omega), w64 (by omega) (by omega)]; omega
theorem step_mod1 {n : Nat} (h : n ≤ 2147483647) : (wrap64 (128 + Int.tmod (n : Int) 128)) % 256 = ((n % 128 + 128 : Nat) : Int) := by
  rw [Int.tmod_eq_emod_of_nonneg (by omega), w64 (by omega) (by omega)]; omega
theorem step_mod2 {n : Nat} (h : n ≤ 2147483647) : (wrap64 (Int.tmod (n : Int) 128 + 128)) % 256 = ((n % 128 + 128 : Nat) : Int) := by
  rw [Int.tmod_eq_emod_of_nonneg (by omega), w64 (by omega) (by omega)]; omega
/-- What VarPut writes. -/
def vput (n : Int) : ByteArray := if 0 ≤ n ∧ n ≤ 2147483647 then strOfNums (vb n.toNat) else ⟨#[]⟩
theorem vput_in {n : Int} (h : 0 ≤ n ∧ n ≤ 2147483647) : vput n = strOfNums (vb n.toNat) := if_pos h
theorem vput_out {n : Int} (h : ¬ (0 ≤ n ∧ n ≤ 2147483647)) : vput n = ⟨#[]⟩ := if_neg h
theorem vput_bytes {n : Int} (h0 : 0 ≤ n) (h1 : n ≤ 2147483647) : bytesOf (vput n) = vb n.toNat := by
  unfold vput; rw [if_pos ⟨h0, h1⟩, bytes_str _ (vb_nn _)]
theorem vput_none {n : Int} (h : ¬ (0 ≤ n ∧ n ≤ 2147483647)) : bytesOf (vput n) = [] := by
  unfold vput; rw [if_neg h]; rfl

theorem specIn (a b c : Int) : spec_l1In.f a b c = some (decide (b ≤ a ∧ a ≤ c)) := by
  unfold spec_l1In.f
  by_cases h : a ≥ b
  · rw [if_pos h]; congr 1; exact decide_eq_decide.2 ⟨fun k => ⟨h, k⟩, fun k => k.2⟩
  · rw [if_neg h]; congr 1; exact (decide_eq_false (fun k => h k.1)).symm

theorem implIn (a b c : Int) : impl_in.f a b c = some (decide (b ≤ a ∧ a ≤ c)) := by
  unfold impl_in.f
  by_cases h : a ≥ b
  · rw [if_pos h]; congr 1; exact decide_eq_decide.2 ⟨fun k => ⟨h, k⟩, fun k => k.2⟩
  · rw [if_neg h]; congr 1; exact (decide_eq_false (fun k => h k.1)).symm

theorem implVarPut_loop (n : Nat) : ∀ xs : List Int, n ≤ 2147483647 → xs.length + n < 140737488355328 → Ev (fun k => impl_VarPut.l0 k (n : Int) xs) (strOfNums (xs ++ vb n)) := by
  induction n using Nat.strongRecOn with
  | ind n ih =>
    intro xs hn hx
    by_cases h : n < 128
    · refine Ev.step (f := fun _ => some (strOfNums (xs ++ vb n))) (fun k => ?_) (Ev.now _)
      rw [vb_lt h]; simp only [impl_VarPut.l0]; rw [if_neg (by omega), if_pos (by omega), Int.emod_eq_of_lt (by omega) (by omega)]
    · refine Ev.step (f := fun k => impl_VarPut.l0 k ((n / 128 : Nat) : Int) (xs ++ [((n % 128 + 128 : Nat) : Int)])) (fun k => ?_) ?_
      · simp only [impl_VarPut.l0]; rw [if_pos (by omega), if_pos (by omega), step_div hn, step_mod2 hn]
      · have := ih (n / 128) (by omega) (xs ++ [((n % 128 + 128 : Nat) : Int)]) (by omega) (by simp only [List.length_append, List.length_singleton]; omega)
        rw [vb_ge h]; rw [List.append_assoc] at this; exact this
theorem implVarPut_ev (n : Int) : Ev (fun k => impl_VarPut.f k n) (vput n) := by
  unfold impl_VarPut.f
  refine Ev.b (implIn _ _ _) ?_
  by_cases h : 0 ≤ n ∧ n ≤ 2147483647
  · rw [vput_in h]
    refine Ev.ifp (decide_eq_true h) ?_
    obtain ⟨m, rfl⟩ := Int.eq_ofNat_of_zero_le h.1
    have := implVarPut_loop m [] (by omega) (by simp only [List.length_nil]; omega)
    rw [Int.toNat_natCast]; exact this
  · rw [vput_out h]
    exact Ev.ifn (by simpa using h) (Ev.now _)

/-! ### VarGet -/
theorem shl64 {x : Int} {y : Int} {j : Nat} (hy : y = (j : Int)) (hj : j ≤ 62) (h0 : 0 ≤ x) (h1 : x * 2 ^ j ≤ 9223372036854775807) : shl .i64 x y = x * 2 ^ j := by
  subst hy
  unfold shl
  rw [Int.toNat_natCast, Nat.min_eq_left (by show j ≤ 64; omega)]
  have h2 : (0 : Int) ≤ 2 ^ j := Int.le_of_lt (Int.pow_pos (by omega))
  have : 0 ≤ x * 2 ^ j := Int.mul_nonneg h0 h2
  exact (i64_w _).trans (w64 (by omega) h1)
theorem pow7 : ∀ i : Nat, (2 : Int) ^ (7 * i) = 128 ^ i
  | 0 => rfl
  | i + 1 => by rw [show 7 * (i + 1) = 7 * i + 7 by omega, Int.pow_add, pow7 i, Int.pow_succ]; rfl
theorem pow128 : ∀ i : Nat, i ≤ 4 → (128 : Int) ^ i ≤ 268435456 ∧ 1 ≤ (128 : Int) ^ i := by
  intro i hi
  have : i = 0 ∨ i = 1 ∨ i = 2 ∨ i = 3 ∨ i = 4 := by omega
  rcases this with rfl | rfl | rfl | rfl | rfl <;> decide
/-- One byte more. -/
theorem more_byte {n b : Int} {i : Nat} (hi : i ≤ 4) (hn0 : 0 ≤ n) (hn : n < 128 ^ i) (hb : 0 ≤ b) (hb2 : b ≤ 255) : 0 ≤ b % 128 * 128 ^ i ∧ b % 128 * 128 ^ i ≤ 34359738368 ∧ 0 ≤ n + b % 128 * 128 ^ i ∧ n + b % 128 * 128 ^ i < 128 ^ (i + 1) ∧ n + b % 128 * 128 ^ i ≤ 34628173824 := by
  obtain ⟨p1, p0⟩ := pow128 i hi
  rw [Int.pow_succ]
  generalize (128 : Int) ^ i = p at *
  have h0 : 0 ≤ b % 128 := by omega
  have h1 : b % 128 ≤ 127 := by omega
  have a : 0 ≤ b % 128 * p := Int.mul_nonneg h0 (by omega)
  have c : b % 128 * p ≤ 127 * p := Int.mul_le_mul_of_nonneg_right h1 (by omega)
  omega
theorem impl_more {n b : Int} {i : Nat} (hi : i ≤ 4) (hn0 : 0 ≤ n) (hn : n < 128 ^ i) (hb : 0 ≤ b) (hb2 : b ≤ 255) :
    wrap64 (n + shl .i64 (wrap64 (Int.tmod b 128)) (wrap64 (7 * (i : Int)))) = n + b % 128 * 128 ^ i := by
  obtain ⟨h0, h1, h2, h3, h4⟩ := more_byte hi hn0 hn hb hb2
  have e : wrap64 (7 * (i : Int)) = ((7 * i : Nat) : Int) := by rw [w64 (by omega) (by omega)]; omega
  rw [e, Int.tmod_eq_emod_of_nonneg hb, w64 (i := b % 128) (by omega) (by omega), shl64 rfl (by omega) (by omega) (by rw [pow7]; omega), pow7, w64 (by omega) (by omega)]
theorem spec_more {n b : Int} {i : Nat} (hi : i ≤ 4) (hn0 : 0 ≤ n) (hn : n < 128 ^ i) (hb : 0 ≤ b) (hb2 : b ≤ 255) :
    wrap64 (n + wrap64 (Int.tmod (wrap64 b) 128 * 128 ^ i)) = n + b % 128 * 128 ^ i := by
  obtain ⟨h0, h1, h2, h3, h4⟩ := more_byte hi hn0 hn hb hb2
  rw [w64 (i := b) (by omega) (by omega), Int.tmod_eq_emod_of_nonneg hb, w64 (i := b % 128 * 128 ^ i) (by omega) (by omega), w64 (by omega) (by omega)]
/-- What was read so far: it is just what is written, if and only if the bytes are the least that can be. -/
theorem put_is_cut (s : ByteArray) (i : Nat) (h : i < s.size) (hp : ∀ x ∈ (bytesOf s).take i, 128 ≤ x) (hb : bt s (i : Int) < 128) :
    (vput (bval ((bytesOf s).take (i + 1)))).toList = (s.extract 0 (i + 1)).toList ↔ ¬ ((i > 0 ∧ bt s (i : Int) = 0) ∨ bval ((bytesOf s).take (i + 1)) > 2147483647) := by
  have hr := bt_range s (i : Int)
  have hne : (bytesOf s).take (i + 1) ≠ [] := by rw [bt_take s i h]; simp
  have hnn := bval_nn ((bytesOf s).take (i + 1))
  rw [toList_iff, bytes_extract, List.drop_zero]
  constructor
  · rintro he (⟨hi, hz⟩ | hg)
    · by_cases hin : 0 ≤ bval ((bytesOf s).take (i + 1)) ∧ bval ((bytesOf s).take (i + 1)) ≤ 2147483647
      · rw [vput_bytes hin.1 hin.2, bt_take s i h] at he
        have := (vb_last _ _ _ he).2.2 hz
        have hl := congrArg List.length this.2
        rw [List.length_take, bytes_len] at hl
        simp only [List.length_nil] at hl
        omega
      · rw [vput_none hin] at he
        exact hne he.symm
    · rw [vput_none (by omega)] at he
      exact hne he.symm
  · intro hg
    rw [vput_bytes hnn (by omega), bt_take s i h]
    rcases Nat.eq_zero_or_pos i with rfl | hi
    · simp only [List.take_zero, List.nil_append]
      exact vb_bval_one (by omega) hb
    · refine (vb_of_bval _ _ (fun x hx => ⟨hp x hx, (bytes_nn s x (List.mem_of_mem_take hx)).2⟩) ?_ hb).1
      have : ¬ bt s (i : Int) = 0 := fun hz => hg (.inl ⟨hi, hz⟩)
      have h0 : 0 ≤ bt s ((i : Nat) : Int) := hr.1
      omega

theorem specGet_loop (s : ByteArray) (hs : s.size ≤ 140737488351232) (d : Nat) : ∀ (i : Nat) (n : Int), i + d = 5 → i ≤ s.size → 0 ≤ n → n < 128 ^ i →
    Ev (fun k => spec_l1Get.l0 k s n (128 ^ i) (i : Int)) (vgo ((bytesOf s).drop i) i n) := by
  induction d with
  | zero =>
    intro i n hi his hn0 hn
    rw [vgo_five _ _ _ (by omega)]
    have h5 : decide ((i : Int) < 5) = false := decide_eq_false (by omega)
    by_cases hlt : (i : Int) < (s.size : Int)
    · refine Ev.step (f := fun k => spec_l1Get.j1 k s n (128 ^ i) (i : Int) (decide ((i : Int) < 5))) (fun k => by simp only [spec_l1Get.l0]; rw [if_pos hlt]) ?_
      refine Ev.step (f := fun _ => some (0, 0)) (fun k => ?_) (Ev.now _)
      rw [h5]; simp only [spec_l1Get.j1]; rw [if_neg (by simp)]
    · refine Ev.step (f := fun k => spec_l1Get.j1 k s n (128 ^ i) (i : Int) false) (fun k => by simp only [spec_l1Get.l0]; rw [if_neg hlt]) ?_
      refine Ev.step (f := fun _ => some (0, 0)) (fun k => ?_) (Ev.now _)
      simp only [spec_l1Get.j1]; rw [if_neg (by simp)]
  | succ d ih =>
    intro i n hi his hn0 hn
    have h5 : decide ((i : Int) < 5) = true := decide_eq_true (by omega)
    have hi1 : ((i + 1 : Nat) : Int) = (i : Int) + 1 := by omega
    by_cases hlt : (i : Int) < (s.size : Int)
    · have hbt := bt_range s (i : Int)
      have hm := more_byte (i := i) (by omega) hn0 hn hbt.1 hbt.2
      have hsm := spec_more (i := i) (by omega) hn0 hn hbt.1 hbt.2
      refine Ev.step (f := fun k => spec_l1Get.j1 k s n (128 ^ i) (i : Int) true) (fun k => by simp only [spec_l1Get.l0]; rw [if_pos hlt, h5]) ?_
      rw [bt_drop s i (by omega)]
      unfold vgo
      rw [if_neg (by omega)]
      by_cases hb : bt s (i : Int) < 128
      · rw [if_pos hb]
        by_cases hz : (i > 0 ∧ bt s (i : Int) = 0) ∨ n + bt s (i : Int) % 128 * 128 ^ i > 2147483647
        · rw [if_pos hz]
          refine Ev.step (f := fun _ => some (0, 0)) (fun k => ?_) (Ev.now _)
          simp only [spec_l1Get.j1]
          rw [if_pos trivial, if_pos (by omega), if_pos hlt, if_pos hb, hsm]
          by_cases hi0 : (i : Int) > 0
          · rw [if_pos hi0]
            by_cases hb0 : bt s (i : Int) = 0
            · rw [if_pos hb0]
            · rw [if_neg hb0, if_pos (by omega)]
          · rw [if_neg hi0, if_pos (by omega)]
        · rw [if_neg hz]
          refine Ev.step (f := fun _ => some (n + bt s (i : Int) % 128 * 128 ^ i, (i : Int) + 1)) (fun k => ?_) (Ev.now _)
          simp only [spec_l1Get.j1]
          rw [if_pos trivial, if_pos (by omega), if_pos hlt, if_pos hb, hsm, w64 (i := (i : Int) + 1) (by omega) (by omega)]
          by_cases hi0 : (i : Int) > 0
          · rw [if_pos hi0, if_neg (by omega), if_neg (by omega)]
          · rw [if_neg hi0, if_neg (by omega)]
      · rw [if_neg hb]
        have hp := pow128 i (by omega)
        refine Ev.step (f := fun k => spec_l1Get.l0 k s (n + bt s (i : Int) % 128 * 128 ^ i) (128 ^ (i + 1)) ((i + 1 : Nat) : Int)) (fun k => ?_) (ih (i + 1) _ (by omega) (by omega) hm.2.2.1 hm.2.2.2.1)
        simp only [spec_l1Get.j1]
        rw [if_pos trivial, if_pos (by omega), if_pos hlt, if_neg hb, hsm, w64 (i := (i : Int) + 1) (by omega) (by omega), w64 (i := (128 : Int) ^ i * 128) (by omega) (by omega), Int.pow_succ, hi1]
    · refine Ev.step (f := fun k => spec_l1Get.j1 k s n (128 ^ i) (i : Int) false) (fun k => by simp only [spec_l1Get.l0]; rw [if_neg hlt]) ?_
      rw [List.drop_eq_nil_of_le (by rw [bytes_len]; omega), vgo_nil]
      refine Ev.step (f := fun _ => some (0, 0)) (fun k => ?_) (Ev.now _)
      simp only [spec_l1Get.j1]; rw [if_neg (by simp)]
theorem vget_ev (s : ByteArray) (hs : s.size ≤ 140737488351232) : Ev (fun k => spec_l1Get.f k s) (vgo (bytesOf s) 0 0) := by
  have h := specGet_loop s hs 5 0 0 (by omega) (by omega) (by omega) (by simp)
  rw [List.drop_zero, Int.natCast_zero, Int.pow_zero] at h
  unfold spec_l1Get.f
  exact h

theorem implGet_loop (s : ByteArray) (hs : s.size ≤ 140737488351232) (d : Nat) : ∀ (i : Nat) (n : Int), i + d = 5 → i ≤ s.size → n = bval ((bytesOf s).take i) → (∀ x ∈ (bytesOf s).take i, 128 ≤ x) →
    Ev (fun k => impl_VarGet.l0 k s n (i : Int)) (vgo ((bytesOf s).drop i) i n) := by
  induction d with
  | zero =>
    intro i n hi his hn hall
    rw [vgo_five _ _ _ (by omega)]
    have h5 : decide ((i : Int) < 5) = false := decide_eq_false (by omega)
    by_cases hlt : (i : Int) < (s.size : Int)
    · refine Ev.step (f := fun k => impl_VarGet.j1 k s n (i : Int) (decide ((i : Int) < 5))) (fun k => by simp only [impl_VarGet.l0]; rw [if_pos hlt]) ?_
      refine Ev.step (f := fun _ => some (0, 0)) (fun k => ?_) (Ev.now _)
      rw [h5]; simp only [impl_VarGet.j1]; rw [if_neg (by simp)]
    · refine Ev.step (f := fun k => impl_VarGet.j1 k s n (i : Int) false) (fun k => by simp only [impl_VarGet.l0]; rw [if_neg hlt]) ?_
      refine Ev.step (f := fun _ => some (0, 0)) (fun k => ?_) (Ev.now _)
      simp only [impl_VarGet.j1]; rw [if_neg (by simp)]
  | succ d ih =>
    intro i n hi his hn hall
    have hn0 : 0 ≤ n := by rw [hn]; exact bval_nn _
    have hnl : n < 128 ^ i := by
      have := bval_lt ((bytesOf s).take i)
      rw [List.length_take, bytes_len, Nat.min_eq_left his] at this
      rw [hn]; exact this
    have h5 : decide ((i : Int) < 5) = true := decide_eq_true (by omega)
    have hi1 : ((i + 1 : Nat) : Int) = (i : Int) + 1 := by omega
    by_cases hlt : (i : Int) < (s.size : Int)
    · have hbt := bt_range s (i : Int)
      have hw : wrap64 ((i : Int) + 1) = (i : Int) + 1 := w64 (by omega) (by omega)
      have h7 : wrap64 (7 * (i : Int)) = 7 * (i : Int) := w64 (by omega) (by omega)
      have hq : ((i : Int) + 1).toNat = i + 1 := by omega
      have h0i : (0 : Int) ≤ (i : Int) := by omega
      have h70 : (0 : Int) ≤ 7 * (i : Int) := by omega
      have e0 : (0 : Int) ≤ (i : Int) + 1 := by omega
      have e1 : (i : Int) + 1 ≤ (s.size : Int) := by omega
      have hi5 : ¬ i ≥ 5 := by omega
      have hi4 : i ≤ 4 := by omega
      have his1 : i < s.size := by omega
      have his2 : i + 1 ≤ s.size := by omega
      have hid : i + 1 + d = 5 := by omega
      refine Ev.step (f := fun k => impl_VarGet.j1 k s n (i : Int) true) (fun k => by simp only [impl_VarGet.l0]; rw [if_pos hlt, h5]) ?_
      rw [bt_drop s i his1]
      unfold vgo
      rw [if_neg hi5]
      have him := impl_more hi4 hn0 hnl hbt.1 hbt.2
      have hv : n + bt s (i : Int) % 128 * 128 ^ i = bval ((bytesOf s).take (i + 1)) := by
        rw [bt_take s i his1, bval_snoc, List.length_take, bytes_len, Nat.min_eq_left his, hn]
      rw [h7] at him
      by_cases hb : bt s (i : Int) < 128
      · rw [if_pos hb]
        have hc := put_is_cut s i his1 hall hb
        rw [← hv] at hc
        refine Ev.step (f := fun k => (impl_VarPut.f k (n + bt s (i : Int) % 128 * 128 ^ i)).bind fun t => if t.toList = (s.extract 0 (i + 1)).toList then some (n + bt s (i : Int) % 128 * 128 ^ i, (i : Int) + 1) else some (0, 0)) (fun k => ?_) ?_
        · simp only [impl_VarGet.j1]
          rw [if_pos trivial, if_pos h0i, if_pos hlt, h7, if_pos h70, if_pos hb, him, hw, hq]
          refine congrArg _ (funext fun t => ?_)
          rw [if_pos e0, if_pos e1]
        · refine Ev.bind (implVarPut_ev _) ?_
          by_cases hz : (i > 0 ∧ bt s (i : Int) = 0) ∨ n + bt s (i : Int) % 128 * 128 ^ i > 2147483647
          · rw [if_pos hz]
            exact Ev.ifn (fun h => (hc.1 h) hz) (Ev.now _)
          · rw [if_neg hz]
            exact Ev.ifp (hc.2 hz) (Ev.now _)
      · rw [if_neg hb]
        refine Ev.step (f := fun k => impl_VarGet.l0 k s (n + bt s (i : Int) % 128 * 128 ^ i) ((i + 1 : Nat) : Int)) (fun k => ?_) (ih (i + 1) _ hid his2 hv ?_)
        · simp only [impl_VarGet.j1]
          rw [if_pos trivial, if_pos h0i, if_pos hlt, h7, if_pos h70, if_neg hb, him, hw, hi1]
        · rw [bt_take s i his1]
          intro x hx
          rcases List.mem_append.1 hx with hx | hx
          · exact hall x hx
          · simp only [List.mem_singleton] at hx
            clear him hv h7 hw
            omega
    · refine Ev.step (f := fun k => impl_VarGet.j1 k s n (i : Int) false) (fun k => by simp only [impl_VarGet.l0]; rw [if_neg hlt]) ?_
      rw [List.drop_eq_nil_of_le (by rw [bytes_len]; omega), vgo_nil]
      refine Ev.step (f := fun _ => some (0, 0)) (fun k => ?_) (Ev.now _)
      simp only [impl_VarGet.j1]; rw [if_neg (by simp)]
theorem implVarGet_ev (s : ByteArray) (hs : s.size ≤ 140737488351232) : Ev (fun k => impl_VarGet.f k s) (vgo (bytesOf s) 0 0) := by
  have h := implGet_loop s hs 5 0 0 (by omega) (by omega) (by simp [bval]) (by simp)
  rw [List.drop_zero, Int.natCast_zero] at h
  unfold impl_VarGet.f
  exact h

theorem eqInts_loop (a b : List Int) (hl : a.length = b.length) (hm : a.length ≤ 1000000000000) : ∀ (d i : Nat), i + d = a.length → Ev (fun k => laws_eqIntS.l0 k a b (i : Int)) (decide (a.drop i = b.drop i))
  | 0, i, h => by
    refine Ev.step (f := fun _ => some true) (fun k => ?_) (Ev.at_ (Ev.now _) ?_)
    · simp only [laws_eqIntS.l0]; rw [if_neg (by omega)]
    · rw [List.drop_eq_nil_of_le (by omega), List.drop_eq_nil_of_le (by omega)]; exact (decide_eq_true rfl).symm
  | d + 1, i, h => by
    have ha : i < a.length := by omega
    have hb : i < b.length := by omega
    have ra : rd a (i : Int) = a[i] := by unfold rd; rw [Int.toNat_natCast, List.getD_eq_getElem?_getD, List.getElem?_eq_getElem ha, Option.getD_some]
    have rb : rd b (i : Int) = b[i] := by unfold rd; rw [Int.toNat_natCast, List.getD_eq_getElem?_getD, List.getElem?_eq_getElem hb, Option.getD_some]
    rw [List.drop_eq_getElem_cons ha, List.drop_eq_getElem_cons hb]
    by_cases e : a[i] = b[i]
    · refine Ev.step (f := fun k => laws_eqIntS.l0 k a b ((i + 1 : Nat) : Int)) (fun k => ?_) (Ev.at_ (eqInts_loop a b hl hm d (i + 1) (by omega)) (decide_eq_decide.2 ⟨fun h => by rw [e, h], fun h => (List.cons.inj h).2⟩))
      simp only [laws_eqIntS.l0]
      rw [if_pos (by omega), if_pos (by omega), if_pos (by omega), ra, rb, if_pos e, w64 (by omega) (by omega)]
      rfl
    · refine Ev.step (f := fun _ => some false) (fun k => ?_) (Ev.at_ (Ev.now _) (decide_eq_false fun h => e (List.cons.inj h).1).symm)
      simp only [laws_eqIntS.l0]
      rw [if_pos (by omega), if_pos (by omega), if_pos (by omega), ra, rb, if_neg e]
theorem eqInts_ev (a b : List Int) (hm : a.length ≤ 1000000000000) : Ev (fun k => laws_eqIntS.f k a b) (decide (a = b)) := by
  unfold laws_eqIntS.f
  by_cases hl : a.length = b.length
  · exact Ev.ifp (by omega) (eqInts_loop a b hl hm a.length 0 (by omega))
  · exact Ev.ifn (by omega) (Ev.at_ (Ev.now _) (decide_eq_false fun h => hl (by rw [h])).symm)
theorem eqInts_same (a : List Int) (hm : a.length ≤ 1000000000000) : Ev (fun k => laws_eqIntS.f k a a) true := Ev.at_ (eqInts_ev a a hm) (decide_eq_true rfl)

def up (n : Nat) : List Int := (List.range n).map fun j : Nat => ((j : Nat) : Int) + 1
theorem up_len (n : Nat) : (up n).length = n := by simp [up]
theorem up_snoc (n : Nat) : up (n + 1) = up n ++ [(n : Int) + 1] := by simp [up, List.range_succ]
theorem up_rd (n i : Nat) (h : i < n) : rd (up n) (i : Int) = (i : Int) + 1 := by
  unfold rd up
  rw [Int.toNat_natCast, List.getD_eq_getElem?_getD, List.getElem?_map, List.getElem?_range h]
  rfl
theorem mark_loop (l : List Int) (hm : l.length ≤ 1000000000000) : ∀ (d i : Nat), i + d = l.length → Ev (fun k => laws_markIntS.l0 k (up i ++ l.drop i) ((i : Int) + 1) (i : Int)) ((l.length : Int) + 1, up l.length)
  | 0, i, h => by
    obtain rfl : i = l.length := by omega
    refine Ev.step (f := fun _ => some ((l.length : Int) + 1, up l.length)) (fun k => ?_) (Ev.now _)
    simp only [laws_markIntS.l0]
    rw [List.drop_length, List.append_nil, if_neg (by rw [up_len]; omega)]
  | d + 1, i, h => by
    have hi : i < l.length := by omega
    refine Ev.step (f := fun k => laws_markIntS.l0 k (up (i + 1) ++ l.drop (i + 1)) (((i + 1 : Nat) : Int) + 1) ((i + 1 : Nat) : Int)) (fun k => ?_) (mark_loop l hm d (i + 1) (by omega))
    simp only [laws_markIntS.l0]
    rw [if_pos (by rw [List.length_append, up_len, List.length_drop]; omega), if_pos (by omega), Int.toNat_natCast, List.set_append_right _ _ (by rw [up_len]; omega), up_len, Nat.sub_self, List.drop_eq_getElem_cons hi, List.set_cons_zero, up_snoc, List.append_assoc, w64 (by omega) (by omega), w64 (by omega) (by omega)]
    rfl
theorem held_loop (n : Nat) (hm : n ≤ 1000000000000) : ∀ (d i : Nat), i + d = n → Ev (fun k => laws_heldIntS.l0 k (up n) ((i : Int) + 1) (i : Int)) ((n : Int) + 1)
  | 0, i, h => by
    obtain rfl : i = n := by omega
    refine Ev.step (f := fun _ => some ((i : Int) + 1)) (fun k => ?_) (Ev.now _)
    simp only [laws_heldIntS.l0]
    rw [if_neg (by rw [up_len]; omega)]
  | d + 1, i, h => by
    refine Ev.step (f := fun k => laws_heldIntS.l0 k (up n) (((i + 1 : Nat) : Int) + 1) ((i + 1 : Nat) : Int)) (fun k => ?_) (held_loop n hm d (i + 1) (by omega))
    simp only [laws_heldIntS.l0]
    rw [if_pos (by rw [up_len]; omega), if_pos (by omega), up_rd n i (by omega), if_pos rfl, w64 (by omega) (by omega), w64 (by omega) (by omega)]
    rfl
theorem mark_ev (l : List Int) (hm : l.length ≤ 1000000000000) : Ev (fun k => laws_markIntS.f k l 1) ((l.length : Int) + 1, up l.length) := mark_loop l hm l.length 0 (by omega)
theorem held_ev (n : Nat) (hm : n ≤ 1000000000000) : Ev (fun k => laws_heldIntS.f k (up n) 1) ((n : Int) + 1) := held_loop n hm n 0 (by omega)

open Go.Proofs.Ytipmgmiooanghaa.Rice in
theorem specBit_in (s : ByteArray) (p : Int) (h0 : 0 ≤ p) (h1 : p < 8 * (s.size : Int)) (hs : s.size ≤ 600) : spec_l2Bit.f s p = some (bitAt s p) := by
  unfold spec_l2Bit.f
  have e : Int.tdiv p 8 = p / 8 := Int.tdiv_eq_ediv_of_nonneg h0
  have e2 : Int.tmod p 8 = p % 8 := Int.tmod_eq_emod_of_nonneg h0
  rw [e, e2, w64 (by omega) (by omega), w64 (show -9223372036854775808 ≤ 7 - p % 8 by omega) (by omega)]
  obtain ⟨hb0, hb1⟩ := bt_range s (p / 8)
  rw [w64 (show -9223372036854775808 ≤ bt s (p / 8) by omega) (by omega), if_neg (by omega), if_pos (by omega), if_pos (by omega), if_pos (by omega), bitAt_of s p h1]
  congr 1
  have hsh : shr .i64 (bt s (p / 8)) (7 - p % 8) = bt s (p / 8) / 2 ^ (7 - p % 8).toNat := by
    unfold shr
    rw [Nat.min_eq_left (by have : IntKind.i64.bits = 64 := rfl; omega)]
  rw [hsh]
  exact Int.tmod_eq_emod_of_nonneg (Int.ediv_nonneg hb0 (Int.pow_nonneg (by omega)))
open Go.Proofs.Ytipmgmiooanghaa.Rice in
theorem specBit_out (s : ByteArray) (p : Int) (h1 : 8 * (s.size : Int) ≤ p) (h2 : p ≤ 1000000) : spec_l2Bit.f s p = some (-1) := by
  unfold spec_l2Bit.f
  have e : Int.tdiv p 8 = p / 8 := Int.tdiv_eq_ediv_of_nonneg (by omega)
  rw [e, w64 (by omega) (by omega), if_pos (by omega)]
open Go.Proofs.Ytipmgmiooanghaa.Rice in
theorem specRest_in (s : ByteArray) (hs : s.size ≤ 600) (m b : Int) (hb0 : 0 ≤ b) (hb8 : b ≤ 8) (xs : List Int) (hx : xs.length ≤ 40) (r : List Int × Int) :
    ∀ (c : Nat) (n p : Int), (c : Int) ≤ b → 0 ≤ p → p + c ≤ 8 * (s.size : Int) → 0 ≤ n → n + 1 ≤ 5000 * 2 ^ (b.toNat - c) →
      Ev (fun k => if restV (bitAt s) c p n > 60000 then some (([] : List Int), (-1 : Int)) else spec_l2Read.l0 k s m b (xs ++ [restV (bitAt s) c p n]) (p + c)) r → Ev (fun k => spec_l2Read.l2 k s m b xs p n (b - c)) r
  | 0, n, p, hc, hp0, hp1, hn0, hn1, h => by
    refine Ev.step (f := fun k => if restV (bitAt s) 0 p n > 60000 then some (([] : List Int), (-1 : Int)) else spec_l2Read.l0 k s m b (xs ++ [restV (bitAt s) 0 p n]) (p + ((0 : Nat) : Int))) (fun k => ?_) h
    simp only [spec_l2Read.l2, restV]
    rw [if_neg (by omega), w64 (by omega) (by omega), if_neg (by omega), show p + ((0 : Nat) : Int) = p by omega]
    by_cases h6 : n > 60000
    · rw [if_pos h6]; exact (if_pos h6).symm
    · rw [if_neg h6, if_pos (by omega)]; exact (if_neg h6).symm
  | c + 1, n, p, hc, hp0, hp1, hn0, hn1, h => by
    obtain ⟨h0, h1⟩ := bitAt_range s p
    have hpw : (2 : Int) ^ (b.toNat - c) = 2 * 2 ^ (b.toNat - (c + 1)) := by
      rw [show b.toNat - c = b.toNat - (c + 1) + 1 by omega, Int.pow_succ]; omega
    have hn := (pow8 (show b.toNat - (c + 1) ≤ 8 by omega)).2
    refine Ev.step (f := fun k => spec_l2Read.l2 k s m b xs (p + 1) (2 * n + bitAt s p) (b - c)) (fun k => ?_) (specRest_in s hs m b hb0 hb8 xs hx r c (2 * n + bitAt s p) (p + 1) (by omega) (by omega) (by omega) (by omega) (by omega) ?_)
    · simp only [spec_l2Read.l2]
      rw [if_pos (by omega), specBit_in s p hp0 (by omega) hs, Option.bind_some, w64 (show -9223372036854775808 ≤ p + 1 by omega) (by omega), w64 (show -9223372036854775808 ≤ n * 2 by omega) (by omega), w64 (show -9223372036854775808 ≤ n * 2 + bitAt s p by omega) (by omega), w64 (show -9223372036854775808 ≤ b - ((c + 1 : Nat) : Int) + 1 by omega) (by omega), show b - ((c + 1 : Nat) : Int) + 1 = b - c by omega, Int.mul_comm n 2]
    · rw [show p + 1 + (c : Int) = p + ((c + 1 : Nat) : Int) by omega]
      exact h
open Go.Proofs.Ytipmgmiooanghaa.Rice in
theorem specBit_any (s : ByteArray) (hs : s.size ≤ 600) (p : Int) (h0 : 0 ≤ p) (h2 : p ≤ 1000000) : ∃ t, spec_l2Bit.f s p = some t ∧ -1 ≤ t ∧ t ≤ 1 := by
  by_cases h : p < 8 * (s.size : Int)
  · exact ⟨_, specBit_in s p h0 h hs, by have := (bitAt_range s p).1; omega, (bitAt_range s p).2⟩
  · exact ⟨_, specBit_out s p (by omega) h2, by omega, by omega⟩
open Go.Proofs.Ytipmgmiooanghaa.Rice in
theorem specRest_out (s : ByteArray) (hs : s.size ≤ 600) (m b : Int) (hb0 : 0 ≤ b) (hb8 : b ≤ 8) (xs : List Int) :
    ∀ (c : Nat) (n p : Int), (c : Int) ≤ b → 0 ≤ p → p + c ≤ 100000 → 8 * (s.size : Int) < p + c → -(5000 * 2 ^ (b.toNat - c)) < n → n < 5000 * 2 ^ (b.toNat - c) →
      Ev (fun k => spec_l2Read.l2 k s m b xs p n (b - c)) ([], -1)
  | 0, n, p, hc, hp0, hp1, hp2, hn0, hn1 => by
    refine Ev.step (f := fun _ => some ([], -1)) (fun k => ?_) (Ev.now _)
    simp only [spec_l2Read.l2]
    rw [if_neg (by omega), w64 (by omega) (by omega), if_pos (by omega)]
  | c + 1, n, p, hc, hp0, hp1, hp2, hn0, hn1 => by
    obtain ⟨t, ht, ht0, ht1⟩ := specBit_any s hs p hp0 (by omega)
    have hpw : (2 : Int) ^ (b.toNat - c) = 2 * 2 ^ (b.toNat - (c + 1)) := by
      rw [show b.toNat - c = b.toNat - (c + 1) + 1 by omega, Int.pow_succ]; omega
    have hn := (pow8 (show b.toNat - (c + 1) ≤ 8 by omega)).2
    refine Ev.step (f := fun k => spec_l2Read.l2 k s m b xs (p + 1) (n * 2 + t) (b - c)) (fun k => ?_) (specRest_out s hs m b hb0 hb8 xs c (n * 2 + t) (p + 1) (by omega) (by omega) (by omega) (by omega) (by omega) (by omega))
    simp only [spec_l2Read.l2]
    rw [if_pos (by omega), ht, Option.bind_some, w64 (show -9223372036854775808 ≤ p + 1 by omega) (by omega), w64 (show -9223372036854775808 ≤ n * 2 by omega) (by omega), w64 (show -9223372036854775808 ≤ n * 2 + t by omega) (by omega), w64 (show -9223372036854775808 ≤ b - ((c + 1 : Nat) : Int) + 1 by omega) (by omega), show b - ((c + 1 : Nat) : Int) + 1 = b - c by omega]
open Go.Proofs.Ytipmgmiooanghaa.Rice in
theorem specOnes (s : ByteArray) (hs : s.size ≤ 600) (m b : Int) (xs : List Int) (r : List Int × Int) :
    ∀ (q : Nat) (n p : Int), ones s p = q → 0 ≤ p → p ≤ 100000 → 0 ≤ n → n + q ≤ 4800 → Ev (fun k => spec_l2Read.l2 k s m b xs (p + q + 1) (n + q) 0) r → Ev (fun k => spec_l2Read.l1 k s m b xs p n) r
  | 0, n, p, hq, hp0, hp1, hn0, hn1, h => by
    have h1 : ¬ bitAt s p = 1 := fun h => by rw [ones_one h] at hq; omega
    refine Ev.step (f := fun k => spec_l2Read.l2 k s m b xs (p + 1) n 0) (fun k => ?_) (by simpa using h)
    simp only [spec_l2Read.l1]
    by_cases hp : p < 8 * (s.size : Int)
    · rw [specBit_in s p hp0 hp hs, Option.bind_some, if_neg h1, w64 (by omega) (by omega)]
    · rw [specBit_out s p (by omega) (by omega), Option.bind_some, if_neg (by omega), w64 (by omega) (by omega)]
  | q + 1, n, p, hq, hp0, hp1, hn0, hn1, h => by
    have h1 : bitAt s p = 1 := Classical.byContradiction fun h => by rw [ones_not h] at hq; omega
    have hp : p < 8 * (s.size : Int) := by
      rcases Int.lt_or_le p (8 * (s.size : Int)) with hp | hp
      · exact hp
      · rw [bitAt_out s p hp] at h1; omega
    rw [ones_one h1] at hq
    refine Ev.step (f := fun k => spec_l2Read.l1 k s m b xs (p + 1) (n + 1)) (fun k => ?_) (specOnes s hs m b xs r q (n + 1) (p + 1) (by omega) (by omega) (by omega) (by omega) (by omega) ?_)
    · simp only [spec_l2Read.l1]
      rw [specBit_in s p hp0 hp hs, Option.bind_some, if_pos h1, w64 (by omega) (by omega), w64 (by omega) (by omega)]
    · rw [show p + 1 + (q : Int) + 1 = p + ((q + 1 : Nat) : Int) + 1 by omega, show n + 1 + (q : Int) = n + ((q + 1 : Nat) : Int) by omega]
      exact h
/-- What l2Read answers. -/
def readR (s : ByteArray) (b : Int) (d : Nat) (p : Int) (xs : List Int) : List Int × Int :=
  if (∀ x ∈ Go.Proofs.Ytipmgmiooanghaa.Rice.nums1 s b d p, x ≤ 60000) ∧ Go.Proofs.Ytipmgmiooanghaa.Rice.endN s b d p ≤ 8 * (s.size : Int) then (xs ++ Go.Proofs.Ytipmgmiooanghaa.Rice.nums1 s b d p, Go.Proofs.Ytipmgmiooanghaa.Rice.endN s b d p) else ([], -1)
open Go.Proofs.Ytipmgmiooanghaa.Rice in
theorem specRead_loop (s : ByteArray) (hs : s.size ≤ 600) (b : Int) (hb0 : 0 ≤ b) (hb8 : b ≤ 8) : ∀ (d i : Nat) (p : Int) (xs : List Int), xs.length = i → i + d ≤ 40 → 0 ≤ p → p ≤ 8 * (s.size : Int) → Ev (fun k => spec_l2Read.l0 k s ((i + d : Nat) : Int) b xs p) (readR s b d p xs)
  | 0, i, p, xs, hx, hi, hp0, hp1 => by
    refine Ev.step (f := fun _ => some (xs, p)) (fun k => ?_) (Ev.at_ (Ev.now _) ?_)
    · simp only [spec_l2Read.l0]
      rw [if_neg (by omega)]
    · unfold readR
      rw [if_pos (show (∀ x ∈ nums1 s b 0 p, x ≤ 60000) ∧ endN s b 0 p ≤ 8 * (s.size : Int) from ⟨fun x hx => by simp [nums1] at hx, hp1⟩)]
      simp [nums1, endN]
  | d + 1, i, p, xs, hx, hi, hp0, hp1 => by
    have hl := ones_end s p
    refine Ev.step (f := fun k => spec_l2Read.l1 k s ((i + (d + 1) : Nat) : Int) b xs p 0) (fun k => ?_) (specOnes s hs _ b xs _ (ones s p) 0 p rfl hp0 (by omega) (by omega) (by omega) ?_)
    · simp only [spec_l2Read.l0]
      rw [if_pos (by omega)]
    have hz : b.toNat - b.toNat = 0 := by omega
    have hbe : b - ((b.toNat : Nat) : Int) = 0 := by omega
    have hv : restV (bitAt s) b.toNat (p + (ones s p : Int) + 1) (0 + (ones s p : Int)) = numAt s b p := by rw [Int.zero_add]; rfl
    have he : p + (ones s p : Int) + 1 + ((b.toNat : Nat) : Int) = endAt s b p := by unfold endAt; omega
    have hge := endN_ge s b hb0 d (endAt s b p)
    by_cases hin : endAt s b p ≤ 8 * (s.size : Int)
    · have hr := specRest_in s hs ((i + (d + 1) : Nat) : Int) b hb0 hb8 xs (by omega) (readR s b (d + 1) p xs) b.toNat (0 + (ones s p : Int)) (p + (ones s p : Int) + 1) (by omega) (by omega) (by omega) (by omega) (by rw [hz]; omega) (by
        rw [hv, he]
        by_cases hn : numAt s b p > 60000
        · refine Ev.ifp hn (Ev.at_ (Ev.now _) ?_)
          unfold readR
          rw [if_neg (fun h => by have := h.1 (numAt s b p) (by simp [nums1]); omega)]
        · refine Ev.ifn hn (Ev.at_ (specRead_loop s hs b hb0 hb8 d (i + 1) (endAt s b p) (xs ++ [numAt s b p]) (by rw [List.length_append, List.length_singleton, hx]) (by omega) (by unfold endAt; omega) hin |> fun h => by rw [show ((i + (d + 1) : Nat) : Int) = ((i + 1 + d : Nat) : Int) by omega]; exact h) ?_)
          unfold readR
          simp only [nums1, endN, List.append_assoc, List.cons_append, List.nil_append]
          have e : (∀ x ∈ numAt s b p :: nums1 s b d (endAt s b p), x ≤ 60000) ↔ (∀ x ∈ nums1 s b d (endAt s b p), x ≤ 60000) :=
            ⟨fun h x hx => h x (List.mem_cons_of_mem _ hx), fun h x hx => (List.mem_cons.1 hx).elim (fun e => by rw [e]; omega) (h x)⟩
          simp only [e])
      rw [hbe] at hr
      exact hr
    · have hr := specRest_out s hs ((i + (d + 1) : Nat) : Int) b hb0 hb8 xs b.toNat (0 + (ones s p : Int)) (p + (ones s p : Int) + 1) (by omega) (by omega) (by omega) (by omega) (by rw [hz]; omega) (by rw [hz]; omega)
      rw [hbe] at hr
      refine Ev.at_ hr ?_
      unfold readR
      rw [if_neg (fun h => by have := h.2; rw [endN] at this; omega)]
open Go.Proofs.Ytipmgmiooanghaa.Rice in
theorem specRiceGet_ev (s : ByteArray) (many b : Int) : Ev (fun k => spec_RiceGet.f k s many b) (riceGet s many b) := by
  unfold spec_RiceGet.f
  refine Ev.b (specIn many 0 40) ?_
  by_cases hm : 0 ≤ many ∧ many ≤ 40
  · refine Ev.ifp (decide_eq_true hm) (Ev.b (specIn b 0 8) ?_)
    by_cases hb : 0 ≤ b ∧ b ≤ 8
    · refine Ev.ifp (decide_eq_true hb) ?_
      by_cases hs : s.size ≤ 600
      · refine Ev.step (f := fun k => (spec_l2Read.f k s many b).bind fun bt113 => (if bt113.2 < 0 then (some (([] : List Int), false)) else ((spec_l2Rice.f bt113.1 b).bind fun t117 => (if t117.toList = s.toList then (some (bt113.1, true)) else (some (([] : List Int), false)))))) (fun k => ?_) ?_
        · simp only [spec_RiceGet.j0]
          rw [if_neg (by rw [decide_eq_true_iff]; omega)]
        · have hr := specRead_loop s hs b hb.1 hb.2 many.toNat 0 0 [] rfl (by omega) (by omega) (by omega)
          rw [show ((0 + many.toNat : Nat) : Int) = many by omega] at hr
          refine Ev.bind (g := fun k => spec_l2Read.f k s many b) (by unfold spec_l2Read.f; exact hr) ?_
          unfold readR
          by_cases h : (∀ x ∈ nums1 s b many.toNat 0, x ≤ 60000) ∧ endN s b many.toNat 0 ≤ 8 * (s.size : Int)
          · rw [if_pos h]
            have hge := endN_ge s b hb.1 many.toNat 0
            refine Ev.ifn (by show ¬ endN s b many.toNat 0 < 0; omega) ?_
            simp only [List.nil_append]
            refine Ev.b (a := riceB b (nums1 s b many.toNat 0)) ?_ ?_
            · unfold spec_l2Rice.f
              rw [if_pos ⟨by rw [nums1_len]; omega, hb.1, hb.2, fun x hx => ⟨nums1_ge s b _ _ x hx, h.1 x hx⟩⟩]
            · by_cases e : riceB b (nums1 s b many.toNat 0) = s
              · refine Ev.at_ (Ev.ifp (by rw [e]) (Ev.now _)) ?_
                unfold riceGet
                rw [if_pos ⟨⟨hm.1, hm.2, hb.1, hb.2, hs⟩, h.1, e⟩]
              · refine Ev.at_ (Ev.ifn (fun k => e ((toList_iff' _ _).1 k)) (Ev.now _)) ?_
                unfold riceGet
                rw [if_neg (fun k => e k.2.2)]
          · rw [if_neg h]
            refine Ev.ifp (by show (-1 : Int) < 0; omega) (Ev.at_ (Ev.now _) ?_)
            unfold riceGet
            rw [if_neg (fun k => h ⟨k.2.1, read_in hb.1 k.2.2⟩)]
      · refine Ev.step (f := fun _ => some ([], false)) (fun k => ?_) (Ev.at_ (Ev.now _) (by unfold riceGet; rw [if_neg (fun k => hs k.1.2.2.2.2)]))
        simp only [spec_RiceGet.j0]
        rw [if_pos (by rw [decide_eq_true_iff]; omega)]
    · refine Ev.ifn (by rw [decide_eq_true_iff]; exact hb) (Ev.step (f := fun _ => some ([], false)) (fun k => ?_) (Ev.at_ (Ev.now _) (by unfold riceGet; rw [if_neg (fun k => hb ⟨k.1.2.2.1, k.1.2.2.2.1⟩)])))
      simp only [spec_RiceGet.j0]
      exact if_pos trivial
  · refine Ev.ifn (by rw [decide_eq_true_iff]; exact hm) (Ev.step (f := fun _ => some ([], false)) (fun k => ?_) (Ev.at_ (Ev.now _) (by unfold riceGet; rw [if_neg (fun k => hm ⟨k.1.1, k.1.2.1⟩)])))
    simp only [spec_RiceGet.j0]
    exact if_pos trivial

theorem implRiceGet (s : ByteArray) (many b : Int) (hm : s.size ≤ 1000000000) : impl_RiceGet.f s many b = some (Go.Proofs.Ytipmgmiooanghaa.Rice.riceGet s many b) := by
  unfold impl_RiceGet.f; rw [if_pos hm]

theorem riceGet_len (s : ByteArray) (many b : Int) : (Go.Proofs.Ytipmgmiooanghaa.Rice.riceGet s many b).1.length ≤ 40 := by
  unfold Go.Proofs.Ytipmgmiooanghaa.Rice.riceGet
  split
  · rename_i h
    have := h.1.2.1
    show (Go.Proofs.Ytipmgmiooanghaa.Rice.nums1 s b many.toNat 0).length ≤ 40
    rw [Go.Proofs.Ytipmgmiooanghaa.Rice.nums1_len]
    omega
  · exact Nat.zero_le _

/-! ### where a filter's items fall, added up -/
/-- Numbers added up, one by one. -/
def psum : Int → List Int → List Int
  | _, [] => []
  | a, x :: xs => (a + x) :: psum (a + x) xs
/-- The last of them. -/
def tot : Int → List Int → Int
  | a, [] => a
  | a, x :: xs => tot (a + x) xs
theorem psum_len : ∀ (xs : List Int) (a : Int), (psum a xs).length = xs.length
  | [], _ => rfl
  | x :: xs, a => by rw [psum, List.length_cons, psum_len xs, List.length_cons]
theorem tot_ge : ∀ (xs : List Int) (a : Int), (∀ x ∈ xs, 0 ≤ x) → a ≤ tot a xs
  | [], a, _ => by rw [tot]; omega
  | x :: xs, a, h => by
    have h1 := h x List.mem_cons_self
    have h2 := tot_ge xs (a + x) fun y hy => h y (List.mem_cons_of_mem _ hy)
    rw [tot]; omega
theorem psum_get : ∀ (xs : List Int) (a : Int) (j : Nat), j < xs.length → (psum a xs).getD j 0 = tot a (xs.take (j + 1))
  | [], _, _, h => absurd h (by simp)
  | x :: xs, a, 0, _ => by rw [psum, List.getD_cons_zero, List.take_succ_cons, List.take_zero, tot, tot]
  | x :: xs, a, j + 1, h => by
    rw [psum, List.getD_cons_succ, List.take_succ_cons, tot]
    exact psum_get xs (a + x) j (by rw [List.length_cons] at h; omega)
theorem tot_app : ∀ (xs ys : List Int) (a : Int), tot a (xs ++ ys) = tot (tot a xs) ys
  | [], _, _ => rfl
  | x :: xs, ys, a => by rw [List.cons_append, tot, tot]; exact tot_app xs ys (a + x)
theorem tot_take_le {xs : List Int} {a : Int} {i j : Nat} (h : ∀ x ∈ xs, 0 ≤ x) (hij : i ≤ j) : tot a (xs.take i) ≤ tot a (xs.take j) := by
  have e : xs.take j = xs.take i ++ (xs.drop i).take (j - i) := by
    rw [← List.take_add, Nat.add_sub_cancel' hij]
  rw [e, tot_app]
  exact tot_ge _ _ fun x hx => h x (List.mem_of_mem_drop (List.mem_of_mem_take hx))
theorem vgo_range : ∀ (l : List Int) (i : Nat) (n : Int), (vgo l i n).2 = 0 ∨ (0 < (vgo l i n).2 ∧ (vgo l i n).2 ≤ (i : Int) + (l.length : Int))
  | [], _, _ => .inl rfl
  | b :: r, i, n => by
    unfold vgo
    by_cases h5 : i ≥ 5
    · rw [if_pos h5]; exact .inl rfl
    · rw [if_neg h5]
      by_cases hb : b < 128
      · rw [if_pos hb]
        by_cases hz : (i > 0 ∧ b = 0) ∨ n + b % 128 * 128 ^ i > 2147483647
        · rw [if_pos hz]; exact .inl rfl
        · rw [if_neg hz, List.length_cons]
          exact .inr ⟨by show 0 < (i : Int) + 1; omega, by show (i : Int) + 1 ≤ (i : Int) + ((r.length + 1 : Nat) : Int); omega⟩
      · rw [if_neg hb, List.length_cons]
        rcases vgo_range r (i + 1) (n + b % 128 * 128 ^ i) with h | ⟨h, k⟩
        · exact .inl h
        · exact .inr ⟨h, by omega⟩
open Go.Proofs.Ytipmgmiooanghaa.Rice in
theorem riceGet_false {s : ByteArray} {many b : Int} (h : (riceGet s many b).2 = false) : riceGet s many b = ([], false) := by
  unfold riceGet at h ⊢
  split
  · rename_i c; rw [if_pos c] at h; exact absurd h (by simp)
  · rfl
open Go.Proofs.Ytipmgmiooanghaa.Rice in
/-- What the numbers of a read text are. -/
theorem riceGet_nums {s : ByteArray} {many b : Int} (h : (riceGet s many b).2 = true) : (0 ≤ many ∧ many ≤ 40) ∧ ((riceGet s many b).1.length : Int) = many ∧ (∀ x ∈ (riceGet s many b).1, 0 ≤ x ∧ x ≤ 60000) := by
  obtain ⟨hv, h6, hr, hg⟩ := riceGet_true h
  rw [hg]
  refine ⟨⟨hv.1, hv.2.1⟩, by show ((nums1 s b many.toNat 0).length : Int) = many; rw [nums1_len]; omega, fun x hx => ⟨nums1_ge s b _ _ x hx, h6 x hx⟩⟩
open Go.Proofs.Ytipmgmiooanghaa.Rice in
/-- What is read as a filter. -/
def filterGet (s : ByteArray) : List Int × Bool :=
  if (vgo (bytesOf s) 0 0).2 = 0 ∨ (vgo (bytesOf s) 0 0).1 > 40 ∨ s.size > 600 then ([], false)
  else if (riceGet (s.extract ((vgo (bytesOf s) 0 0).2 : Int).toNat s.size) (vgo (bytesOf s) 0 0).1 5).2 = true ∧ (tot 0 (riceGet (s.extract ((vgo (bytesOf s) 0 0).2 : Int).toNat s.size) (vgo (bytesOf s) 0 0).1 5).1 < (vgo (bytesOf s) 0 0).1 * 37 ∨ (vgo (bytesOf s) 0 0).1 ≤ 0)
    then (psum 0 (riceGet (s.extract ((vgo (bytesOf s) 0 0).2 : Int).toNat s.size) (vgo (bytesOf s) 0 0).1 5).1, true)
  else ([], false)
theorem implFilter_loop (m : Int) (hm0 : 0 ≤ m) (hm : m ≤ 40) (L : Int) : ∀ (rest pre : List Int) (a : Int), ((pre ++ rest).length : Int) = L → L ≤ 40 → (∀ x ∈ rest, 0 ≤ x ∧ x ≤ 60000) → 0 ≤ a → a ≤ 60000 * (pre.length : Int) →
    Ev (fun k => impl_FilterGet.l0 k m (pre ++ rest) a L (pre.length : Int)) (if tot a rest < m * 37 ∨ rest = [] then (pre ++ psum a rest, true) else ([], false))
  | [], pre, a, hL, h40, hx, ha0, ha => by
    rw [if_pos (.inr rfl)]
    refine Ev.step (f := fun _ => some (pre ++ [], true)) (fun k => ?_) (Ev.now _)
    simp only [impl_FilterGet.l0]
    rw [if_neg (by rw [List.append_nil] at hL; omega)]
  | x :: rest, pre, a, hL, h40, hx, ha0, ha => by
    have hx1 := hx x List.mem_cons_self
    have hxs : ∀ y ∈ rest, 0 ≤ y ∧ y ≤ 60000 := fun y hy => hx y (List.mem_cons_of_mem _ hy)
    have hg := tot_ge rest (a + x) fun y hy => (hxs y hy).1
    rw [List.length_append, List.length_cons] at hL
    have hr : rd (pre ++ x :: rest) (pre.length : Int) = x := by
      unfold rd
      rw [Int.toNat_natCast, List.getD_eq_getElem?_getD, List.getElem?_append_right (Nat.le_refl _), Nat.sub_self, List.getElem?_cons_zero, Option.getD_some]
    have hset : (pre ++ x :: rest).set ((pre.length : Int)).toNat (a + x) = (pre ++ [a + x]) ++ rest := by
      rw [Int.toNat_natCast, List.set_append_right _ _ (Nat.le_refl _), Nat.sub_self, List.set_cons_zero, List.append_assoc]; rfl
    have hs : ((pre.length : Int) + 1) = ((pre ++ [a + x]).length : Int) := by rw [List.length_append, List.length_singleton]; omega
    have f1 : (pre.length : Int) < L := by omega
    have f2 : (0 : Int) ≤ (pre.length : Int) := by omega
    have f3 : (pre.length : Int) < ((pre ++ x :: rest).length : Int) := by rw [List.length_append, List.length_cons]; omega
    by_cases hc : a + x ≥ m * 37
    · rw [if_neg (show ¬ (tot a (x :: rest) < m * 37 ∨ x :: rest = []) from fun h => h.elim (fun h => by rw [tot] at h; omega) (fun h => by cases h))]
      refine Ev.step (f := fun _ => some ([], false)) (fun k => ?_) (Ev.now _)
      simp only [impl_FilterGet.l0]
      rw [if_pos f1, if_pos f2, if_pos f3, hr, w64 (i := a + x) (by omega) (by omega), w64 (i := m * 37) (by omega) (by omega), if_pos hc]
    · have ih := implFilter_loop m hm0 hm L rest (pre ++ [a + x]) (a + x) (by rw [List.length_append, List.length_append, List.length_singleton]; omega) h40 hxs (by omega) (by rw [← hs]; omega)
      rw [← hs] at ih
      refine Ev.step (f := fun k => impl_FilterGet.l0 k m ((pre ++ [a + x]) ++ rest) (a + x) L ((pre.length : Int) + 1)) (fun k => ?_) (Ev.at_ ih ?_)
      · simp only [impl_FilterGet.l0]
        rw [if_pos f1, if_pos f2, if_pos f3, hr, w64 (i := a + x) (by omega) (by omega), w64 (i := m * 37) (by omega) (by omega), if_neg hc, hset, w64 (i := (pre.length : Int) + 1) (by omega) (by omega)]
      · rw [tot, psum]
        by_cases hr0 : rest = []
        · subst hr0
          rw [if_pos (.inr rfl), if_pos (.inl (by rw [tot]; omega)), psum, List.append_nil]
        · by_cases ht : tot (a + x) rest < m * 37
          · rw [if_pos (.inl ht), if_pos (.inl ht), List.append_assoc]; rfl
          · rw [if_neg (fun h => h.elim ht hr0), if_neg (fun h => h.elim ht (fun h => by cases h))]
open Go.Proofs.Ytipmgmiooanghaa.Rice in
theorem implFilterGet_ev (s : ByteArray) (hs : s.size ≤ 140737488351232) : Ev (fun k => impl_FilterGet.f k s) (filterGet s) := by
  have hv := vgo_range (bytesOf s) 0 0
  rw [bytes_len] at hv
  unfold impl_FilterGet.f filterGet
  refine Ev.bind (implVarGet_ev s hs) ?_
  generalize vgo (bytesOf s) 0 0 = v at *
  have out : Ev (fun k => impl_FilterGet.j0 k s v.1 v.2 true) (([], false) : List Int × Bool) := by
    refine Ev.step (f := fun _ => some ([], false)) (fun k => ?_) (Ev.now _)
    simp only [impl_FilterGet.j0]; rw [if_pos trivial]
  by_cases h6 : (s.size : Int) > 600
  · rw [if_pos (.inr (.inr (by omega)))]
    exact Ev.ifp h6 out
  refine Ev.ifn h6 ?_
  by_cases h0 : v.2 = 0
  · rw [if_pos (.inl h0)]
    exact Ev.ifp h0 out
  refine Ev.ifn h0 ?_
  by_cases h4 : v.1 > 40
  · rw [if_pos (.inr (.inl h4)), decide_eq_true h4]
    exact out
  rw [if_neg (fun h => h.elim h0 fun h => h.elim h4 (by omega)), decide_eq_false h4]
  have hv2 : 0 < v.2 ∧ v.2 ≤ (s.size : Int) := by omega
  have hi := implRiceGet (s.extract (v.2 : Int).toNat s.size) v.1 5 (by rw [ByteArray.size_extract]; omega)
  refine Ev.step (f := fun k => (impl_RiceGet.f (s.extract (v.2 : Int).toNat s.size) v.1 5).bind fun bt146 => (if bt146.2 = true then (impl_FilterGet.l0 k v.1 bt146.1 0 (bt146.1.length : Int) 0) else (some (([] : List Int), false)))) (fun k => ?_) ?_
  · simp only [impl_FilterGet.j0]
    rw [if_neg (by simp), if_pos (by omega), if_pos hv2.2]
  generalize s.extract (v.2 : Int).toNat s.size = t at *
  refine Ev.b hi ?_
  by_cases ht : (riceGet t v.1 5).2 = true
  · have hn := riceGet_nums ht
    generalize riceGet t v.1 5 = r at *
    refine Ev.ifp ht (Ev.at_ (implFilter_loop v.1 hn.1.1 hn.1.2 (r.1.length : Int) r.1 [] 0 (by rw [List.nil_append]) (by omega) hn.2.2 (by omega) (by rw [List.length_nil]; omega)) ?_)
    rw [List.nil_append]
    have hnil : r.1 = [] ↔ v.1 ≤ 0 := ⟨fun h => by rw [h, List.length_nil] at hn; omega, fun h => List.eq_nil_of_length_eq_zero (by omega)⟩
    by_cases hc : tot 0 r.1 < v.1 * 37 ∨ v.1 ≤ 0
    · rw [if_pos (show tot 0 r.1 < v.1 * 37 ∨ r.1 = [] from hc.imp id hnil.2), if_pos (show r.2 = true ∧ (tot 0 r.1 < v.1 * 37 ∨ v.1 ≤ 0) from ⟨ht, hc⟩)]
    · rw [if_neg (show ¬ (tot 0 r.1 < v.1 * 37 ∨ r.1 = []) from fun h => hc (h.imp id hnil.1)), if_neg (show ¬ (r.2 = true ∧ (tot 0 r.1 < v.1 * 37 ∨ v.1 ≤ 0)) from fun h => hc h.2)]
  · rw [if_neg (fun h => ht h.1)]
    exact Ev.ifn ht (Ev.now _)
theorem specFilter_loop (m : Int) (hm0 : 0 ≤ m) (hm : m ≤ 40) (g : List Int) (ok : Bool) (hg : g.length ≤ 40) (hx : ∀ x ∈ g, 0 ≤ x ∧ x ≤ 60000) : ∀ (d i : Nat) (out : List Int) (a : Int), i + d = g.length → out.length = i → 0 ≤ a → a ≤ 60000 * (i : Int) →
    Ev (fun k => spec_l2Places.l0 k m g ok out a (i : Int)) (if ok = true then (if tot a (g.drop i) < m * 37 ∨ m ≤ 0 then (out ++ psum a (g.drop i), m, true) else ([], 0, false)) else ([], 0, false))
  | 0, i, out, a, h, ho, ha0, ha => by
    rw [List.drop_eq_nil_of_le (by omega), tot, psum, List.append_nil]
    refine Ev.step (f := fun _ => some (if ok = true then (if a < m * 37 ∨ m ≤ 0 then (out, m, true) else ([], 0, false)) else ([], 0, false))) (fun k => ?_) (Ev.now _)
    simp only [spec_l2Places.l0]
    rw [if_neg (by omega), w64 (i := m * 37) (by omega) (by omega)]
    by_cases ho : ok = true
    · rw [if_pos ho, if_pos ho]
      by_cases h1 : a ≥ m * 37
      · rw [if_pos h1]
        by_cases h2 : m > 0
        · rw [if_pos h2, if_neg (by omega)]
        · rw [if_neg h2, if_pos (by omega)]
      · rw [if_neg h1, if_pos (by omega)]
    · rw [if_neg ho, if_neg ho]
  | d + 1, i, out, a, h, ho, ha0, ha => by
    have hi : i < g.length := by omega
    have hr : rd g (i : Int) = g[i] := by unfold rd; rw [Int.toNat_natCast, List.getD_eq_getElem?_getD, List.getElem?_eq_getElem hi, Option.getD_some]
    have hxi := hx g[i] (List.getElem_mem hi)
    have ih := specFilter_loop m hm0 hm g ok hg hx d (i + 1) (out ++ [a + g[i]]) (a + g[i]) (by omega) (by rw [List.length_append, List.length_singleton]; omega) (by omega) (by omega)
    rw [List.drop_eq_getElem_cons hi, tot, psum]
    rw [List.append_assoc] at ih
    refine Ev.step (f := fun k => spec_l2Places.l0 k m g ok (out ++ [a + g[i]]) (a + g[i]) ((i + 1 : Nat) : Int)) (fun k => ?_) ih
    simp only [spec_l2Places.l0]
    rw [if_pos (by omega), if_pos (by omega), if_pos (by omega), hr, w64 (i := a + g[i]) (by omega) (by omega), w64 (by omega) (by omega)]
    rfl
open Go.Proofs.Ytipmgmiooanghaa.Rice in
theorem specFilterGet_ev (s : ByteArray) (hs : s.size ≤ 140737488351232) : Ev (fun k => spec_FilterGet.f k s) (filterGet s) := by
  have hv := vgo_range (bytesOf s) 0 0
  rw [bytes_len] at hv
  suffices h : ∃ n, Ev (fun k => spec_l2Places.f k s) ((filterGet s).1, n, (filterGet s).2) by
    obtain ⟨n, h⟩ := h
    unfold spec_FilterGet.f
    exact Ev.bind h (Ev.now _)
  unfold spec_l2Places.f filterGet
  have hvg := vget_ev s hs
  generalize vgo (bytesOf s) 0 0 = v at *
  have out : Ev (fun k => spec_l2Places.j0 k s v.1 v.2 true) (([], 0, false) : List Int × Int × Bool) := by
    refine Ev.step (f := fun _ => some ([], 0, false)) (fun k => ?_) (Ev.now _)
    simp only [spec_l2Places.j0]; rw [if_pos trivial]
  by_cases h0 : v.2 = 0
  · rw [if_pos (.inl h0)]
    exact ⟨0, Ev.bind hvg (Ev.ifp h0 out)⟩
  by_cases h4 : v.1 > 40
  · rw [if_pos (.inr (.inl h4))]
    exact ⟨0, Ev.bind hvg (Ev.ifn h0 (Ev.ifp h4 out))⟩
  by_cases h6 : (s.size : Int) > 600
  · rw [if_pos (.inr (.inr (by omega)))]
    exact ⟨0, Ev.bind hvg (Ev.ifn h0 (Ev.ifn h4 (by rw [decide_eq_true h6]; exact out)))⟩
  rw [if_neg (fun h => h.elim h0 fun h => h.elim h4 (by omega))]
  have hv2 : 0 < v.2 ∧ v.2 ≤ (s.size : Int) := by omega
  have ht := specRiceGet_ev (s.extract (v.2 : Int).toNat s.size) v.1 5
  have hl := riceGet_len (s.extract (v.2 : Int).toNat s.size) v.1 5
  have go : ∀ r, Ev (fun k => spec_l2Places.l0 k v.1 (riceGet (s.extract (v.2 : Int).toNat s.size) v.1 5).1 (riceGet (s.extract (v.2 : Int).toNat s.size) v.1 5).2 [] 0 0) r → Ev (fun k => (spec_l1Get.f k s).bind fun bt118 => (if bt118.2 = 0 then (spec_l2Places.j0 k s bt118.1 bt118.2 true) else (if bt118.1 > 40 then (spec_l2Places.j0 k s bt118.1 bt118.2 true) else (spec_l2Places.j0 k s bt118.1 bt118.2 (decide ((s.size : Int) > 600)))))) r := by
    intro r h
    refine Ev.bind hvg (Ev.ifn h0 (Ev.ifn h4 ?_))
    rw [decide_eq_false h6]
    refine Ev.step (f := fun k => (spec_RiceGet.f k (s.extract (v.2 : Int).toNat s.size) v.1 5).bind fun bt120 => (spec_l2Places.l0 k v.1 bt120.1 bt120.2 (([] : List Int)) 0 0)) (fun k => ?_) (Ev.bind ht h)
    simp only [spec_l2Places.j0]
    rw [if_neg (by simp), if_pos (by omega), if_pos hv2.2]
  generalize s.extract (v.2 : Int).toNat s.size = t at *
  by_cases hk : (riceGet t v.1 5).2 = true
  · have hn := riceGet_nums hk
    have lp := specFilter_loop v.1 hn.1.1 hn.1.2 (riceGet t v.1 5).1 (riceGet t v.1 5).2 hl hn.2.2 (riceGet t v.1 5).1.length 0 [] 0 (by omega) rfl (by omega) (by omega)
    rw [if_pos hk, List.drop_zero, List.nil_append, Int.natCast_zero] at lp
    by_cases hc : tot 0 (riceGet t v.1 5).1 < v.1 * 37 ∨ v.1 ≤ 0
    · rw [if_pos hc] at lp
      rw [if_pos ⟨hk, hc⟩]
      exact ⟨_, go _ lp⟩
    · rw [if_neg hc] at lp
      rw [if_neg (fun h => hc h.2)]
      exact ⟨_, go _ lp⟩
  · have hf : (riceGet t v.1 5).2 = false := by rcases h : (riceGet t v.1 5).2 with _ | _; rfl; exact absurd h hk
    rw [if_neg (fun h => hk h.1)]
    refine ⟨0, go _ ?_⟩
    rw [riceGet_false hf]
    refine Ev.step (f := fun _ => some ([], 0, false)) (fun k => ?_) (Ev.now _)
    simp only [spec_l2Places.l0]
    rw [if_neg (by rw [List.length_nil]; omega), if_neg (by simp)]
open Go.Proofs.Ytipmgmiooanghaa.Rice in
theorem filterGet_len (s : ByteArray) : (filterGet s).1.length ≤ 40 := by
  unfold filterGet
  split
  · exact Nat.zero_le _
  · split
    · show (psum 0 _).length ≤ 40
      rw [psum_len]; exact riceGet_len _ _ _
    · exact Nat.zero_le _

theorem FnExactFilterGet : laws_FnExactFilterGet.Pure := by
  intro s _
  refine Ev.rounds (r := true) ?_
  unfold laws_FnExactFilterGet.f
  by_cases h : (s.size : Int) > 1048576
  · exact Ev.ifp h (Ev.now _)
  · refine Ev.ifn h ?_
    have hl := filterGet_len s
    have hi := implFilterGet_ev s (by omega)
    refine Ev.bind (specFilterGet_ev s (by omega)) (Ev.bind hi ?_)
    generalize filterGet s = r at *
    refine Ev.bind (eqInts_same r.1 (by omega)) (Ev.ifp rfl ?_)
    refine Ev.step (f := fun k => _) (fun k => by simp only [laws_FnExactFilterGet.j0]; rfl) ?_
    refine Ev.ifn (by simp) (Ev.bind (mark_ev r.1 (by omega)) (Ev.bind (held_ev r.1.length (by omega)) ?_))
    refine Ev.ifn (by show ¬ (r.1.length : Int) + 1 < 0; omega) (Ev.ifp rfl (Ev.bind hi (Ev.bind (eqInts_same r.1 (by omega)) (Ev.ifp rfl ?_))))
    refine Ev.step (f := fun k => _) (fun k => by simp only [laws_FnExactFilterGet.j1]; rfl) ?_
    exact Ev.ifn (by simp) (Ev.bind (held_ev r.1.length (by omega)) (Ev.ifn (by show ¬ (r.1.length : Int) + 1 < 0; omega) (Ev.ifp rfl (Ev.now _))))

end Go.Proofs.Ytipmgmiooanghaa.Pure
