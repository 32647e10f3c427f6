/- FnVarPut (P3): a number is read back from its bytes, whatever stands behind. Conditions: none beyond those that the statement tells. -/
import Derived.Test.YtgefbfahkfilnaaPFnVarPutx2
import Derived.Test.YtgefbfahkfilnaaPd
namespace Go.Proofs.Ytgefbfahkfilnaa.Pure
open Go Go.RowKit Go.Proofs.Ytgefbfahkfilnaa.PFnVarPut Go.Proofs.YtgefbfahkfilnaaW.PrintWords Go.Proofs.YtgefbfahkfilnaaW.PrintLast Go.Proofs.YtgefbfahkfilnaaW.PrintMore Go.Proofs.Ytgefbfahkfilnaa.Pl
set_option linter.unusedVariables false

/-! ### VarPut: the steps -/
theorem step_div {n : Nat} (h : n ≤ 2147483647) : wrap64 (Int.tdiv (n : Int) 128) = ((n / 128 : Nat) : Int) := by
  rw [Int.tdiv_eq_ediv_of_nonneg (by omega), w64 (by omega) (by omega)]; omega
theorem step_mod1 {n : Nat} (h : n ≤ 2147483647) : (wrap64 (128 + Int.tmod (n : Int) 128)) % 256 = ((n % 128 + 128 : Nat) : Int) := by
  rw [Int.tmod_eq_emod_of_nonneg (by omega), w64 (by omega) (by omega)]; omega
theorem step_mod2 {n : Nat} (h : n ≤ 2147483647) : (wrap64 (Int.tmod (n : Int) 128 + 128)) % 256 = ((n % 128 + 128 : Nat) : Int) := by
  rw [Int.tmod_eq_emod_of_nonneg (by omega), w64 (by omega) (by omega)]; omega
/-- What VarPut writes. -/
def vput (n : Int) : ByteArray := if 0 ≤ n ∧ n ≤ 2147483647 then strOfNums (vb n.toNat) else ⟨#[]⟩
theorem vput_in {n : Int} (h : 0 ≤ n ∧ n ≤ 2147483647) : vput n = strOfNums (vb n.toNat) := if_pos h
theorem vput_out {n : Int} (h : ¬ (0 ≤ n ∧ n ≤ 2147483647)) : vput n = ⟨#[]⟩ := if_neg h
theorem vput_bytes {n : Int} (h0 : 0 ≤ n) (h1 : n ≤ 2147483647) : bytesOf (vput n) = vb n.toNat := by
  unfold vput; rw [if_pos ⟨h0, h1⟩, bytes_str _ (vb_nn _)]
theorem vput_none {n : Int} (h : ¬ (0 ≤ n ∧ n ≤ 2147483647)) : bytesOf (vput n) = [] := by
  unfold vput; rw [if_neg h]; rfl

theorem specIn (a b c : Int) : spec_l1In.f a b c = some (decide (b ≤ a ∧ a ≤ c)) := by
  unfold spec_l1In.f
  by_cases h : a ≥ b
  · rw [if_pos h]; congr 1; exact decide_eq_decide.2 ⟨fun k => ⟨h, k⟩, fun k => k.2⟩
  · rw [if_neg h]; congr 1; exact (decide_eq_false (fun k => h k.1)).symm

theorem l1Var_loop (n : Nat) : ∀ xs : List Int, n ≤ 2147483647 → xs.length + n < 140737488355328 → Ev (fun k => spec_l1Var.l0 k (n : Int) xs) (strOfNums (xs ++ vb n)) := by
  induction n using Nat.strongRecOn with
  | ind n ih =>
    intro xs hn hx
    by_cases h : n < 128
    · refine Ev.step (f := fun _ => some (strOfNums (xs ++ vb n))) (fun k => ?_) (Ev.now _)
      rw [vb_lt h]; simp only [spec_l1Var.l0]; rw [if_neg (by omega), if_pos (by omega), Int.emod_eq_of_lt (by omega) (by omega)]
    · refine Ev.step (f := fun k => spec_l1Var.l0 k ((n / 128 : Nat) : Int) (xs ++ [((n % 128 + 128 : Nat) : Int)])) (fun k => ?_) ?_
      · simp only [spec_l1Var.l0]; rw [if_pos (by omega), if_pos (by omega), step_div hn, step_mod1 hn]
      · have := ih (n / 128) (by omega) (xs ++ [((n % 128 + 128 : Nat) : Int)]) (by omega) (by simp only [List.length_append, List.length_singleton]; omega)
        rw [vb_ge h]; rw [List.append_assoc] at this; exact this
theorem l1Var_ev {n : Int} (h0 : 0 ≤ n) (h1 : n ≤ 2147483647) : Ev (fun k => spec_l1Var.f k n) (strOfNums (vb n.toNat)) := by
  obtain ⟨m, rfl⟩ := Int.eq_ofNat_of_zero_le h0
  unfold spec_l1Var.f
  have := l1Var_loop m [] (by omega) (by simp only [List.length_nil]; omega)
  rw [Int.toNat_natCast]; exact this

theorem specVarPut_ev (n : Int) : Ev (fun k => spec_VarPut.f k n) (vput n) := by
  unfold spec_VarPut.f
  refine Ev.b (specIn _ _ _) ?_
  by_cases h : 0 ≤ n ∧ n ≤ 2147483647
  · rw [vput_in h]
    refine Ev.ifp (decide_eq_true h) ?_
    exact Ev.bind (l1Var_ev h.1 h.2) (Ev.now _)
  · rw [vput_out h]
    exact Ev.ifn (by simpa using h) (Ev.now _)

theorem implIn (a b c : Int) : impl_in.f a b c = some (decide (b ≤ a ∧ a ≤ c)) := by
  unfold impl_in.f
  by_cases h : a ≥ b
  · rw [if_pos h]; congr 1; exact decide_eq_decide.2 ⟨fun k => ⟨h, k⟩, fun k => k.2⟩
  · rw [if_neg h]; congr 1; exact (decide_eq_false (fun k => h k.1)).symm

theorem implVarPut_loop (n : Nat) : ∀ xs : List Int, n ≤ 2147483647 → xs.length + n < 140737488355328 → Ev (fun k => impl_VarPut.l0 k (n : Int) xs) (strOfNums (xs ++ vb n)) := by
  induction n using Nat.strongRecOn with
  | ind n ih =>
    intro xs hn hx
    by_cases h : n < 128
    · refine Ev.step (f := fun _ => some (strOfNums (xs ++ vb n))) (fun k => ?_) (Ev.now _)
      rw [vb_lt h]; simp only [impl_VarPut.l0]; rw [if_neg (by omega), if_pos (by omega), Int.emod_eq_of_lt (by omega) (by omega)]
    · refine Ev.step (f := fun k => impl_VarPut.l0 k ((n / 128 : Nat) : Int) (xs ++ [((n % 128 + 128 : Nat) : Int)])) (fun k => ?_) ?_
      · simp only [impl_VarPut.l0]; rw [if_pos (by omega), if_pos (by omega), step_div hn, step_mod2 hn]
      · have := ih (n / 128) (by omega) (xs ++ [((n % 128 + 128 : Nat) : Int)]) (by omega) (by simp only [List.length_append, List.length_singleton]; omega)
        rw [vb_ge h]; rw [List.append_assoc] at this; exact this
theorem implVarPut_ev (n : Int) : Ev (fun k => impl_VarPut.f k n) (vput n) := by
  unfold impl_VarPut.f
  refine Ev.b (implIn _ _ _) ?_
  by_cases h : 0 ≤ n ∧ n ≤ 2147483647
  · rw [vput_in h]
    refine Ev.ifp (decide_eq_true h) ?_
    obtain ⟨m, rfl⟩ := Int.eq_ofNat_of_zero_le h.1
    have := implVarPut_loop m [] (by omega) (by simp only [List.length_nil]; omega)
    rw [Int.toNat_natCast]; exact this
  · rw [vput_out h]
    exact Ev.ifn (by simpa using h) (Ev.now _)

/-! ### VarGet -/
theorem shl64 {x : Int} {y : Int} {j : Nat} (hy : y = (j : Int)) (hj : j ≤ 62) (h0 : 0 ≤ x) (h1 : x * 2 ^ j ≤ 9223372036854775807) : shl .i64 x y = x * 2 ^ j := by
  subst hy
  unfold shl
  rw [Int.toNat_natCast, Nat.min_eq_left (by show j ≤ 64; omega)]
  have h2 : (0 : Int) ≤ 2 ^ j := Int.le_of_lt (Int.pow_pos (by omega))
  have : 0 ≤ x * 2 ^ j := Int.mul_nonneg h0 h2
  exact (i64_w _).trans (w64 (by omega) h1)
theorem pow7 : ∀ i : Nat, (2 : Int) ^ (7 * i) = 128 ^ i
  | 0 => rfl
  | i + 1 => by rw [show 7 * (i + 1) = 7 * i + 7 by omega, Int.pow_add, pow7 i, Int.pow_succ]; rfl
theorem pow128 : ∀ i : Nat, i ≤ 4 → (128 : Int) ^ i ≤ 268435456 ∧ 1 ≤ (128 : Int) ^ i := by
  intro i hi
  have : i = 0 ∨ i = 1 ∨ i = 2 ∨ i = 3 ∨ i = 4 := by omega
  rcases this with rfl | rfl | rfl | rfl | rfl <;> decide
/-- One byte more. -/
theorem more_byte {n b : Int} {i : Nat} (hi : i ≤ 4) (hn0 : 0 ≤ n) (hn : n < 128 ^ i) (hb : 0 ≤ b) (hb2 : b ≤ 255) : 0 ≤ b % 128 * 128 ^ i ∧ b % 128 * 128 ^ i ≤ 34359738368 ∧ 0 ≤ n + b % 128 * 128 ^ i ∧ n + b % 128 * 128 ^ i < 128 ^ (i + 1) ∧ n + b % 128 * 128 ^ i ≤ 34628173824 := by
  obtain ⟨p1, p0⟩ := pow128 i hi
  rw [Int.pow_succ]
  generalize (128 : Int) ^ i = p at *
  have h0 : 0 ≤ b % 128 := by omega
  have h1 : b % 128 ≤ 127 := by omega
  have a : 0 ≤ b % 128 * p := Int.mul_nonneg h0 (by omega)
  have c : b % 128 * p ≤ 127 * p := Int.mul_le_mul_of_nonneg_right h1 (by omega)
  omega
theorem impl_more {n b : Int} {i : Nat} (hi : i ≤ 4) (hn0 : 0 ≤ n) (hn : n < 128 ^ i) (hb : 0 ≤ b) (hb2 : b ≤ 255) :
    wrap64 (n + shl .i64 (wrap64 (Int.tmod b 128)) (wrap64 (7 * (i : Int)))) = n + b % 128 * 128 ^ i := by
  obtain ⟨h0, h1, h2, h3, h4⟩ := more_byte hi hn0 hn hb hb2
  have e : wrap64 (7 * (i : Int)) = ((7 * i : Nat) : Int) := by rw [w64 (by omega) (by omega)]; omega
  rw [e, Int.tmod_eq_emod_of_nonneg hb, w64 (i := b % 128) (by omega) (by omega), shl64 rfl (by omega) (by omega) (by rw [pow7]; omega), pow7, w64 (by omega) (by omega)]
theorem spec_more {n b : Int} {i : Nat} (hi : i ≤ 4) (hn0 : 0 ≤ n) (hn : n < 128 ^ i) (hb : 0 ≤ b) (hb2 : b ≤ 255) :
    wrap64 (n + wrap64 (Int.tmod (wrap64 b) 128 * 128 ^ i)) = n + b % 128 * 128 ^ i := by
  obtain ⟨h0, h1, h2, h3, h4⟩ := more_byte hi hn0 hn hb hb2
  rw [w64 (i := b) (by omega) (by omega), Int.tmod_eq_emod_of_nonneg hb, w64 (i := b % 128 * 128 ^ i) (by omega) (by omega), w64 (by omega) (by omega)]
/-- What was read so far: it is just what is written, if and only if the bytes are the least that can be. -/
theorem put_is_cut (s : ByteArray) (i : Nat) (h : i < s.size) (hp : ∀ x ∈ (bytesOf s).take i, 128 ≤ x) (hb : bt s (i : Int) < 128) :
    (vput (bval ((bytesOf s).take (i + 1)))).toList = (s.extract 0 (i + 1)).toList ↔ ¬ ((i > 0 ∧ bt s (i : Int) = 0) ∨ bval ((bytesOf s).take (i + 1)) > 2147483647) := by
  have hr := bt_range s (i : Int)
  have hne : (bytesOf s).take (i + 1) ≠ [] := by rw [bt_take s i h]; simp
  have hnn := bval_nn ((bytesOf s).take (i + 1))
  rw [toList_iff, bytes_extract, List.drop_zero]
  constructor
  · rintro he (⟨hi, hz⟩ | hg)
    · by_cases hin : 0 ≤ bval ((bytesOf s).take (i + 1)) ∧ bval ((bytesOf s).take (i + 1)) ≤ 2147483647
      · rw [vput_bytes hin.1 hin.2, bt_take s i h] at he
        have := (vb_last _ _ _ he).2.2 hz
        have hl := congrArg List.length this.2
        rw [List.length_take, bytes_len] at hl
        simp only [List.length_nil] at hl
        omega
      · rw [vput_none hin] at he
        exact hne he.symm
    · rw [vput_none (by omega)] at he
      exact hne he.symm
  · intro hg
    rw [vput_bytes hnn (by omega), bt_take s i h]
    rcases Nat.eq_zero_or_pos i with rfl | hi
    · simp only [List.take_zero, List.nil_append]
      exact vb_bval_one (by omega) hb
    · refine (vb_of_bval _ _ (fun x hx => ⟨hp x hx, (bytes_nn s x (List.mem_of_mem_take hx)).2⟩) ?_ hb).1
      have : ¬ bt s (i : Int) = 0 := fun hz => hg (.inl ⟨hi, hz⟩)
      have h0 : 0 ≤ bt s ((i : Nat) : Int) := hr.1
      omega

theorem implGet_loop (s : ByteArray) (hs : s.size ≤ 140737488351232) (d : Nat) : ∀ (i : Nat) (n : Int), i + d = 5 → i ≤ s.size → n = bval ((bytesOf s).take i) → (∀ x ∈ (bytesOf s).take i, 128 ≤ x) →
    Ev (fun k => impl_VarGet.l0 k s n (i : Int)) (vgo ((bytesOf s).drop i) i n) := by
  induction d with
  | zero =>
    intro i n hi his hn hall
    rw [vgo_five _ _ _ (by omega)]
    have h5 : decide ((i : Int) < 5) = false := decide_eq_false (by omega)
    by_cases hlt : (i : Int) < (s.size : Int)
    · refine Ev.step (f := fun k => impl_VarGet.j1 k s n (i : Int) (decide ((i : Int) < 5))) (fun k => by simp only [impl_VarGet.l0]; rw [if_pos hlt]) ?_
      refine Ev.step (f := fun _ => some (0, 0)) (fun k => ?_) (Ev.now _)
      rw [h5]; simp only [impl_VarGet.j1]; rw [if_neg (by simp)]
    · refine Ev.step (f := fun k => impl_VarGet.j1 k s n (i : Int) false) (fun k => by simp only [impl_VarGet.l0]; rw [if_neg hlt]) ?_
      refine Ev.step (f := fun _ => some (0, 0)) (fun k => ?_) (Ev.now _)
      simp only [impl_VarGet.j1]; rw [if_neg (by simp)]
  | succ d ih =>
    intro i n hi his hn hall
    have hn0 : 0 ≤ n := by rw [hn]; exact bval_nn _
    have hnl : n < 128 ^ i := by
      have := bval_lt ((bytesOf s).take i)
      rw [List.length_take, bytes_len, Nat.min_eq_left his] at this
      rw [hn]; exact this
    have h5 : decide ((i : Int) < 5) = true := decide_eq_true (by omega)
    have hi1 : ((i + 1 : Nat) : Int) = (i : Int) + 1 := by omega
    by_cases hlt : (i : Int) < (s.size : Int)
    · have hbt := bt_range s (i : Int)
      have hw : wrap64 ((i : Int) + 1) = (i : Int) + 1 := w64 (by omega) (by omega)
      have h7 : wrap64 (7 * (i : Int)) = 7 * (i : Int) := w64 (by omega) (by omega)
      have hq : ((i : Int) + 1).toNat = i + 1 := by omega
      have h0i : (0 : Int) ≤ (i : Int) := by omega
      have h70 : (0 : Int) ≤ 7 * (i : Int) := by omega
      have e0 : (0 : Int) ≤ (i : Int) + 1 := by omega
      have e1 : (i : Int) + 1 ≤ (s.size : Int) := by omega
      have hi5 : ¬ i ≥ 5 := by omega
      have hi4 : i ≤ 4 := by omega
      have his1 : i < s.size := by omega
      have his2 : i + 1 ≤ s.size := by omega
      have hid : i + 1 + d = 5 := by omega
      refine Ev.step (f := fun k => impl_VarGet.j1 k s n (i : Int) true) (fun k => by simp only [impl_VarGet.l0]; rw [if_pos hlt, h5]) ?_
      rw [bt_drop s i his1]
      unfold vgo
      rw [if_neg hi5]
      have him := impl_more hi4 hn0 hnl hbt.1 hbt.2
      have hv : n + bt s (i : Int) % 128 * 128 ^ i = bval ((bytesOf s).take (i + 1)) := by
        rw [bt_take s i his1, bval_snoc, List.length_take, bytes_len, Nat.min_eq_left his, hn]
      rw [h7] at him
      by_cases hb : bt s (i : Int) < 128
      · rw [if_pos hb]
        have hc := put_is_cut s i his1 hall hb
        rw [← hv] at hc
        refine Ev.step (f := fun k => (impl_VarPut.f k (n + bt s (i : Int) % 128 * 128 ^ i)).bind fun t => if t.toList = (s.extract 0 (i + 1)).toList then some (n + bt s (i : Int) % 128 * 128 ^ i, (i : Int) + 1) else some (0, 0)) (fun k => ?_) ?_
        · simp only [impl_VarGet.j1]
          rw [if_pos trivial, if_pos h0i, if_pos hlt, h7, if_pos h70, if_pos hb, him, hw, hq]
          refine congrArg _ (funext fun t => ?_)
          rw [if_pos e0, if_pos e1]
        · refine Ev.bind (implVarPut_ev _) ?_
          by_cases hz : (i > 0 ∧ bt s (i : Int) = 0) ∨ n + bt s (i : Int) % 128 * 128 ^ i > 2147483647
          · rw [if_pos hz]
            exact Ev.ifn (fun h => (hc.1 h) hz) (Ev.now _)
          · rw [if_neg hz]
            exact Ev.ifp (hc.2 hz) (Ev.now _)
      · rw [if_neg hb]
        refine Ev.step (f := fun k => impl_VarGet.l0 k s (n + bt s (i : Int) % 128 * 128 ^ i) ((i + 1 : Nat) : Int)) (fun k => ?_) (ih (i + 1) _ hid his2 hv ?_)
        · simp only [impl_VarGet.j1]
          rw [if_pos trivial, if_pos h0i, if_pos hlt, h7, if_pos h70, if_neg hb, him, hw, hi1]
        · rw [bt_take s i his1]
          intro x hx
          rcases List.mem_append.1 hx with hx | hx
          · exact hall x hx
          · simp only [List.mem_singleton] at hx
            clear him hv h7 hw
            omega
    · refine Ev.step (f := fun k => impl_VarGet.j1 k s n (i : Int) false) (fun k => by simp only [impl_VarGet.l0]; rw [if_neg hlt]) ?_
      rw [List.drop_eq_nil_of_le (by rw [bytes_len]; omega), vgo_nil]
      refine Ev.step (f := fun _ => some (0, 0)) (fun k => ?_) (Ev.now _)
      simp only [impl_VarGet.j1]; rw [if_neg (by simp)]
theorem implVarGet_ev (s : ByteArray) (hs : s.size ≤ 140737488351232) : Ev (fun k => impl_VarGet.f k s) (vgo (bytesOf s) 0 0) := by
  have h := implGet_loop s hs 5 0 0 (by omega) (by omega) (by simp [bval]) (by simp)
  rw [List.drop_zero, Int.natCast_zero] at h
  unfold impl_VarGet.f
  exact h

/-! ### what is drawn: a code that is read byte by byte -/
/-- A code that is read. -/
def Code (b : List Int) : Prop := (∀ x ∈ b, 0 ≤ x ∧ x ≤ 255) ∧ b.length ≤ 2000
theorem open_ev {l : List Int} (h : ∀ x ∈ l, 0 ≤ x ∧ x ≤ 255) : ∃ b, spec_l20Open.f l = some (b, 0) ∧ Code b := by
  unfold spec_l20Open.f
  by_cases hl : (l.length : Int) > 2000
  · rw [if_pos hl, if_pos (by omega)]
    exact ⟨_, rfl, fun x hx => h x (List.mem_of_mem_take hx), by rw [List.length_take]; omega⟩
  · rw [if_neg hl]
    exact ⟨_, rfl, h, by omega⟩
theorem tmod_range {a b : Int} (h0 : 0 ≤ a) (hb : 0 < b) : 0 ≤ Int.tmod a b ∧ Int.tmod a b < b := by
  rw [Int.tmod_eq_emod_of_nonneg h0]
  exact ⟨Int.emod_nonneg _ (by omega), Int.emod_lt_of_pos _ hb⟩
theorem mixed {b : List Int} (hb : Code b) {p : Int} (h0 : 0 ≤ p) (h1 : p ≤ 1099511627776) (hl : 0 < b.length) (i j : Int) :
    ∃ x, wrap64 (wrap64 (wrap64 (wrap64 (wrap64 (rd b i) * 131) + wrap64 (wrap64 (rd b j) * 1117)) + wrap64 (p * 29)) + wrap64 (wrap64 (Int.tdiv p (b.length : Int)) * 53)) = x ∧ 0 ≤ x ∧ x < 4611686018427387904 := by
  have hi := rd_range hb.1 i
  have hj := rd_range hb.1 j
  have hd : 0 ≤ Int.tdiv p (b.length : Int) ∧ Int.tdiv p (b.length : Int) ≤ p := by
    rw [Int.tdiv_eq_ediv_of_nonneg h0]
    exact ⟨Int.ediv_nonneg h0 (by omega), Int.ediv_le_self _ h0⟩
  generalize rd b i = u at *
  generalize rd b j = v at *
  generalize Int.tdiv p (b.length : Int) = q at *
  refine ⟨u * 131 + v * 1117 + p * 29 + q * 53, ?_, by omega, by omega⟩
  rw [w64 (i := u) (by omega) (by omega), w64 (i := u * 131) (by omega) (by omega), w64 (i := v) (by omega) (by omega), w64 (i := v * 1117) (by omega) (by omega), w64 (i := u * 131 + v * 1117) (by omega) (by omega),
    w64 (i := p * 29) (by omega) (by omega), w64 (i := u * 131 + v * 1117 + p * 29) (by omega) (by omega), w64 (i := q) (by omega) (by omega), w64 (i := q * 53) (by omega) (by omega), w64 (by omega) (by omega)]
theorem pick_ev {b : List Int} (hb : Code b) (p n : Int) (h0 : 0 ≤ p) (h1 : p ≤ 1099511627776) : ∃ v, Ev (fun k => spec_l20Rd_pick.f k b p n) (v, p + 1) ∧ 0 ≤ v ∧ (1 ≤ n → v < n) ∧ (n < 1 → v = 0) := by
  have hw : wrap64 (p + 1) = p + 1 := w64 (by omega) (by omega)
  unfold spec_l20Rd_pick.f
  by_cases hn : n < 1
  · refine ⟨0, Ev.ifp hn ?_, by omega, by omega, fun _ => rfl⟩
    rw [hw]
    refine Ev.step (f := fun _ => some (0, p + 1)) (fun k => ?_) (Ev.now _)
    simp only [spec_l20Rd_pick.j0]; rw [if_pos trivial]
  · by_cases hl : b.length = 0
    · have e : ((b.length : Int) == 0) = true := by rw [beq_iff_eq]; omega
      refine ⟨0, Ev.ifn hn ?_, by omega, by omega, fun _ => rfl⟩
      rw [hw, e]
      refine Ev.step (f := fun _ => some (0, p + 1)) (fun k => ?_) (Ev.now _)
      simp only [spec_l20Rd_pick.j0]; rw [if_pos trivial]
    · have e : ((b.length : Int) == 0) = false := by rw [beq_eq_false_iff_ne]; omega
      have hw1 : wrap64 (p + 1 - 1) = p := by clear hw; exact (w64 (by omega) (by omega)).trans (by omega)
      have hn0 : ¬ n = 0 := by clear hw hw1; omega
      have hl0 : ¬ (b.length : Int) = 0 := by clear hw hw1; omega
      by_cases hp : p < (b.length : Int)
      · have hr := rd_range hb.1 p
        have hwr : wrap64 (rd b p) = rd b p := by clear hw hw1; exact w64 (by omega) (by omega)
        have ht := tmod_range hr.1 (show 0 < n by clear hw hw1 hwr; omega)
        refine ⟨Int.tmod (rd b p) n, Ev.ifn hn ?_, ht.1, fun _ => ht.2, fun h => absurd h hn⟩
        rw [hw, e]
        refine Ev.step (f := fun _ => some (Int.tmod (rd b p) n, p + 1)) (fun k => ?_) (Ev.now _)
        simp only [spec_l20Rd_pick.j0]; rw [if_neg (by simp), hw1, if_pos hp, if_pos h0, if_neg hn0, hwr]
      · have hlp : 0 < (b.length : Int) := by clear hw hw1; omega
        have t1 := tmod_range h0 hlp
        have hq : wrap64 (wrap64 (p * 7) + 3) = p * 7 + 3 := by clear hw hw1; rw [w64 (i := p * 7) (by omega) (by omega)]; exact w64 (by omega) (by omega)
        have t2 := tmod_range (show 0 ≤ p * 7 + 3 by clear hw hw1 hq; omega) hlp
        obtain ⟨x, hx, hx0, hx1⟩ := mixed hb h0 h1 (show 0 < b.length by clear hw hw1 hq; omega) (Int.tmod p (b.length : Int)) (Int.tmod (p * 7 + 3) (b.length : Int))
        have hd0 : 0 ≤ x / 64 := by clear hx hw hw1 hq; omega
        have hd1 : x / 64 < 4611686018427387904 := by clear hx hw hw1 hq; omega
        have hdx : wrap64 (Int.tdiv x 64) = x / 64 := by rw [Int.tdiv_eq_ediv_of_nonneg hx0]; clear hx hw hw1 hq; exact w64 (by omega) (by omega)
        have hxo := xor64 hx0 hx1 hd0 hd1
        have ht := tmod_range hxo.1 (show 0 < n by clear hx hdx hw hw1 hq; omega)
        refine ⟨Int.tmod (Go.bits .xor .i64 x (x / 64)) n, Ev.ifn hn ?_, ht.1, fun _ => ht.2, fun h => absurd h hn⟩
        rw [hw, e]
        refine Ev.step (f := fun _ => some (Int.tmod (Go.bits .xor .i64 x (x / 64)) n, p + 1)) (fun k => ?_) (Ev.now _)
        simp only [spec_l20Rd_pick.j0]
        rw [if_neg (by simp), hw1, if_neg hp, if_neg hl0, if_pos t1.1, if_pos t1.2, hq, if_pos t2.1, if_pos t2.2, if_neg hn0, hx, hdx]
/-- A number below n, n at least 1. -/
theorem pick_lt {b : List Int} (hb : Code b) (p n : Int) (h0 : 0 ≤ p) (h1 : p ≤ 1099511627776) (hn : 1 ≤ n) : ∃ v, Ev (fun k => spec_l20Rd_pick.f k b p n) (v, p + 1) ∧ 0 ≤ v ∧ v < n := by
  obtain ⟨v, h, h2, h3, _⟩ := pick_ev hb p n h0 h1
  exact ⟨v, h, h2, h3 hn⟩

theorem one_ev {b : List Int} (hb : Code b) (p : Int) (l : List Int) (h0 : 0 ≤ p) (h1 : p ≤ 1099511627776) (hl : 1 ≤ (l.length : Int)) : ∃ x, x ∈ l ∧ Ev (fun k => spec_l20Rd_one.f k b p l) (x, p + 1) := by
  obtain ⟨v, hv, hv0, hv1⟩ := pick_lt hb p (l.length : Int) h0 h1 hl
  refine ⟨rd l v, rd_mem v hv0 hv1, ?_⟩
  unfold spec_l20Rd_one.f
  exact Ev.bind hv (Ev.ifp hv0 (Ev.ifp hv1 (Ev.now _)))

theorem draw_ev {l : List Int} (h : ∀ x ∈ l, 0 ≤ x ∧ x ≤ 255) : ∃ n, Ev (fun k => spec_DrawVarPut.f k l) n := by
  obtain ⟨b, hb, hc⟩ := open_ev h
  obtain ⟨x, _, hx⟩ := one_ev hc 0 ([0, 1, 127, 128, 300, 16383, 16384, 2097151, 2097152, 2147483647, 2147483648, (-1)] : List Int) (by omega) (by omega) (by decide)
  refine ⟨x, ?_⟩
  unfold spec_DrawVarPut.f
  exact Ev.b hb (Ev.bind hx (Ev.now _))
theorem FnVarPut : laws_FnVarPut.Pure := by
  intro l0 l1 _ _ h0 _ _ h1
  refine Ev.rounds (r := true) ?_
  obtain ⟨n, hn⟩ := draw_ev (wf_bytes h0)
  unfold laws_FnVarPut.f
  by_cases ha : (l0.length : Int) > 1048576
  · refine Ev.ifp ha (Ev.step (f := fun _ => some true) (fun k => ?_) (Ev.now _))
    simp only [laws_FnVarPut.j0]; rw [if_pos trivial]
  refine Ev.ifn ha ?_
  by_cases hm : (l1.length : Int) > 1048576
  · rw [decide_eq_true hm]
    refine (Ev.step (f := fun _ => some true) (fun k => ?_) (Ev.now _))
    simp only [laws_FnVarPut.j0]; rw [if_pos trivial]
  rw [decide_eq_false hm]
  refine Ev.step (f := fun k => (spec_DrawVarPut.f k l0).bind fun t137 => ((impl_VarPut.f k t137).bind fun t138 => ((spec_VarPut.f k t137).bind fun t139 => (if t138.toList = t139.toList then (laws_FnVarPut.j1 k l1 t137 t138 (t138.toList == ([] : List UInt8))) else (laws_FnVarPut.j1 k l1 t137 t138 true))))) (fun k => ?_) ?_
  · simp only [laws_FnVarPut.j0]; rw [if_neg (by simp)]
  refine Ev.bind hn (Ev.bind (implVarPut_ev n) (Ev.bind (specVarPut_ev n) (Ev.ifp rfl ?_)))
  by_cases hr : 0 ≤ n ∧ n ≤ 2147483647
  · have hb := vput_bytes hr.1 hr.2
    have hne : ¬ (vput n).toList = ([] : List UInt8) := by
      rw [toList_nil_iff, hb]
      have := vb_pos n.toNat
      intro hz
      rw [hz] at this
      simp at this
    have hsz : (vput n).size = (vb n.toNat).length := by rw [← bytes_len, hb]
    have h5 := vb_len5 (n := n.toNat) (by omega)
    have hm1 : (strOfNums l1).size = l1.length := str_size l1
    have hlim : (vput n).size + (strOfNums l1).size ≤ 9223372036854775807 := by omega
    rw [show ((vput n).toList == ([] : List UInt8)) = false from beq_eq_false_iff_ne.2 hne]
    have hsb : (vput n ++ strOfNums l1).size ≤ 140737488351232 := by rw [ByteArray.size_append]; omega
    obtain ⟨l, c, hlc⟩ : ∃ l c, vb n.toNat = l ++ [c] := by
      have := vb_pos n.toNat
      exact ⟨_, _, (List.dropLast_concat_getLast (fun hz => by rw [hz] at this; simp at this)).symm⟩
    have hget : vgo (bytesOf (vput n ++ strOfNums l1)) 0 0 = (n, ((vput n).size : Int)) := by
      have hv := vb_last _ _ _ hlc
      have hval : bval (l ++ [c]) = n := by rw [← hlc, vb_bval]; omega
      have hll : (vb n.toNat).length = l.length + 1 := by rw [hlc]; simp
      rw [bytes_append, hb, bytes_str _ (wf_bytes h1), hlc]
      rw [vgo_vb l1 l c 0 0 (vb_init _ _ _ hlc) hv.1 hv.2.1 (fun hz => ⟨rfl, (hv.2.2 hz).2⟩) (by omega) (by rw [hval]; omega), hval]
      congr 1
      · omega
      · omega
    have hg := implVarGet_ev _ hsb
    rw [hget] at hg
    refine Ev.step (f := fun k => (impl_VarGet.f k (vput n ++ strOfNums l1)).bind fun bt141 => (if bt141.1 = n then (if bt141.2 = ((vput n).size : Int) then (some (decide (((vput n).size : Int) ≤ 5))) else (some false)) else (some false))) (fun k => ?_) ?_
    · simp only [laws_FnVarPut.j1]; rw [if_neg (by simp), if_pos hlim]
    · refine Ev.bind hg (Ev.ifp rfl (Ev.ifp rfl ?_))
      rw [decide_eq_true (show ((vput n).size : Int) ≤ 5 by omega)]
      exact Ev.now _
  · have hb := vput_none hr
    have he : (vput n).toList = ([] : List UInt8) := (toList_nil_iff _).2 hb
    rw [show ((vput n).toList == ([] : List UInt8)) = true from beq_iff_eq.2 he]
    refine Ev.step (f := fun k => (spec_VarPut.f k n).bind fun t140 => (if (vput n).toList = t140.toList then (if (vput n).toList = ([] : List UInt8) then (if n < 0 then (some true) else (some (decide (n > 2147483647)))) else (some true)) else (some false))) (fun k => ?_) ?_
    · simp only [laws_FnVarPut.j1]; rw [if_pos trivial]
    · refine Ev.bind (specVarPut_ev n) (Ev.ifp rfl (Ev.ifp he ?_))
      by_cases hz : n < 0
      · exact Ev.ifp hz (Ev.now _)
      · refine Ev.ifn hz ?_
        rw [decide_eq_true (show n > 2147483647 by omega)]
        exact Ev.now _

end Go.Proofs.Ytgefbfahkfilnaa.Pure
