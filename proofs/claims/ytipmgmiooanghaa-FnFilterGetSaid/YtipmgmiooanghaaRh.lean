/- The walk of RiceGet: it comes to what the fuelled function 'get0' says. Conditions: those in each theorem. -/
import Derived.Test.YtipmgmiooanghaaRg
import Derived.Test.YtipmgmiooanghaaRp
import Derived.Test.YtipmgmiooanghaaPl
import Derived.Deep.RegionWith
namespace Go.Proofs.Ytipmgmiooanghaa.Rice
open Go Go.RowKit Go.Proofs.YtipmgmiooanghaaW.PrintWords Go.Proofs.YtipmgmiooanghaaW.PrintLast Go.Proofs.YtipmgmiooanghaaW.PrintMore
set_option linter.unusedVariables false
/-- p and n may be reckoned with. -/
def near (p n : Int) : Prop := 0 ≤ p ∧ p ≤ 100000000 ∧ 0 ≤ n ∧ n ≤ 100000000
instance (p n : Int) : Decidable (near p n) := by unfold near; exact inferInstance
mutual
/-- RiceGet from the head of the loop over the numbers on; 'put' is what RicePut answers. -/
def get0 : Nat → (List Int → Int → ByteArray) → ByteArray → Int → Int → Int → Int → List Int → Option (List Int × Bool)
  | 0, _, _, _, _, _, _, _ => none
  | k + 1, put, s, many, bits, i, p, xs => if xs.length ≤ 40 then (if i < many then get1 k put s many bits i 0 p xs else some (if put xs bits = s then (xs, true) else ([], false))) else none
/-- From the head of the loop over the ones on. -/
def get1 : Nat → (List Int → Int → ByteArray) → ByteArray → Int → Int → Int → Int → Int → List Int → Option (List Int × Bool)
  | 0, _, _, _, _, _, _, _, _ => none
  | k + 1, put, s, many, bits, i, n, p, xs => if near p n then (if bitAt s p = 1 then get1 k put s many bits i (n + 1) (p + 1) xs else get2 k put s many bits i 0 n (p + 1) xs) else none
/-- From the head of the loop over the rest's bits on. -/
def get2 : Nat → (List Int → Int → ByteArray) → ByteArray → Int → Int → Int → Int → Int → Int → List Int → Option (List Int × Bool)
  | 0, _, _, _, _, _, _, _, _, _ => none
  | k + 1, put, s, many, bits, i, j, n, p, xs => if near p n then (if j < bits then get2 k put s many bits i (j + 1) (2 * n + bitAt s p) (p + 1) xs else if n > 60000 then some ([], false) else get0 k put s many bits (i + 1) p (xs ++ [n])) else none
end
theorem and_one_of (x : Int) (h0 : 0 ≤ x) (h1 : x ≤ 255) : Go.bits .and .i64 x 1 = x % 2 := by
  have h : ∀ k : Fin 256, Go.bits .and .i64 ((k.val : Nat) : Int) 1 = ((k.val : Nat) : Int) % 2 := by decide +kernel
  have := h ⟨x.toNat, by omega⟩
  simpa [Int.toNat_of_nonneg h0] using this
theorem bitAt_of (s : ByteArray) (p : Int) (h : p < 8 * (s.size : Int)) : bitAt s p = bt s (p / 8) / 2 ^ (7 - p % 8).toNat % 2 := by
  unfold bitAt
  rw [if_neg (by omega)]
  obtain ⟨hb0, hb1⟩ := bt_range s (p / 8)
  refine and_one_of _ (Int.ediv_nonneg hb0 (Int.pow_nonneg (by omega))) ?_
  exact Int.le_trans (Int.ediv_le_self _ hb0) (by omega)
theorem bitAt_range (s : ByteArray) (p : Int) : 0 ≤ bitAt s p ∧ bitAt s p ≤ 1 := by
  by_cases h : p < 8 * (s.size : Int)
  · rw [bitAt_of s p h]; omega
  · unfold bitAt; rw [if_pos (by omega)]; omega
/-- What RiceGet holds in memory. -/
structure Rd (W w' : World) (s : ByteArray) (p : Int) (v : Value) (xs : List Int) : Prop where
  sb : w'.heap[W.heap.size]? = some (.cells #[.string s] 9 (0, 0))
  ab : w'.heap[W.heap.size + 1]? = some (.cells #[.int .i64 p] 3 (0, 0))
  row : Kd.R (Kd.int .i64) 3 w' (W.heap.size + 2) (fun _ => True) v xs
  below : Below W.heap.size W w'
theorem Rd.next {W w1 w2 : World} {s : ByteArray} {p q : Int} {v : Value} {xs : List Int} (h : Rd W w1 s p v xs) (ha : w2.heap[W.heap.size + 1]? = some (.cells #[.int .i64 q] 3 (0, 0))) (hk : KeepBut w1 w2 (W.heap.size + 1) none) (hb : Below W.heap.size w1 w2) : Rd W w2 s q v xs :=
  ⟨hk.blk h.sb (by omega) (by simp), ha, Kd.R_mono (Kd.R_keep (Kd.R_bound h.row) hk (fun k hk => by have := hk.2.1; omega)) (fun _ _ => trivial), h.below.trans hb⟩
theorem rd_new (w : World) (s : ByteArray) : Rd w ((w.alloc (.cells #[.string s] 9)).alloc (.cells #[.int .i64 0] 3)) s 0 (.slice none 0 0) [] :=
  ⟨by
    have h := heap_alloc_old (w.alloc (.cells #[.string s] 9)) (.cells #[.int .i64 0] 3) (r := w.heap.size) (by show w.heap.size < (w.heap.push _).size; simp)
    rw [h]; exact heap_alloc_new w _, by
    have h := heap_alloc_new (w.alloc (.cells #[.string s] 9)) (.cells #[.int .i64 0] 3)
    have e : (w.alloc (.cells #[.string s] 9)).heap.size = w.heap.size + 1 := by show (w.heap.push _).size = _; simp
    rwa [e] at h, Kd.R_nil _ _ _ _ _, below_alloc (below_alloc (Below.refl _ _) _) _⟩
theorem Rd.app {W w1 w2 : World} {s : ByteArray} {p : Int} {v v2 : Value} {xs ys : List Int} (h : Rd W w1 s p v xs) (hr : Kd.R (Kd.int .i64) 3 w2 (W.heap.size + 2) (fun _ => True) v2 ys) (hb : Below (W.heap.size + 2) w1 w2) : Rd W w2 s p v2 ys :=
  ⟨(hb.block _ (by omega)).trans h.sb, (hb.block _ (by omega)).trans h.ab, hr, h.below.trans (Below.mono hb (by omega))⟩
theorem Rd.size {W w1 : World} {s : ByteArray} {p : Int} {v : Value} {xs : List Int} (h : Rd W w1 s p v xs) : W.heap.size + 2 ≤ w1.heap.size := by
  have := blk_lt h.ab; omega
theorem str_inj {a b : ByteArray} (h : a.toList = b.toList) : a = b := by
  exact (Go.Proofs.Ytipmgmiooanghaa.Pl.toList_iff' a b).1 h
/-- What a call of RicePut answers. -/
def PutIs (put : List Int → Int → ByteArray) : Prop := ∀ (A0 : Option Addr) (c0 : Nat) (xs : List Int) (b : Int) (w : World), Kd.C (Kd.int .i64) w A0 xs.length xs → xs.length ≤ c0 → xs.length ≤ 40 → 0 ≤ b → b ≤ 8 → Calls Try.prog 12 #[.slice A0 xs.length c0, .int .i64 b] w fun e w' => e = .returned (.string (put xs b)) ∧ Below w.heap.size w w'
set_option maxHeartbeats 8000000 in
set_option maxRecDepth 100000 in
theorem get_calls (k : Nat) (put : List Int → Int → ByteArray) (hput : PutIs put) (s : ByteArray) (many bits : Int) (r : List Int × Bool) (w : World) (hm0 : 0 ≤ many) (hm1 : many ≤ 40) (hb0 : 0 ≤ bits) (hb8 : bits ≤ 8) (hs : s.size ≤ 600)
    (h : get0 k put s many bits 0 0 [] = some r) :
    Calls Try.prog 15 #[.string s, .int .i64 many, .int .i64 bits] w fun e w' => (∃ v, e = .returned (.tuple #[v, .bool r.2]) ∧ Kd.R (Kd.int .i64) 3 w' w.heap.size (fun _ => True) v r.1) ∧ Below w.heap.size w w' := by
  have HP := Aside0.mk hput
  have H' := Aside0.mk h
  have hls : decide (600 < (s.size : Int)) = false := decide_eq_false (by omega)
  clear h hput
  go_enter Try.func15, Try.ntmps15
  go_wp2_with fail
  go_at_call 31
  refine (in_yes ⟨hm0, hm1⟩ _).mono ?_
  rintro e w' ⟨rfl, rfl⟩
  go_wp2_with fail
  go_at_call 31
  refine (in_yes ⟨hb0, hb8⟩ _).mono ?_
  rintro e w' ⟨rfl, rfl⟩
  go_wp2_with fail
  clear hls
  go_loopg [10, 11] k (fun kq v10 v11 w' => ∃ (v : Value) (i p : Int) (xs : List Int), v = v10 ∧ v11 = .int .i64 i ∧ 0 ≤ i ∧ Aside0 (get0 kq put s many bits i p xs = some r) ∧ Aside0 (kq ≤ k) ∧ Aside0 (Rd w w' s p v xs))
  case atStart => exact ⟨_, 0, 0, [], rfl, rfl, by omega, H', ⟨Nat.le_refl _⟩, ⟨rd_new w s⟩⟩
  case round =>
    clear H'
    obtain ⟨v10, i, p, xs, rfl, rfl, hi0, HA, HK1, HR⟩ := hrel
    cases gk with
    | zero => exact absurd HA.out (by simp [get0])
    | succ k1 =>
      have H := HA.out
      clear HA
      simp only [get0] at H
      by_cases c1 : xs.length ≤ 40
      · rw [if_pos c1] at H
        by_cases c2 : i < many
        · rw [if_pos c2] at H
          have c2b : decide (i < many) = true := decide_eq_true c2
          have H' := Aside0.mk H
          clear H
          go_wp2_with fail
          clear c2b
          have HM0 := Aside0.mk (show xs.length ≤ 40 ∧ i ≤ 40 from ⟨c1, by omega⟩)
          have hi40 : i ≤ 40 := by omega
          clear c1 c2
          go_loopg [12] k1 (fun kq v12 w' => ∃ (n p : Int), v12 = .int .i64 n ∧ Aside0 (get1 kq put s many bits i n p xs = some r) ∧ Aside0 (kq ≤ k1) ∧ Aside0 (Rd w w' s p v10 xs))
          case atStart => exact ⟨0, p, rfl, H', ⟨Nat.le_refl _⟩, HR⟩
          case round =>
            clear H' HR
            obtain ⟨n, p, rfl, HA, HK2, HR⟩ := hrel
            cases gk with
            | zero => exact absurd HA.out (by simp [get1])
            | succ k2 =>
              have H := HA.out
              clear HA
              simp only [get1] at H
              by_cases c1 : near p n
              · rw [if_pos c1] at H
                have N1 := Aside0.mk c1
                have hn0 : 0 ≤ n := c1.2.2.1
                have hn1 : n ≤ 100000000 := c1.2.2.2
                clear c1
                have hbr := bitAt_range s p
                by_cases c2 : bitAt s p = 1
                · rw [if_pos c2] at H
                  have c2b : (bitAt s p == 1) = true := beq_iff_eq.2 c2
                  have H' := Aside0.mk H
                  clear H c2 hbr
                  go_wp2_with (first | (go_at_call 36; refine (next_any _ w.heap.size (w.heap.size + 1) w.heap.size p s HR.out.ab HR.out.sb (by omega) N1.out.1 (by have := N1.out.2.1; omega) hs).mono ?_; rintro e w2 ⟨rfl, hA2, hK2, hB2⟩; have HR2 := Aside0.mk (HR.out.next hA2 hK2 hB2); clear hA2 hK2 hB2))
                  go_roundg k2
                  case measure => have := HK1.out; have := HK2.out; omega
                  case rel => exact ⟨n + 1, p + 1, rfl, H', ⟨by have := HK2.out; omega⟩, HR2⟩
                · rw [if_neg c2] at H
                  have c2b : (bitAt s p == 1) = false := beq_eq_false_iff_ne.2 c2
                  have H' := Aside0.mk H
                  clear H c2 hbr
                  go_wp2_with (first | (go_at_call 36; refine (next_any _ w.heap.size (w.heap.size + 1) w.heap.size p s HR.out.ab HR.out.sb (by omega) N1.out.1 (by have := N1.out.2.1; omega) hs).mono ?_; rintro e w2 ⟨rfl, hA2, hK2, hB2⟩; have HR2 := Aside0.mk (HR.out.next hA2 hK2 hB2); clear hA2 hK2 hB2))
                  clear c2b hn0 hn1 N1
                  go_loopg [12, 13] k2 (fun kq v12 v13 w' => ∃ (n j p : Int), v12 = .int .i64 n ∧ v13 = .int .i64 j ∧ 0 ≤ j ∧ Aside0 (get2 kq put s many bits i j n p xs = some r) ∧ Aside0 (kq ≤ k2) ∧ Aside0 (Rd w w' s p v10 xs))
                  case atStart => exact ⟨n, 0, p + 1, rfl, rfl, by omega, H', ⟨Nat.le_refl _⟩, HR2⟩
                  case round =>
                    clear H' HR2 HR
                    obtain ⟨n, j, p, rfl, rfl, hj0, HA, HK3, HR⟩ := hrel
                    cases gk with
                    | zero => exact absurd HA.out (by simp [get2])
                    | succ k3 =>
                      have H := HA.out
                      clear HA
                      simp only [get2] at H
                      by_cases c1 : near p n
                      · rw [if_pos c1] at H
                        have N1 := Aside0.mk c1
                        have hn0 : 0 ≤ n := c1.2.2.1
                        have hn1 : n ≤ 100000000 := c1.2.2.2
                        clear c1
                        have hbr := bitAt_range s p
                        by_cases c2 : j < bits
                        · rw [if_pos c2] at H
                          have c2b : decide (j < bits) = true := decide_eq_true c2
                          have H' := Aside0.mk H
                          have hj8 : j ≤ 8 := by omega
                          obtain ⟨hx0, hx1⟩ := hbr
                          clear H c2
                          go_wp2_with (first | (go_at_call 36; refine (next_any _ w.heap.size (w.heap.size + 1) w.heap.size p s HR.out.ab HR.out.sb (by omega) N1.out.1 (by have := N1.out.2.1; omega) hs).mono ?_; rintro e w2 ⟨rfl, hA2, hK2, hB2⟩; have HR2 := Aside0.mk (HR.out.next hA2 hK2 hB2); clear hA2 hK2 hB2))
                          go_roundg k3
                          case measure => have := HK1.out; have := HK2.out; have := HK3.out; omega
                          case rel => exact ⟨_, j + 1, p + 1, rfl, rfl, by omega, H', ⟨by have := HK3.out; omega⟩, HR2⟩
                        · rw [if_neg c2] at H
                          have c2b : decide (j < bits) = false := decide_eq_false c2
                          by_cases c3 : n > 60000
                          · rw [if_pos c3] at H
                            obtain rfl := Option.some.inj H
                            have c3b : decide (60000 < n) = true := decide_eq_true c3
                            go_wp2_with fail
                            go_ret2
                            exact ⟨⟨_, rfl, Kd.R_nil _ _ _ _ _⟩, HR.out.below⟩
                          · rw [if_neg c3] at H
                            have c3b : decide (60000 < n) = false := decide_eq_false c3
                            have H' := Aside0.mk H
                            clear H
                            obtain ⟨A1, C1, e, hl1, hC1⟩ := Kd.R_reads HR.out.row
                            subst e
                            clear hC1
                            go_wp2_with (first | ((with_reducible refine gate_builtin (b := .append) (xs := #[.tmp 50, .tmp 52]) rfl ?_); at_builtin; refine Kd.R_append (Kd.int .i64) (w0 := wr) (w.heap.size + 2) rfl (.tmp 50) (.tmp 52) 22 3 (.int .i64 0) 8 rfl Try.underlying22 info3 rfl (by decide) (by omega) (.slice A1 xs.length C1) xs n [.int .i64 n] (fun _ => True) (fun _ => False) rfl rfl ?aP (fun _ hk => hk.elim) ?aF ?aO ?aB ?aS ?aL ?_; (case aP => exact rfl); (case aF => exact fun _ _ => trivial); (case aO => exact HR.out.row); (case aB => exact Below.refl _ _); (case aS => exact HR.out.size); (case aL => have := HM0.out; omega); intro v1 w1 HR1 HB1 HG1 HW1; have HR1a := Aside0.mk (HR.out.app HR1 HB1); clear HR1 HB1 HG1 HW1))
                            go_roundg k3
                            case measure => have := HK1.out; have := HK2.out; have := HK3.out; omega
                            case rel => exact ⟨_, i + 1, p, _, rfl, rfl, by omega, H', ⟨by have := HK1.out; have := HK2.out; have := HK3.out; omega⟩, HR1a⟩
                      · rw [if_neg c1] at H
                        exact absurd H (by simp)
              · rw [if_neg c1] at H
                exact absurd H (by simp)
        · rw [if_neg c2] at H
          have c2b : decide (i < many) = false := decide_eq_false c2
          obtain ⟨A1, C1, e, hl1, hC1⟩ := Kd.R_reads HR.out.row
          subst e
          have hcs : wr.cell? ⟨w.heap.size, 0, none⟩ = some (.string s) := (one_cell HR.out.sb).1
          go_wp2_with fail
          clear c2b c2
          have HCw := Aside0.mk hC1
          have HC := Aside0.mk (Kd.C_below hC1 (below_drew (Below.refl wr.heap.size wr)))
          have HS := Aside0.mk hcs
          clear hC1
          by_cases c3 : put xs bits = s
          · rw [if_pos c3] at H
            obtain rfl := Option.some.inj H
            have c3b : ((put xs bits).toList == s.toList) = true := by rw [c3]; exact beq_self_eq_true _
            clear c3
            go_region_with (go_at_call 12; refine (HP.out A1 C1 xs bits wr.drew HC.out hl1 c1 hb0 hb8).mono ?_; rintro e w2 ⟨rfl, hB2⟩; have HB2 := Aside0.mk (show Below wr.heap.size wr w2 from (below_drew (Below.refl wr.heap.size wr)).trans hB2); have hcs2 := pw_cell_below HB2.out HS.out; clear hB2 hcs)
            all_goals
              clear hcs2
              rename_i w3 w2
              go_wp2_with (first | (go_at_call 37; refine (copied_any A1 C1 xs _ (Kd.C_below HCw.out HB2.out) hl1 (by omega)).mono ?_; rintro e w4 ⟨v4, rfl, hR4, hB4⟩; have HR4 := Aside0.mk hR4; have HB4 := Aside0.mk hB4; clear hR4 hB4))
              go_ret2
              exact ⟨⟨v4, rfl, Kd.R_lower HR4.out ((HR.out.below.trans (Below.mono HB2.out HR.out.below.size)).size)⟩, (HR.out.below.trans (Below.mono HB2.out HR.out.below.size)).trans (Below.mono HB4.out (HR.out.below.trans (Below.mono HB2.out HR.out.below.size)).size)⟩
          · rw [if_neg c3] at H
            obtain rfl := Option.some.inj H
            have c3b : ((put xs bits).toList == s.toList) = false := beq_eq_false_iff_ne.2 fun e => c3 (str_inj e)
            clear c3
            go_region_with (go_at_call 12; refine (HP.out A1 C1 xs bits wr.drew HC.out hl1 c1 hb0 hb8).mono ?_; rintro e w2 ⟨rfl, hB2⟩; have HB2 := Aside0.mk (show Below wr.heap.size wr w2 from (below_drew (Below.refl wr.heap.size wr)).trans hB2); have hcs2 := pw_cell_below HB2.out HS.out; clear hB2 hcs)
            all_goals
              clear hcs2
              rename_i w3 w2
              go_wp2_with fail
              go_ret2
              exact ⟨⟨_, rfl, Kd.R_nil _ _ _ _ _⟩, HR.out.below.trans (Below.mono HB2.out HR.out.below.size)⟩
      · rw [if_neg c1] at H
        exact absurd H (by simp)
/-- RiceGet, where it does not read. -/
theorem get_not (s : ByteArray) (many bits : Int) (w : World) (h : ¬ (0 ≤ many ∧ many ≤ 40 ∧ 0 ≤ bits ∧ bits ≤ 8 ∧ s.size ≤ 600)) (hs : s.size ≤ 1000000000) :
    Calls Try.prog 15 #[.string s, .int .i64 many, .int .i64 bits] w fun e w' => (∃ v, e = .returned (.tuple #[v, .bool false]) ∧ Kd.R (Kd.int .i64) 3 w' w.heap.size (fun _ => True) v []) ∧ Below w.heap.size w w' := by
  by_cases h1 : 0 ≤ many ∧ many ≤ 40
  · by_cases h2 : 0 ≤ bits ∧ bits ≤ 8
    · have hls : decide (600 < (s.size : Int)) = true := decide_eq_true (by omega)
      have H1 := Aside0.mk h1
      have H2 := Aside0.mk h2
      clear h h1 h2
      go_enter Try.func15, Try.ntmps15
      go_wp2_with fail
      go_at_call 31
      refine (in_yes H1.out _).mono ?_
      rintro e w' ⟨rfl, rfl⟩
      go_wp2_with fail
      go_at_call 31
      refine (in_yes H2.out _).mono ?_
      rintro e w' ⟨rfl, rfl⟩
      go_wp2_with fail
      go_ret2
      exact ⟨⟨_, rfl, Kd.R_nil _ _ _ _ _⟩, below_alloc (Below.refl _ _) _⟩
    · have H1 := Aside0.mk h1
      have H2 := Aside0.mk h2
      clear h h1 h2
      go_enter Try.func15, Try.ntmps15
      go_wp2_with fail
      go_at_call 31
      refine (in_yes H1.out _).mono ?_
      rintro e w' ⟨rfl, rfl⟩
      go_wp2_with fail
      go_at_call 31
      refine (in_no H2.out _).mono ?_
      rintro e w' ⟨rfl, rfl⟩
      go_wp2_with fail
      go_ret2
      exact ⟨⟨_, rfl, Kd.R_nil _ _ _ _ _⟩, below_alloc (Below.refl _ _) _⟩
  · have H1 := Aside0.mk h1
    clear h h1
    go_enter Try.func15, Try.ntmps15
    go_wp2_with fail
    go_at_call 31
    refine (in_no H1.out _).mono ?_
    rintro e w' ⟨rfl, rfl⟩
    go_wp2_with fail
    go_ret2
    exact ⟨⟨_, rfl, Kd.R_nil _ _ _ _ _⟩, below_alloc (Below.refl _ _) _⟩
end Go.Proofs.Ytipmgmiooanghaa.Rice
