/- Functions of the program and what each answers: the kit's print, shortened (wip/squeeze.py). -/
import Derived.Test.YtgjljbaadglpnaaDoorPFnExactPaidPutx0
import Derived.Test.YtgjljbaadglpnaaDoorPFnExactPaidPutx9
namespace Go.Proofs.YtgjljbaadglpnaaDoor.PFnExactPaidPut
open Go.Proofs.YtgjljbaadglpnaaDoor.Sq Go.RowKit Go.Proofs.YtgjljbaadglpnaaDoorW.PrintWords Go.Proofs.YtgjljbaadglpnaaDoorW.PrintLast Go.Proofs.YtgjljbaadglpnaaDoorW.PrintMore
attribute [local go_sem] max2_int min2_int max_two min_two max_three min_three max_four min_four   -- for this text's walks alone
set_option linter.unusedVariables false
set_option linter.unusedSimpArgs false

/-! ### impl_peaksPut: function 52 -/
def impl_peaksPut.l0 : Nat → ByteArray → List (S93) → Int → Int → Option (ByteArray)
 | 0, _, _, _, _ => none
 | k + 1, x5, x9, x10, x11 => if x11 < x10 then (if 0 ≤ x11 then (if x11 < (x9.length : Int) then (if 1 + ((rd_T93 x9 x11).f0).size ≤ 9223372036854775807 then (if ((⟨#[32]⟩ : ByteArray) ++ ((rd_T93 x9 x11).f0)).size + 1 ≤ 9223372036854775807 then ((strconv_Itoa_46.f ((rd_T93 x9 x11).f1)).bind fun t275 => (if (((⟨#[32]⟩ : ByteArray) ++ ((rd_T93 x9 x11).f0)) ++ (⟨#[58]⟩ : ByteArray)).size + t275.size ≤ 9223372036854775807 then (if ((((⟨#[32]⟩ : ByteArray) ++ ((rd_T93 x9 x11).f0)) ++ (⟨#[58]⟩ : ByteArray)) ++ t275).size + 1 ≤ 9223372036854775807 then ((strconv_Itoa_46.f ((rd_T93 x9 x11).f2)).bind fun t276 => (if (((((⟨#[32]⟩ : ByteArray) ++ ((rd_T93 x9 x11).f0)) ++ (⟨#[58]⟩ : ByteArray)) ++ t275) ++ (⟨#[58]⟩ : ByteArray)).size + t276.size ≤ 9223372036854775807 then (if x5.size + ((((((⟨#[32]⟩ : ByteArray) ++ ((rd_T93 x9 x11).f0)) ++ (⟨#[58]⟩ : ByteArray)) ++ t275) ++ (⟨#[58]⟩ : ByteArray)) ++ t276).size ≤ 9223372036854775807 then (impl_peaksPut.l0 k (x5 ++ ((((((⟨#[32]⟩ : ByteArray) ++ ((rd_T93 x9 x11).f0)) ++ (⟨#[58]⟩ : ByteArray)) ++ t275) ++ (⟨#[58]⟩ : ByteArray)) ++ t276)) x9 x10 (wrap64 (x11 + 1))) else (none)) else (none))) else (none)) else (none))) else (none)) else (none)) else (none)) else (none)) else (if x5.size + 1 ≤ 9223372036854775807 then (some (x5 ++ (⟨#[10]⟩ : ByteArray))) else (none))
def impl_peaksPut.f (k : Nat) (a0 : ByteArray) (l1 : List (S93)) : Option (ByteArray) := impl_peaksPut.l0 k a0 l1 (l1.length : Int) 0
theorem impl_peaksPut.mono_l : ∀ k, (∀ y0 y1 y2 y3, LeO (impl_peaksPut.l0 k y0 y1 y2 y3) (impl_peaksPut.l0 (k + 1) y0 y1 y2 y3))
 | 0 => fun _ _ _ _ r h => by simp [impl_peaksPut.l0] at h
 | k + 1 => by
  have ih0 := impl_peaksPut.mono_l k
  ·intro y0 y1 y2 y3
   unfold impl_peaksPut.l0
   repeat' first
   | (with_reducible exact ih0 _ _ _ _)
   | (with_reducible exact LeO.refl _)
   | (with_reducible exact LeO.none _)
   | (with_reducible refine LeO.ite ?_ ?_)
   | (with_reducible refine LeO.bind ?_ (fun _ => ?_))
   | exact ih0 _ _ _ _
   | exact LeO.none _
   | refine LeO.ite ?_ ?_
   | refine LeO.bind ?_ (fun _ => ?_)
theorem impl_peaksPut.mono : ∀ a0 a1 k, LeO (impl_peaksPut.f k a0 a1) (impl_peaksPut.f (k + 1) a0 a1) := by
 intro a0 a1 k
 have ih0 := impl_peaksPut.mono_l k
 unfold impl_peaksPut.f
 repeat' first
   | (with_reducible exact ih0 _ _ _ _)
   | (with_reducible exact LeO.refl _)
   | (with_reducible exact LeO.none _)
   | (with_reducible refine LeO.ite ?_ ?_)
   | (with_reducible refine LeO.bind ?_ (fun _ => ?_))
   | exact ih0 _ _ _ _
   | exact LeO.none _
   | refine LeO.ite ?_ ?_
   | refine LeO.bind ?_ (fun _ => ?_)
def impl_peaksPut.T5 : Bool × List (List Nat × List Nat) := (true, [([], []), ([], []), ([1], [1]), ([2], [2]), ([3], [3]), ([], []), ([5], [5]), ([6], [6]), ([4, 7], [4, 7]), ([8], [8]), ([], []), ([10], [10]), ([11, 7], [11]), ([9, 12], [9, 12]), ([0, 13], [0, 13]), ([14, 12, 0, 1, 2, 3, 4, 5, 6, 7, 8, 9, 10, 11, 12, 13, 14], [0, 14])])
def impl_peaksPut.B5 : List Nat := [0, 0, 2, 6, 14, 0, 32, 96, 254, 510, 0, 1024, 3296, 8190, 16383, 32767]
theorem impl_peaksPut.tab5 : rtab .any (opsOf Tryd.f52 5) = impl_peaksPut.T5 := by kernel_rfl
theorem impl_peaksPut.bits5 : waitsOk impl_peaksPut.T5.2 impl_peaksPut.B5 = true := by kernel_rfl
set_option maxHeartbeats 8000000 in
set_option maxRecDepth 100000 in
theorem impl_peaksPut.calls (k : Nat) (a0 : ByteArray) (A1 : Option Addr) (c1 : Nat) (l1 : List (S93)) (r : ByteArray) (w : World) (hr1 : Kd.C k93 w A1 l1.length l1) (hc1 : l1.length ≤ c1) (h : impl_peaksPut.f k a0 l1 = some r) (PQT_ : Aside0 (Go.Proofs.YtgjljbaadglpnaaDoor.Sh.HasT w)) :
  Calls Tryd.prog 52 #[.string a0, .slice A1 l1.length c1] w fun e w' => e = .returned (.string r) ∧ Below w.heap.size w w' := by
 have hu93 := Tryd.underlying93
 have HR1 := Aside0.mk hr1
 have HC1 := Aside0.mk hc1
 clear hr1 hc1
 have HB := Aside0.mk (Below.refl w.heap.size w)
 have H : (impl_peaksPut.l0 k a0 l1 (l1.length : Int) 0) = some r := h
 clear h
 have H' := Aside0.mk H
 clear H
 go_enter Tryd.func52, Tryd.ntmps52
 go_wp2
 go_loopg [5, 11] k (fun kq v5 v11 w' => ∃ (x5_1 : ByteArray) (x11_1 : Int), v5 = .string x5_1 ∧ v11 = .int .i64 x11_1 ∧ Aside0 (impl_peaksPut.l0 kq x5_1 l1 (l1.length : Int) x11_1 = some r) ∧ Aside0 (kq ≤ k) ∧ Aside0 (Below w.heap.size w w'))
 case atStart => exact ⟨(a0), (0), (by first | rfl | (simp; done) | (simp [*]; done)), (by first | rfl | (simp; done) | (simp [*]; done)), H', ⟨Nat.le_refl _⟩, ⟨bl HB⟩⟩
 case round =>
  clear H'
  try clear c1
  try clear p2
  obtain ⟨x5_1, x11_1, rfl, rfl, HA, HK1, HB⟩ := hrel
  cases gk with
  | zero => exact absurd HA.out (by simp [impl_peaksPut.l0])
  | succ k1 =>
   have H := HA.out
   clear HA
   simp only [impl_peaksPut.l0] at H
   by_cases c3 : x11_1 < (l1.length : Int)
   ·rw [if_pos c3] at H
    have c3b0 : decide (x11_1 < (l1.length : Int)) = true := decide_eq_true c3
    clear c3
    by_cases c4 : 0 ≤ x11_1
    ·rw [if_pos c4] at H
     have c4b0 : decide (0 ≤ x11_1) = true := decide_eq_true c4
     clear c4
     by_cases c5 : x11_1 < (l1.length : Int)
     ·rw [if_pos c5] at H
      have c5b0 : decide (x11_1 < (l1.length : Int)) = true := decide_eq_true c5
      clear c5
      by_cases c6 : 1 + ((rd_T93 l1 x11_1).f0).size ≤ 9223372036854775807
      ·rw [if_pos c6] at H
       have c6b0 := eq_true c6
       have c6b1 : decide (1 + ((rd_T93 l1 x11_1).f0).size ≤ 9223372036854775807) = true := decide_eq_true c6
       try have c6b2 : (9223372036854775807 < 1 + ((rd_T93 l1 x11_1).f0).size) = False := eq_false (Nat.not_lt.2 c6)
       by_cases c7 : ((⟨#[32]⟩ : ByteArray) ++ ((rd_T93 l1 x11_1).f0)).size + 1 ≤ 9223372036854775807
       ·rw [if_pos c7] at H
        have c7b0 := eq_true c7
        have c7b1 : decide (((⟨#[32]⟩ : ByteArray) ++ ((rd_T93 l1 x11_1).f0)).size + 1 ≤ 9223372036854775807) = true := decide_eq_true c7
        try have c7b2 : (9223372036854775807 < ((⟨#[32]⟩ : ByteArray) ++ ((rd_T93 l1 x11_1).f0)).size + 1) = False := eq_false (Nat.not_lt.2 c7)
        try (have c7b3 := c7b2; simp only [ByteArray.size_append, show (⟨#[32]⟩ : ByteArray).size = 1 from rfl] at c7b3)
        replace H := Option.bind_eq_some_iff.mp H
        obtain ⟨t275, A80, H⟩ := H
        replace H : (if (((⟨#[32]⟩ : ByteArray) ++ ((rd_T93 l1 x11_1).f0)) ++ (⟨#[58]⟩ : ByteArray)).size + t275.size ≤ 9223372036854775807 then (if ((((⟨#[32]⟩ : ByteArray) ++ ((rd_T93 l1 x11_1).f0)) ++ (⟨#[58]⟩ : ByteArray)) ++ t275).size + 1 ≤ 9223372036854775807 then ((strconv_Itoa_46.f ((rd_T93 l1 x11_1).f2)).bind fun t276 => (if (((((⟨#[32]⟩ : ByteArray) ++ ((rd_T93 l1 x11_1).f0)) ++ (⟨#[58]⟩ : ByteArray)) ++ t275) ++ (⟨#[58]⟩ : ByteArray)).size + t276.size ≤ 9223372036854775807 then (if x5_1.size + ((((((⟨#[32]⟩ : ByteArray) ++ ((rd_T93 l1 x11_1).f0)) ++ (⟨#[58]⟩ : ByteArray)) ++ t275) ++ (⟨#[58]⟩ : ByteArray)) ++ t276).size ≤ 9223372036854775807 then (impl_peaksPut.l0 k1 (x5_1 ++ ((((((⟨#[32]⟩ : ByteArray) ++ ((rd_T93 l1 x11_1).f0)) ++ (⟨#[58]⟩ : ByteArray)) ++ t275) ++ (⟨#[58]⟩ : ByteArray)) ++ t276)) l1 (l1.length : Int) (wrap64 (x11_1 + 1))) else (none)) else (none))) else (none)) else (none)) = some r := H
        have A8 := Aside0.mk A80
        clear A80
        by_cases c9 : (((⟨#[32]⟩ : ByteArray) ++ ((rd_T93 l1 x11_1).f0)) ++ (⟨#[58]⟩ : ByteArray)).size + t275.size ≤ 9223372036854775807
        ·rw [if_pos c9] at H
         have c9b0 := eq_true c9
         have c9b1 : decide ((((⟨#[32]⟩ : ByteArray) ++ ((rd_T93 l1 x11_1).f0)) ++ (⟨#[58]⟩ : ByteArray)).size + t275.size ≤ 9223372036854775807) = true := decide_eq_true c9
         try have c9b2 : (9223372036854775807 < (((⟨#[32]⟩ : ByteArray) ++ ((rd_T93 l1 x11_1).f0)) ++ (⟨#[58]⟩ : ByteArray)).size + t275.size) = False := eq_false (Nat.not_lt.2 c9)
         try (have c9b3 := c9b2; simp only [ByteArray.size_append, show (⟨#[32]⟩ : ByteArray).size = 1 from rfl, show (⟨#[58]⟩ : ByteArray).size = 1 from rfl] at c9b3)
         by_cases c10 : ((((⟨#[32]⟩ : ByteArray) ++ ((rd_T93 l1 x11_1).f0)) ++ (⟨#[58]⟩ : ByteArray)) ++ t275).size + 1 ≤ 9223372036854775807
         ·rw [if_pos c10] at H
          have c10b0 := eq_true c10
          have c10b1 : decide (((((⟨#[32]⟩ : ByteArray) ++ ((rd_T93 l1 x11_1).f0)) ++ (⟨#[58]⟩ : ByteArray)) ++ t275).size + 1 ≤ 9223372036854775807) = true := decide_eq_true c10
          try have c10b2 : (9223372036854775807 < ((((⟨#[32]⟩ : ByteArray) ++ ((rd_T93 l1 x11_1).f0)) ++ (⟨#[58]⟩ : ByteArray)) ++ t275).size + 1) = False := eq_false (Nat.not_lt.2 c10)
          try (have c10b3 := c10b2; simp only [ByteArray.size_append, show (⟨#[32]⟩ : ByteArray).size = 1 from rfl, show (⟨#[58]⟩ : ByteArray).size = 1 from rfl] at c10b3)
          replace H := Option.bind_eq_some_iff.mp H
          obtain ⟨t276, A110, H⟩ := H
          replace H : (if (((((⟨#[32]⟩ : ByteArray) ++ ((rd_T93 l1 x11_1).f0)) ++ (⟨#[58]⟩ : ByteArray)) ++ t275) ++ (⟨#[58]⟩ : ByteArray)).size + t276.size ≤ 9223372036854775807 then (if x5_1.size + ((((((⟨#[32]⟩ : ByteArray) ++ ((rd_T93 l1 x11_1).f0)) ++ (⟨#[58]⟩ : ByteArray)) ++ t275) ++ (⟨#[58]⟩ : ByteArray)) ++ t276).size ≤ 9223372036854775807 then (impl_peaksPut.l0 k1 (x5_1 ++ ((((((⟨#[32]⟩ : ByteArray) ++ ((rd_T93 l1 x11_1).f0)) ++ (⟨#[58]⟩ : ByteArray)) ++ t275) ++ (⟨#[58]⟩ : ByteArray)) ++ t276)) l1 (l1.length : Int) (wrap64 (x11_1 + 1))) else (none)) else (none)) = some r := H
          have A11 := Aside0.mk A110
          clear A110
          by_cases c12 : (((((⟨#[32]⟩ : ByteArray) ++ ((rd_T93 l1 x11_1).f0)) ++ (⟨#[58]⟩ : ByteArray)) ++ t275) ++ (⟨#[58]⟩ : ByteArray)).size + t276.size ≤ 9223372036854775807
          ·rw [if_pos c12] at H
           have c12b0 := eq_true c12
           have c12b1 : decide ((((((⟨#[32]⟩ : ByteArray) ++ ((rd_T93 l1 x11_1).f0)) ++ (⟨#[58]⟩ : ByteArray)) ++ t275) ++ (⟨#[58]⟩ : ByteArray)).size + t276.size ≤ 9223372036854775807) = true := decide_eq_true c12
           try have c12b2 : (9223372036854775807 < (((((⟨#[32]⟩ : ByteArray) ++ ((rd_T93 l1 x11_1).f0)) ++ (⟨#[58]⟩ : ByteArray)) ++ t275) ++ (⟨#[58]⟩ : ByteArray)).size + t276.size) = False := eq_false (Nat.not_lt.2 c12)
           try (have c12b3 := c12b2; simp only [ByteArray.size_append, show (⟨#[32]⟩ : ByteArray).size = 1 from rfl, show (⟨#[58]⟩ : ByteArray).size = 1 from rfl] at c12b3)
           by_cases c13 : x5_1.size + ((((((⟨#[32]⟩ : ByteArray) ++ ((rd_T93 l1 x11_1).f0)) ++ (⟨#[58]⟩ : ByteArray)) ++ t275) ++ (⟨#[58]⟩ : ByteArray)) ++ t276).size ≤ 9223372036854775807
           ·rw [if_pos c13] at H
            have c13b0 := eq_true c13
            have c13b1 : decide (x5_1.size + ((((((⟨#[32]⟩ : ByteArray) ++ ((rd_T93 l1 x11_1).f0)) ++ (⟨#[58]⟩ : ByteArray)) ++ t275) ++ (⟨#[58]⟩ : ByteArray)) ++ t276).size ≤ 9223372036854775807) = true := decide_eq_true c13
            try have c13b2 : (9223372036854775807 < x5_1.size + ((((((⟨#[32]⟩ : ByteArray) ++ ((rd_T93 l1 x11_1).f0)) ++ (⟨#[58]⟩ : ByteArray)) ++ t275) ++ (⟨#[58]⟩ : ByteArray)) ++ t276).size) = False := eq_false (Nat.not_lt.2 c13)
            try (have c13b3 := c13b2; simp only [ByteArray.size_append, show (⟨#[32]⟩ : ByteArray).size = 1 from rfl, show (⟨#[58]⟩ : ByteArray).size = 1 from rfl] at c13b3)
            have H' := Aside0.mk H
            clear H
            have p273 : 0 ≤ (x11_1 : Int) := of_decide_eq_true (by first | (with_reducible assumption) | assumption)
            have q273 : x11_1 < (l1.length : Int) := of_decide_eq_true (by first | (with_reducible assumption) | assumption)
            obtain ⟨ad273, e273, hx273_0, hx273_1, hx273_2⟩ := at_T93 HR1.out x11_1 p273 q273
            cases e273
            replace hx273_0 := (HB.out.cell (World.block_lt_of_cell? w _ hx273_0)).trans hx273_0
            replace hx273_1 := (HB.out.cell (World.block_lt_of_cell? w _ hx273_1)).trans hx273_1
            replace hx273_2 := (HB.out.cell (World.block_lt_of_cell? w _ hx273_2)).trans hx273_2
            replace p273 := eq_true p273
            replace q273 := eq_true q273
            try go_wp2_with (first | ((with_reducible refine gate_dst (N := 7) rfl ?_); refine box_event ?hg (N := 7) ?hd (cs := #[.string (⟨#[]⟩ : ByteArray), .int .i64 0, .int .i64 0]) (t := 93) ?hr ?_; (case hd => rfl); (case hg => rfl); (case hr => first | (go_simp; done) | (go_simp; rfl)); intro gb274 hg w14 hbox hb; have n0_ := Aside0.mk (below_step (bl HB) hb); have n1_ := Aside0.mk (hbox); have n2_ := Aside0.mk ((by rw [hg]; exact (below_size (bl HB)) : w.heap.size ≤ gb274)); have n3_ := Aside0.mk ((by rw [hg]; exact (below_size (bl HB)) : w.heap.size ≤ gb274)); clear HB; have HB := n0_; have BK274 := n1_; have GW274 := n2_; have GE274 := n3_; clear n0_ n1_ n2_ n3_; clear hb hbox hg; obtain ⟨hcz15_0, hcz15_1, hcz15_2, hfz15_0, hfz15_1, hfz15_2⟩ := bc3 BK274))
            have n0_ : Aside0 ((((w14.setCell ⟨gb274, 0, none⟩ (.string ((rd_T93 l1 x11_1).f0))).setCell ⟨gb274, 1, none⟩ (.int .i64 ((rd_T93 l1 x11_1).f1))).setCell ⟨gb274, 2, none⟩ (.int .i64 ((rd_T93 l1 x11_1).f2))).heap[gb274]? = some (.cells #[.string ((rd_T93 l1 x11_1).f0), .int .i64 ((rd_T93 l1 x11_1).f1), .int .i64 ((rd_T93 l1 x11_1).f2)] 93 (0, 0))) := ⟨by (with_reducible repeat (first | refine kn ?_ _ | refine kd ?_ | refine ka ?_ _)); refine blk_put (cs := #[.string ((rd_T93 l1 x11_1).f0), .int .i64 ((rd_T93 l1 x11_1).f1), .int .i64 0]) ?_ 2 _ rfl; (with_reducible repeat (first | refine kn ?_ _ | refine kd ?_ | refine ka ?_ _)); refine blk_put (cs := #[.string ((rd_T93 l1 x11_1).f0), .int .i64 0, .int .i64 0]) ?_ 1 _ rfl; (with_reducible repeat (first | refine kn ?_ _ | refine kd ?_ | refine ka ?_ _)); refine blk_put (cs := #[.string (⟨#[]⟩ : ByteArray), .int .i64 0, .int .i64 0]) ?_ 0 _ rfl; (with_reducible repeat (first | refine kn ?_ _ | refine kd ?_ | refine ka ?_ _)); exact BK274.out⟩
            have n1_ : Aside0 (Below w.heap.size w (((w14.setCell ⟨gb274, 0, none⟩ (.string ((rd_T93 l1 x11_1).f0))).setCell ⟨gb274, 1, none⟩ (.int .i64 ((rd_T93 l1 x11_1).f1))).setCell ⟨gb274, 2, none⟩ (.int .i64 ((rd_T93 l1 x11_1).f2)))) := ⟨by repeat (with_reducible first | exact HB.out | apply ba | apply bd | apply b1 | refine bs ?_ GE274.out)⟩
            (try clear BK274)
            (try clear HB)
            generalize (((w14.setCell ⟨gb274, 0, none⟩ (.string ((rd_T93 l1 x11_1).f0))).setCell ⟨gb274, 1, none⟩ (.int .i64 ((rd_T93 l1 x11_1).f1))).setCell ⟨gb274, 2, none⟩ (.int .i64 ((rd_T93 l1 x11_1).f2))) = w16 at n0_ n1_ ⊢
            have BK274 := n0_
            have HB := n1_
            clear n0_ n1_
            have n0_ := Aside0.mk (blk_drew BK274.out)
            have n1_ := Aside0.mk (below_drew1 HB.out)
            clear BK274
            clear HB
            have BK274 := n0_
            have HB := n1_
            clear n0_ n1_
            refine start_ (n := 16) (S := fun w' => w'.cell? ⟨gb274, 0, none⟩ = some (.string ((rd_T93 l1 x11_1).f0)) ∧ w'.cell? ⟨gb274, 1, none⟩ = some (.int .i64 ((rd_T93 l1 x11_1).f1)) ∧ w'.cell? ⟨gb274, 2, none⟩ = some (.int .i64 ((rd_T93 l1 x11_1).f2))) (ds := []) #[ff, ff, ff, ff, ff, ff, ff, ff, ff, ff, ff, ff, ff, ff, ff, ff] (by kernel_rfl) rfl rfl ⟨(blk_cell BK274.out 0).trans rfl, (blk_cell BK274.out 1).trans rfl, (blk_cell BK274.out 2).trans rfl⟩ (fun hHeld => ?_); refine with_tabW impl_peaksPut.tab5 impl_peaksPut.bits5 (fun HT_ HW_ => ?_)
            generalize w16.drew = w17 at BK274 HB hHeld ⊢
            refine pure_ (i := 0) (N := some 15) (v := ?_) (a' := ?_) #[tt, ff, ff, ff, ff, ff, ff, ff, ff, ff, ff, ff, ff, ff, ff, ff] rfl rfl (any_of HT_.out (by kernel_rfl)) (fun _ _ _ h => h) (Or.inl ⟨by rfl, ?_⟩) ?_ ?_
            rotate_left
            ·intro w'
             go_simp
             with_reducible rfl
            rotate_left
            ·simp only [Act.put, sa, s0, s1, i64_w, i32_w]
             rfl
            refine pure_ (i := 1) (N := some 16) (v := ?_) (a' := ?_) #[tt, tt, ff, ff, ff, ff, ff, ff, ff, ff, ff, ff, ff, ff, ff, ff] rfl rfl (any_of HT_.out (by kernel_rfl)) (fun _ _ _ h => h) (Or.inl ⟨by rfl, ?_⟩) ?_ ?_
            rotate_left
            ·intro w'
             go_simp
             with_reducible rfl
            rotate_left
            ·simp only [Act.put, sa, s0, s1, i64_w, i32_w]
             rfl
            refine pure_ (i := 5) (N := some 20) (v := ?_) (a' := ?_) #[tt, tt, ff, ff, ff, tt, ff, ff, ff, ff, ff, ff, ff, ff, ff, ff] rfl rfl (any_of HT_.out (by kernel_rfl)) (fun _ _ _ h => h) (Or.inl ⟨by rfl, ?_⟩) ?_ ?_
            rotate_left
            ·intro w'
             go_simp
             with_reducible rfl
            rotate_left
            ·simp only [Act.put, sa, s0, s1, i64_w, i32_w]
             rfl
            refine pure_ (i := 10) (N := some 25) (v := ?_) (a' := ?_) #[tt, tt, ff, ff, ff, tt, ff, ff, ff, ff, tt, ff, ff, ff, ff, ff] rfl rfl (any_of HT_.out (by kernel_rfl)) (fun _ _ _ h => h) (Or.inl ⟨by rfl, ?_⟩) ?_ ?_
            rotate_left
            ·intro w'
             go_simp
             with_reducible rfl
            rotate_left
            ·simp only [Act.put, sa, s0, s1, i64_w, i32_w]
             rfl
            refine take_ (i := 2) (N := some 17) (v := ?_) (a' := ?_) #[tt, tt, tt, ff, ff, tt, ff, ff, ff, ff, tt, ff, ff, ff, ff, ff] rfl rfl (take_ofW HT_.out HW_.out (by kernel_rfl)) (fun _ _ _ h => h) (Or.inl ⟨by rfl, ?_⟩) hHeld ?_ ?_
            rotate_left
            ·rintro w' ⟨s0, s1, s2⟩
             go_simp
             with_reducible rfl
            rotate_left
            ·simp only [Act.put, sa, s0, s1, i64_w, i32_w]
             rfl
            refine pure_ (i := 3) (N := some 18) (v := ?_) (a' := ?_) #[tt, tt, tt, tt, ff, tt, ff, ff, ff, ff, tt, ff, ff, ff, ff, ff] rfl rfl (any_of HT_.out (by kernel_rfl)) (fun _ _ _ h => h) (Or.inl ⟨by rfl, ?_⟩) ?_ ?_
            rotate_left
            ·intro w'
             go_simp
             with_reducible rfl
            rotate_left
            ·simp only [Act.put, sa, s0, s1, i64_w, i32_w]
             rfl
            refine pure_ (i := 4) (N := some 19) (v := ?_) (a' := ?_) #[tt, tt, tt, tt, tt, tt, ff, ff, ff, ff, tt, ff, ff, ff, ff, ff] rfl rfl (any_of HT_.out (by kernel_rfl)) (fun _ _ _ h => h) (Or.inl ⟨by rfl, ?_⟩) ?_ ?_
            rotate_left
            ·intro w'
             go_simp
             with_reducible rfl
            rotate_left
            ·simp only [Act.put, sa, s0, s1, i64_w, i32_w]
             rfl
            refine take_ (i := 6) (N := some 21) (v := ?_) (a' := ?_) #[tt, tt, tt, tt, tt, tt, tt, ff, ff, ff, tt, ff, ff, ff, ff, ff] rfl rfl (take_ofW HT_.out HW_.out (by kernel_rfl)) (fun _ _ _ h => h) (Or.inl ⟨by rfl, ?_⟩) hHeld ?_ ?_
            rotate_left
            ·rintro w' ⟨s0, s1, s2⟩
             go_simp
             with_reducible rfl
            rotate_left
            ·simp only [Act.put, sa, s0, s1, i64_w, i32_w]
             rfl
            refine take_ (i := 11) (N := some 26) (v := ?_) (a' := ?_) #[tt, tt, tt, tt, tt, tt, tt, ff, ff, ff, tt, tt, ff, ff, ff, ff] rfl rfl (take_ofW HT_.out HW_.out (by kernel_rfl)) (fun _ _ _ h => h) (Or.inl ⟨by rfl, ?_⟩) hHeld ?_ ?_
            rotate_left
            ·rintro w' ⟨s0, s1, s2⟩
             go_simp
             with_reducible rfl
            rotate_left
            ·simp only [Act.put, sa, s0, s1, i64_w, i32_w]
             rfl
            refine one_ (i := 7) (N := some 22) #[tt, tt, tt, tt, tt, tt, tt, tt, ff, ff, tt, tt, ff, ff, ff, ff] rfl rfl (one_of HT_.out (by kernel_rfl)) (by decide) (fun K hK => ?_)
            refine goes_ Tryd.func46 (by kernel_rfl) rfl #[.int .i64 ((rd_T93 l1 x11_1).f1)] (by rfl) rfl rfl (by first | rfl | (simp only [List.map_toArray, List.map_cons, List.map_nil, List.length_drop, List.length_take]; first | done | rfl)) ?_
            with_reducible refine (strconv_Itoa_46.calls ((rd_T93 l1 x11_1).f1) t275 _ A8.out (Aside0.mk (Go.Proofs.YtgjljbaadglpnaaDoor.Sh.hasT_of PQT_ (bl HB)))).mono ?_
            rintro e w18 ⟨rfl, hb⟩
            refine ⟨_, rfl, ?_⟩
            have n0_ := Aside0.mk (bb BK274 hb)
            have n1_ := Aside0.mk (below_step (by repeat (with_reducible first | exact HB.out | apply ba | apply bd | apply b1 | refine bs ?_ GE274.out)) hb)
            clear BK274
            clear HB
            have BK274 := n0_
            have HB := n1_
            clear n0_ n1_
            (try clear hb)
            (try clear hb2)
            (try clear hk)
            (try clear hi)
            refine hK.out _ _ ⟨(blk_cell BK274.out 0).trans rfl, (blk_cell BK274.out 1).trans rfl, (blk_cell BK274.out 2).trans rfl⟩ (fun hHeld => ?_)
            clear hK K
            refine norm_ (a' := ?_) ?_ ?_
            rotate_left
            ·show Act.put _ (some 22) _ = _
             simp only [Act.put, sa, s0, s1, i64_w, i32_w]
             rfl
            refine pure_ (i := 8) (N := some 23) (v := ?_) (a' := ?_) #[tt, tt, tt, tt, tt, tt, tt, tt, tt, ff, tt, tt, ff, ff, ff, ff] rfl rfl (any_of HT_.out (by kernel_rfl)) (fun _ _ _ h => h) (Or.inl ⟨by rfl, ?_⟩) ?_ ?_
            rotate_left
            ·intro w'
             go_simp
             with_reducible rfl
            rotate_left
            ·simp only [Act.put, sa, s0, s1, i64_w, i32_w]
             rfl
            refine pure_ (i := 9) (N := some 24) (v := ?_) (a' := ?_) #[tt, tt, tt, tt, tt, tt, tt, tt, tt, tt, tt, tt, ff, ff, ff, ff] rfl rfl (any_of HT_.out (by kernel_rfl)) (fun _ _ _ h => h) (Or.inl ⟨by rfl, ?_⟩) ?_ ?_
            rotate_left
            ·intro w'
             go_simp
             with_reducible rfl
            rotate_left
            ·simp only [Act.put, sa, s0, s1, i64_w, i32_w]
             rfl
            refine one_ (i := 12) (N := some 27) #[tt, tt, tt, tt, tt, tt, tt, tt, tt, tt, tt, tt, tt, ff, ff, ff] rfl rfl (one_of HT_.out (by kernel_rfl)) (by decide) (fun K hK => ?_)
            refine goes_ Tryd.func46 (by kernel_rfl) rfl #[.int .i64 ((rd_T93 l1 x11_1).f2)] (by rfl) rfl rfl (by first | rfl | (simp only [List.map_toArray, List.map_cons, List.map_nil, List.length_drop, List.length_take]; first | done | rfl)) ?_
            with_reducible refine (strconv_Itoa_46.calls ((rd_T93 l1 x11_1).f2) t276 _ A11.out (Aside0.mk (Go.Proofs.YtgjljbaadglpnaaDoor.Sh.hasT_of PQT_ (bl HB)))).mono ?_
            rintro e w19 ⟨rfl, hb⟩
            refine ⟨_, rfl, ?_⟩
            have n0_ := Aside0.mk (bb BK274 hb)
            have n1_ := Aside0.mk (below_step (by repeat (with_reducible first | exact HB.out | apply ba | apply bd | apply b1 | refine bs ?_ GE274.out)) hb)
            clear BK274
            clear HB
            have BK274 := n0_
            have HB := n1_
            clear n0_ n1_
            (try clear hb)
            (try clear hb2)
            (try clear hk)
            (try clear hi)
            refine hK.out _ _ ⟨(blk_cell BK274.out 0).trans rfl, (blk_cell BK274.out 1).trans rfl, (blk_cell BK274.out 2).trans rfl⟩ (fun hHeld => ?_)
            clear hK K
            refine norm_ (a' := ?_) ?_ ?_
            rotate_left
            ·show Act.put _ (some 27) _ = _
             simp only [Act.put, sa, s0, s1, i64_w, i32_w]
             rfl
            refine pure_ (i := 13) (N := some 28) (v := ?_) (a' := ?_) #[tt, tt, tt, tt, tt, tt, tt, tt, tt, tt, tt, tt, tt, tt, ff, ff] rfl rfl (any_of HT_.out (by kernel_rfl)) (fun _ _ _ h => h) (Or.inl ⟨by rfl, ?_⟩) ?_ ?_
            rotate_left
            ·intro w'
             go_simp
             with_reducible rfl
            rotate_left
            ·simp only [Act.put, sa, s0, s1, i64_w, i32_w]
             rfl
            refine pure_ (i := 14) (N := some 29) (v := ?_) (a' := ?_) #[tt, tt, tt, tt, tt, tt, tt, tt, tt, tt, tt, tt, tt, tt, tt, ff] rfl rfl (any_of HT_.out (by kernel_rfl)) (fun _ _ _ h => h) (Or.inl ⟨by rfl, ?_⟩) ?_ ?_
            rotate_left
            ·intro w'
             go_simp
             with_reducible rfl
            rotate_left
            ·simp only [Act.put, sa, s0, s1, i64_w, i32_w]
             rfl
            refine pure_ (i := 15) (N := some 5) (v := ?_) (a' := ?_) #[tt, tt, tt, tt, tt, tt, tt, tt, tt, tt, tt, tt, tt, tt, tt, tt] rfl rfl (any_of HT_.out (by kernel_rfl)) (fun _ _ _ h => h) (Or.inl ⟨by rfl, ?_⟩) ?_ ?_
            rotate_left
            ·intro w'
             go_simp
             with_reducible rfl
            rotate_left
            ·simp only [Act.put, sa, s0, s1, i64_w, i32_w]
             rfl
            refine done_ (done_of HT_.out (by kernel_rfl)) ?_
            try go_wp2
            go_roundg k1
            case measure => have := HK1.out; omega
            case rel => exact ⟨(x5_1 ++ ((((((⟨#[32]⟩ : ByteArray) ++ ((rd_T93 l1 x11_1).f0)) ++ (⟨#[58]⟩ : ByteArray)) ++ t275) ++ (⟨#[58]⟩ : ByteArray)) ++ t276)), (wrap64 (x11_1 + 1)), (by first | rfl | (simp; done) | (simp [*]; done)), (by first | rfl | (simp; done) | (simp [*]; done)), H', ⟨by have := HK1.out; omega⟩, ⟨by repeat (with_reducible first | exact HB.out | apply ba | apply bd | apply b1 | refine bs ?_ GE274.out)⟩⟩
           ·rw [if_neg c13] at H
            exact absurd H (by simp)
          ·rw [if_neg c12] at H
           exact absurd H (by simp)
         ·rw [if_neg c10] at H
          exact absurd H (by simp)
        ·rw [if_neg c9] at H
         exact absurd H (by simp)
       ·rw [if_neg c7] at H
        exact absurd H (by simp)
      ·rw [if_neg c6] at H
       exact absurd H (by simp)
     ·rw [if_neg c5] at H
      exact absurd H (by simp)
    ·rw [if_neg c4] at H
     exact absurd H (by simp)
   ·rw [if_neg c3] at H
    have c3b0 : decide (x11_1 < (l1.length : Int)) = false := decide_eq_false c3
    clear c3
    by_cases c20 : x5_1.size + 1 ≤ 9223372036854775807
    ·rw [if_pos c20] at H
     have c20b0 := eq_true c20
     have c20b1 : decide (x5_1.size + 1 ≤ 9223372036854775807) = true := decide_eq_true c20
     try have c20b2 : (9223372036854775807 < x5_1.size + 1) = False := eq_false (Nat.not_lt.2 c20)
     obtain rfl := Option.some.inj H
     go_wp2
     go_ret
     exact ⟨by first | rfl | (simp [errW_none, errW_some] <;> rfl) | (simp [*, errW_none, errW_some] <;> rfl), bl HB⟩
    ·rw [if_neg c20] at H
     exact absurd H (by simp)

end Go.Proofs.YtgjljbaadglpnaaDoor.PFnExactPaidPut
