/- Functions of the program and what each answers: the kit's print, shortened (wip/press2.py). -/
import Derived.Test.YtgjljbaadglpnaaDoorPFnHeadGetx0
import Derived.Test.YtgjljbaadglpnaaDoorPFnHeadGetx3
import Derived.Test.YtgjljbaadglpnaaDoorPFnHeadGetx4
namespace Go.Proofs.YtgjljbaadglpnaaDoor.PFnHeadGet
open Go.Proofs.YtgjljbaadglpnaaDoor.Sq Go.RowKit Go.Proofs.YtgjljbaadglpnaaDoorW.PrintWords Go.Proofs.YtgjljbaadglpnaaDoorW.PrintLast Go.Proofs.YtgjljbaadglpnaaDoorW.PrintMore
attribute [local go_sem] max2_int min2_int max_two min_two max_three min_three max_four min_four   -- for this text's walks alone
set_option linter.unusedVariables false
set_option linter.unusedSimpArgs false
set_option maxHeartbeats 64000000
set_option maxRecDepth 100000
def spec_HeadPut.f (k : Nat) (a0_0 : ByteArray) (a0_1 : ByteArray) (a0_2 : Int) (a0_3 : Int) (a0_4 : Int) : Option (ByteArray) := (spec_l3Ok.f k a0_0 a0_1 a0_2 a0_3 a0_4).bind fun t178 => (if t178 = true then ((spec_l3Put.f k a0_0 a0_1 a0_2 a0_3 a0_4).bind fun t179 => (some t179)) else (some (⟨#[]⟩ : ByteArray)))
theorem spec_HeadPut.mono : ∀ a0 a1 a2 a3 a4 k, LeO (spec_HeadPut.f k a0 a1 a2 a3 a4) (spec_HeadPut.f (k + 1) a0 a1 a2 a3 a4) := by
 intro a0 a1 a2 a3 a4 k
 unfold spec_HeadPut.f
 exact mo2 spec_l3Ok.mono spec_l3Put.mono
theorem spec_HeadPut.calls (k : Nat) (a0_0 : ByteArray) (a0_1 : ByteArray) (a0_2 : Int) (a0_3 : Int) (a0_4 : Int) (r : ByteArray) (w : World) (h : spec_HeadPut.f k a0_0 a0_1 a0_2 a0_3 a0_4 = some r) :
  Calls Tryd.prog 14 #[.agg #[.string a0_0, .string a0_1, .int .i64 a0_2, .int .i64 a0_3, .int .i64 a0_4]] w fun e w' => e = .returned (.string r) ∧ Below w.heap.size w w' := by
 have hu23 := Tryd.underlying23
 have HB := Aside0.mk (Below.refl w.heap.size w)
 have H : ((spec_l3Ok.f k a0_0 a0_1 a0_2 a0_3 a0_4).bind fun t178 => (if t178 = true then ((spec_l3Put.f k a0_0 a0_1 a0_2 a0_3 a0_4).bind fun t179 => (some t179)) else (some (⟨#[]⟩ : ByteArray)))) = some r := h
 clear h
 replace H := oa H
 obtain ⟨t178, A2, H⟩ := H
 go_enter Tryd.func14, Tryd.ntmps14
 go_upto_if 5 with ((with_reducible refine gg ?_); first | (refine bE 1 #[.string a0_0, .string a0_1, .int .i64 a0_2, .int .i64 a0_3, .int .i64 a0_4] 23 ?_; intro gb177 hg w5 hbox hb; have BK177 := am (hbox); have GW177 := zB hg HB; have GE177 := zB hg HB; replace HB := kH HB hb; clear hb hbox hg; have hz6 := bc5 BK177) | (refine gL 4 Tryd.func43 #[.agg #[.string a0_0, .string a0_1, .int .i64 a0_2, .int .i64 a0_3, .int .i64 a0_4]] ?_; (with_reducible refine (spec_l3Ok.calls k a0_0 a0_1 a0_2 a0_3 a0_4 t178 _ A2.out).mono ?_); rintro e w7 ⟨rfl, hb⟩; refine ⟨_, rfl, ?_⟩; replace BK177 := kP _ BK177 hb; replace HB := kH HB hb; (try clear hb)))
 by_cases c3 : t178 = true
 rotate_left
 ·replace c3 := Bool.eq_false_iff.mpr c3
  subst c3
  try simp only [Bool.not_true, Bool.not_false]
  rw [if_neg (show ¬ (false = true) by decide)] at H
  obtain rfl := Option.some.inj H
  go_wp2
  go_ret
  exact ⟨xE, xB HB⟩
 subst c3
 try simp only [Bool.not_true, Bool.not_false]
 rw [if_pos rfl] at H
 replace H := oa H
 obtain ⟨t179, A4, H⟩ := H
 obtain rfl := Option.some.inj H
 have hz8 := bc5 BK177
 go_wp2_with ((with_reducible refine gg ?_); refine gL 7 Tryd.func44 #[.agg #[.string a0_0, .string a0_1, .int .i64 a0_2, .int .i64 a0_3, .int .i64 a0_4]] ?_; (with_reducible refine (spec_l3Put.calls k a0_0 a0_1 a0_2 a0_3 a0_4 t179 _ A4.out).mono ?_); rintro e w9 ⟨rfl, hb⟩; refine ⟨_, rfl, ?_⟩; replace BK177 := kP _ BK177 hb; replace HB := kH HB hb; (try clear hb))
 go_ret
 exact ⟨xE, xB HB⟩
/-- A state of type 111 at block g of W; what its slices lead to came in by w0. -/
def IsS111 (w0 W : World) (g : Nat) (f0 : List Int) (f1 : Int) : Prop := ∃ A0 c0, W.heap[g]? = some (.cells #[.slice A0 f0.length c0, .int .i64 f1] 111 (0, 0)) ∧ w0.heap.size ≤ g ∧ Kd.C (Kd.int .u8) w0 A0 f0.length f0
theorem IsS111.grown {w0 W : World} {g : Nat} {f0 : List Int} {f1 : Int} {W1 : World} {row : Option Nat} (h : IsS111 w0 W g f0 f1) (hw : W.grownBy W1 row) (hne : some g ≠ row) : IsS111 w0 W1 g f0 f1 := by
 obtain ⟨A0, c0, hb, hg, hr0⟩ := h
 exact ⟨A0, c0, blk_grown hb hw hne, hg, hr0⟩
theorem IsS111.own_neN {w0 W : World} {g : Nat} {f0 : List Int} {f1 : Int} {α : Type} {d : Kd α} {e : Nat} {base : Nat} {ok : Nat → Prop} {v : Value} {xs : List α} (h : IsS111 w0 W g f0 f1) (ho : Kd.N d e W base ok v xs) (ht : e ≠ 111) : some g ≠ v.ownBlock := by
 obtain ⟨A0, c0, hb, hg, hr0⟩ := h
 exact Kd.N_ne ho hb ht
theorem IsS111.fresh {w0 W : World} {g : Nat} {f0 : List Int} {f1 : Int} (h : IsS111 w0 W g f0 f1) : ∀ k, W.heap.size ≤ k → k ≠ g := by
 obtain ⟨A0, c0, hb, hg, hr0⟩ := h
 exact Kd.freshB hb
theorem IsS111.kept {w0 W : World} {g : Nat} {f0 : List Int} {f1 : Int} {W1 : World} {S : Nat → Prop} (h : IsS111 w0 W g f0 f1) (hk : Kept W W1 S) (hne : ¬ S g) : IsS111 w0 W1 g f0 f1 := by
 obtain ⟨A0, c0, hb, hg, hr0⟩ := h
 exact ⟨A0, c0, blk_kept hb hk hne, hg, hr0⟩
theorem IsS111.below {w0 W : World} {g : Nat} {f0 : List Int} {f1 : Int} {W1 : World} (h : IsS111 w0 W g f0 f1) (hw : Below W.heap.size W W1) : IsS111 w0 W1 g f0 f1 := h.grown (grown_of_below hw none) (by simp)
theorem IsS111.alloc {w0 W : World} {g : Nat} {f0 : List Int} {f1 : Int} (h : IsS111 w0 W g f0 f1) (o : Obj) : IsS111 w0 (W.alloc o) g f0 f1 := h.below (below_alloc (Below.refl _ _) o)
theorem IsS111.drewN {w0 W : World} {g : Nat} {f0 : List Int} {f1 : Int} (h : IsS111 w0 W g f0 f1) (m : Nat) : IsS111 w0 (W.drewN m) g f0 f1 := h
theorem IsS111.drew {w0 W : World} {g : Nat} {f0 : List Int} {f1 : Int} (h : IsS111 w0 W g f0 f1) : IsS111 w0 W.drew g f0 f1 := h
theorem IsS111.at_ {w0 W : World} {g : Nat} {f0 : List Int} {f1 : Int} {w' : World} {m : Nat} (hq : W.drewN m = w') (h : IsS111 w0 W g f0 f1) : IsS111 w0 w' g f0 f1 := by subst hq; exact IsS111.drewN h m
theorem IsS111.apart {w0 W : World} {g : Nat} {f0 : List Int} {f1 : Int} {α : Type} {d : Kd α} {e : Nat} {base : Nat} {ok : Nat → Prop} {v : Value} {xs : List α} (h : IsS111 w0 W g f0 f1) (ho : d.R e W base ok v xs) (ht : ∀ q, q ∈ e :: d.E → q ≠ 111) : d.R e W base (fun k => ok k ∧ k ≠ g) v xs := by
 obtain ⟨A0, c0, hb, hg, hr0⟩ := h
 exact Kd.R_types ho hb ht
theorem IsS111.own_ne {w0 W : World} {g : Nat} {f0 : List Int} {f1 : Int} {α : Type} {d : Kd α} {e : Nat} {base : Nat} {ok : Nat → Prop} {v : Value} {xs : List α} (h : IsS111 w0 W g f0 f1) (ho : d.R e W base ok v xs) (ht : e ≠ 111) : some g ≠ v.ownBlock := by
 obtain ⟨A0, c0, hb, hg, hr0⟩ := h
 exact Kd.R_ne ho hb ht
theorem IsS111.apartQ {w0 W : World} {g : Nat} {f0 : List Int} {f1 : Int} {α : Type} {d : Kd α} {e : Nat} {base : Nat} {ok : Nat → Prop} {v : Value} {xs : List α} (h : IsS111 w0 W g f0 f1) (ho : d.Q e W base ok v xs) (ht : ∀ q, q ∈ e :: d.E → q ≠ 111) : d.Q e W base (fun k => ok k ∧ k ≠ g) v xs := by
 obtain ⟨A0, c0, hb, hg, hr0⟩ := h
 exact Kd.Q_types ho hb ht
theorem IsS111.own_neQ {w0 W : World} {g : Nat} {f0 : List Int} {f1 : Int} {α : Type} {d : Kd α} {e : Nat} {base : Nat} {ok : Nat → Prop} {v : Value} {xs : List α} (h : IsS111 w0 W g f0 f1) (ho : d.Q e W base ok v xs) (ht : e ≠ 111) : some g ≠ v.ownBlock := by
 obtain ⟨A0, c0, hb, hg, hr0⟩ := h
 exact Kd.Q_ne ho hb ht
theorem IsS111.apartS {w0 W : World} {g : Nat} {f0 : List Int} {f1 : Int} {α : Type} {d : Kd α} {e : Nat} {base : Nat} {ok : Nat → Prop} {v : Value} {xs : List α} (h : IsS111 w0 W g f0 f1) (ho : d.S e W base ok v xs) (ht : ∀ q, q ∈ e :: d.E → q ≠ 111) : d.S e W base (fun k => ok k ∧ k ≠ g) v xs := by
 obtain ⟨A0, c0, hb, hg, hr0⟩ := h
 exact Kd.S_types ho hb ht
theorem IsS111.own_neS {w0 W : World} {g : Nat} {f0 : List Int} {f1 : Int} {α : Type} {d : Kd α} {e : Nat} {base : Nat} {ok : Nat → Prop} {v : Value} {xs : List α} (h : IsS111 w0 W g f0 f1) (ho : d.S e W base ok v xs) (ht : e ≠ 111) : some g ≠ v.ownBlock := by
 obtain ⟨A0, c0, hb, hg, hr0⟩ := h
 exact Kd.S_ne ho hb ht
theorem IsS111.lt {w0 W : World} {g : Nat} {f0 : List Int} {f1 : Int} (h : IsS111 w0 W g f0 f1) : g < W.heap.size := by
 obtain ⟨A0, c0, hb, hg, hr0⟩ := h
 exact blk_lt hb
theorem IsS111.ge {w0 W : World} {g : Nat} {f0 : List Int} {f1 : Int} (h : IsS111 w0 W g f0 f1) : w0.heap.size ≤ g := by
 obtain ⟨A0, c0, hb, hg, hr0⟩ := h
 exact hg
theorem IsS111.ne_blk {w0 W : World} {g : Nat} {f0 : List Int} {f1 : Int} {a : Nat} {cs : Array Value} {t : TypeId} {fr : Nat × Nat} (h : IsS111 w0 W g f0 f1) (hb2 : W.heap[a]? = some (.cells cs t fr)) (ht : t ≠ 111) : g ≠ a := by
 obtain ⟨A0, c0, hb, hg, hr0⟩ := h
 rintro rfl
 rw [hb] at hb2
 injection hb2 with hb2
 injection hb2 with _ ht2
 exact ht ht2.symm
theorem IsS111.far {w0 W : World} {g : Nat} {f0 : List Int} {f1 : Int} {p : Addr} (h : IsS111 w0 W g f0 f1) (hne : g ≠ p.block) (u : Value) : IsS111 w0 (W.setCell p u) g f0 f1 := by
 obtain ⟨A0, c0, hb, hg, hr0⟩ := h
 exact ⟨A0, c0, blk_far hb hne u, hg, hr0⟩
theorem cellS111_0 {W : World} {g : Nat} {A0 : Option Addr} {c0 : Nat} {f0 : List Int} {f1 : Int} (h : W.heap[g]? = some (.cells #[.slice A0 f0.length c0, .int .i64 f1] 111 (0, 0))) : W.cell? ⟨g, 0, none⟩ = some (.slice A0 f0.length c0) := (blk_cell h 0).trans rfl
theorem cellS111_1 {W : World} {g : Nat} {A0 : Option Addr} {c0 : Nat} {f0 : List Int} {f1 : Int} (h : W.heap[g]? = some (.cells #[.slice A0 f0.length c0, .int .i64 f1] 111 (0, 0))) : W.cell? ⟨g, 1, none⟩ = some (.int .i64 f1) := (blk_cell h 1).trans rfl
theorem IsS111.set_1 {w0 W : World} {g : Nat} {f0 : List Int} {f1 : Int} (h : IsS111 w0 W g f0 f1) (x : Int) : IsS111 w0 (W.setCell ⟨g, 1, none⟩ (.int .i64 x)) g f0 x := by
 obtain ⟨A0, c0, hb, hg, hr0⟩ := h
 exact ⟨A0, c0, by simpa using blk_set hb 1 (.int .i64 x), hg, hr0⟩
theorem IsS111.new (w0 W : World) (A0 : Option Addr) (c0 : Nat) (f0 : List Int) (f1 : Int) (hB : Below w0.heap.size w0 W) (hr0 : Kd.C (Kd.int .u8) w0 A0 f0.length f0) : IsS111 w0 (W.alloc (.cells #[.slice A0 f0.length c0, .int .i64 f1] 111)) W.heap.size f0 f1 := ⟨A0, c0, by simpa using heap_alloc_new W _, hB.size, hr0⟩
theorem iX {w0 W : World} {g : Nat} {f0 : List Int} {f1 : Int} {p : Prop} (H : Aside0 (IsS111 w0 W g f0 f1)) (h : IsS111 w0 W g f0 f1 → p := by intro h_; (repeat (with_reducible first | exact h_ | apply IsS111.alloc | apply IsS111.drewN | apply IsS111.drew | apply IsS111.set_1 | refine IsS111.far ?_ (Aside0.out (by assumption)) _)); all_goals exact h_) : p := h H.out
theorem iK {w0 w W W1 : World} {g : Nat} {f0 : List Int} {f1 : Int} {f0' : List Int} {f1' : Int} (H : Aside0 (IsS111 w0 w g f0 f1)) (hb : Below W.heap.size W W1) (h : IsS111 w0 w g f0 f1 → IsS111 w0 W g f0' f1' := by intro h_; (repeat (with_reducible first | exact h_ | apply IsS111.alloc | apply IsS111.drewN | apply IsS111.drew | apply IsS111.set_1 | refine IsS111.far ?_ (Aside0.out (by assumption)) _)); all_goals exact h_) : Aside0 (IsS111 w0 W1 g f0' f1') := ⟨IsS111.below (h H.out) hb⟩
theorem iL {w0 w W : World} {g gb : Nat} {f0 : List Int} {f1 : Int} (hg : gb = W.heap.size) (H : Aside0 (IsS111 w0 w g f0 f1)) (h : IsS111 w0 w g f0 f1 → ∃ f0' f1', IsS111 w0 W g f0' f1' := by intro h_; apply Exists.intro; apply Exists.intro; (repeat (with_reducible first | exact h_ | apply IsS111.alloc | apply IsS111.drewN | apply IsS111.drew | apply IsS111.set_1 | refine IsS111.far ?_ (Aside0.out (by assumption)) _)); all_goals exact h_) : g < gb := by obtain ⟨_, _, k⟩ := h H.out; rw [hg]; exact IsS111.lt k
theorem iN {w0 w W : World} {g gb : Nat} {f0 : List Int} {f1 : Int} (hg : gb = W.heap.size) (H : Aside0 (IsS111 w0 w g f0 f1)) (h : IsS111 w0 w g f0 f1 → ∃ f0' f1', IsS111 w0 W g f0' f1' := by intro h_; apply Exists.intro; apply Exists.intro; (repeat (with_reducible first | exact h_ | apply IsS111.alloc | apply IsS111.drewN | apply IsS111.drew | apply IsS111.set_1 | refine IsS111.far ?_ (Aside0.out (by assumption)) _)); all_goals exact h_) : Aside0 (g ≠ gb) := ⟨Nat.ne_of_lt (iL hg H h)⟩
theorem iM {w0 w W : World} {g gb : Nat} {f0 : List Int} {f1 : Int} (hg : gb = W.heap.size) (H : Aside0 (IsS111 w0 w g f0 f1)) (h : IsS111 w0 w g f0 f1 → ∃ f0' f1', IsS111 w0 W g f0' f1' := by intro h_; apply Exists.intro; apply Exists.intro; (repeat (with_reducible first | exact h_ | apply IsS111.alloc | apply IsS111.drewN | apply IsS111.drew | apply IsS111.set_1 | refine IsS111.far ?_ (Aside0.out (by assumption)) _)); all_goals exact h_) : Aside0 (gb ≠ g) := ⟨Nat.ne_of_gt (iL hg H h)⟩
theorem iR {w0 w v W W1 : World} {g : Nat} {f0 : List Int} {f1 : Int} {α : Type} {d : Kd α} {e base : Nat} {ok : Nat → Prop} {u : Value} {xs : List α} (H : Aside0 (IsS111 w0 w g f0 f1)) (HO : Aside0 (d.R e v base ok u xs)) (hk : KeepBut W W1 g none) [k : Nonempty (Gr v W)] (ht : ∀ q, q ∈ e :: d.E → q ≠ 111 := by decide) (h : IsS111 w0 w g f0 f1 → ∃ f0' f1', IsS111 w0 W g f0' f1' := by intro h_; apply Exists.intro; apply Exists.intro; (repeat (with_reducible first | exact h_ | apply IsS111.alloc | apply IsS111.drewN | apply IsS111.drew | apply IsS111.set_1 | refine IsS111.far ?_ (Aside0.out (by assumption)) _)); all_goals exact h_) : Aside0 (d.R e W1 base ok u xs) := ⟨by obtain ⟨_, _, j⟩ := h H.out; exact Kd.R_mono (Kd.R_keep (IsS111.apart j (ra HO) ht) hk (fun _ h => h.2)) (fun _ h => h.1)⟩
theorem xBi {p : Prop} {B : Nat} {v w : World} (H : Aside0 (Below B v w)) (h : Below B v w → p := by intro h_; (repeat (with_reducible first | exact h_ | apply below_alloc | apply pw_below_drewN | apply below_drew1 | refine below_set ?_ (Aside0.out (by assumption)) | refine below_set ?_ (IsS111.ge (Aside0.out (by assumption))))); all_goals exact h_) : p := h H.out
theorem kHi {v w W W1 : World} (H : Aside0 (Below v.heap.size v w)) (hb : Below W.heap.size W W1) (h : Below v.heap.size v w → Below v.heap.size v W := by intro h_; (repeat (with_reducible first | exact h_ | apply below_alloc | apply pw_below_drewN | apply below_drew1 | refine below_set ?_ (Aside0.out (by assumption)) | refine below_set ?_ (IsS111.ge (Aside0.out (by assumption))))); all_goals exact h_) : Aside0 (Below v.heap.size v W1) := ⟨below_step (h H.out) hb⟩
def spec_l20Open.f (l0 : List Int) : Option (List Int × Int) := if (l0.length : Int) > 2000 then (if 2000 ≤ (l0.length : Int) then (some (l0.take 2000, 0)) else (none)) else (some (l0, 0))
theorem spec_l20Open.calls (A0 : Option Addr) (c0 : Nat) (l0 : List Int) (r1 : List Int) (r2 : Int) (w0 w : World) (hB : Below w0.heap.size w0 w) (hr0 : Kd.C (Kd.int .u8) w0 A0 l0.length l0) (hc0 : l0.length ≤ c0) (h : spec_l20Open.f l0 = some (r1, r2)) :
  Calls Tryd.prog 53 #[.slice A0 l0.length c0] w fun e w' => ∃ g_ : Nat, e = .returned (.pointer (some ⟨g_, 0, none⟩)) ∧ IsS111 w0 w' g_ r1 r2 ∧ Below w0.heap.size w0 w' ∧ Below w.heap.size w w' := by
 have hu111 := Tryd.underlying111
 have HR0 := Aside0.mk hr0
 have HC0 := Aside0.mk hc0
 clear hr0 hc0
 have HBW := Aside0.mk (Below.refl w.heap.size w)
 have HW0 := Aside0.mk hB.size
 have HB := Aside0.mk hB
 clear hB
 have H : (if (l0.length : Int) > 2000 then (if 2000 ≤ (l0.length : Int) then (some (l0.take 2000, 0)) else (none)) else (some (l0, 0))) = some (r1, r2) := h
 clear h
 by_cases c2 : (l0.length : Int) > 2000
 rotate_left
 ·rw [if_neg c2] at H
  have c2b0 := decide_eq_false c2
  have c2b1 : decide (2000 < l0.length) = false := decide_eq_false (by omega)
  clear c2
  simp only [Option.some.injEq, Prod.mk.injEq] at H
  obtain ⟨rfl, rfl⟩ := H
  go_enter Tryd.func53, Tryd.ntmps53
  go_wp2_with ((with_reducible refine gg ?_); refine bE 10 #[.slice A0 l0.length c0, .int .i64 0] 111 ?_; intro gb182 hg w6 hbox hb; replace HB := kH HB hb; have BK182 := am (hbox); have GW182 := am ((by rw [hg]; exact (below_size (xB HBW)) : w.heap.size ≤ gb182)); have GE182 := am ((Nat.le_trans HW0.out (by rw [hg]; exact (below_size (xB HBW)) : w.heap.size ≤ gb182) : w0.heap.size ≤ gb182)); replace HBW := am (below_step HBW.out hb); clear hb hbox hg)
  go_ret
  exact ⟨_, rfl, (show IsS111 w0 _ gb182 l0 0 from ⟨_, _, kb BK182, GE182.out, HR0.out⟩), xB HB, xB HBW⟩
 rw [if_pos c2] at H
 have c2b0 := decide_eq_true c2
 have c2b1 : decide (2000 < l0.length) = true := decide_eq_true (by omega)
 clear c2
 replace H := ip H
 obtain ⟨c3, H⟩ := H
 have c3b0 := eq_true c3
 have c3b1 := decide_eq_true c3
 clear c3
 simp only [Option.some.injEq, Prod.mk.injEq] at H
 obtain ⟨rfl, rfl⟩ := H
 obtain ⟨i04, hi04, _, hsz4, _⟩ := info_parts info5
 obtain ⟨hcut4, hA4, hC4⟩ := print_take_of (P := Tryd.prog) (Value.int .u8) 0 53 5 .i64 Tryd.underlying53 hi04 hsz4 A0 c0 l0 2000 (by omega) (of_decide_eq_true xA) HC0.out
 have HR180 := Aside0.mk (Kd.C_of_reads (h1 := fun _ => rfl) (hA4 _ (Kd.reads_of_C HR0.out)))
 have HC180 := Aside0.mk hC4
 clear hA4 hC4 hi04 hsz4
 go_enter Tryd.func53, Tryd.ntmps53
 go_wp2_with ((with_reducible refine gg ?_); refine bE 10 #[.slice A0 (l0.take 2000).length c0, .int .i64 0] 111 ?_; intro gb181 hg w5 hbox hb; replace HB := kH HB hb; have BK181 := am (hbox); have GW181 := am ((by rw [hg]; exact (below_size (xB HBW)) : w.heap.size ≤ gb181)); have GE181 := am ((Nat.le_trans HW0.out (by rw [hg]; exact (below_size (xB HBW)) : w.heap.size ≤ gb181) : w0.heap.size ≤ gb181)); replace HBW := am (below_step HBW.out hb); clear hb hbox hg)
 go_ret
 exact ⟨_, rfl, (show IsS111 w0 _ gb181 (l0.take 2000) 0 from ⟨_, _, kb BK181, GE181.out, HR180.out⟩), xB HB, xB HBW⟩
def spec_l20Rd_pick.j0 : Nat → Int → Bool → List Int → Int → Option (Int × Int)
 | 0, _, _, _, _ => none
 | k + 1, x1, x24, x1000, x1001 => if x24 = true then (some (0, x1001)) else (if (wrap64 (x1001 - 1)) < (x1000.length : Int) then (if 0 ≤ (wrap64 (x1001 - 1)) then (if x1 = 0 then (none) else (some (Int.tmod (wrap64 (rd x1000 (wrap64 (x1001 - 1)))) x1, x1001))) else (none)) else (if (x1000.length : Int) = 0 then (none) else (if 0 ≤ (Int.tmod (wrap64 (x1001 - 1)) (x1000.length : Int)) then (if (Int.tmod (wrap64 (x1001 - 1)) (x1000.length : Int)) < (x1000.length : Int) then (if 0 ≤ (Int.tmod (wrap64 ((wrap64 ((wrap64 (x1001 - 1)) * 7)) + 3)) (x1000.length : Int)) then (if (Int.tmod (wrap64 ((wrap64 ((wrap64 (x1001 - 1)) * 7)) + 3)) (x1000.length : Int)) < (x1000.length : Int) then (if x1 = 0 then (none) else (some (Int.tmod (Go.bits .xor .i64 (wrap64 ((wrap64 ((wrap64 ((wrap64 ((wrap64 (rd x1000 (Int.tmod (wrap64 (x1001 - 1)) (x1000.length : Int)))) * 131)) + (wrap64 ((wrap64 (rd x1000 (Int.tmod (wrap64 ((wrap64 ((wrap64 (x1001 - 1)) * 7)) + 3)) (x1000.length : Int)))) * 1117)))) + (wrap64 ((wrap64 (x1001 - 1)) * 29)))) + (wrap64 ((wrap64 (Int.tdiv (wrap64 (x1001 - 1)) (x1000.length : Int))) * 53)))) (wrap64 (Int.tdiv (wrap64 ((wrap64 ((wrap64 ((wrap64 ((wrap64 (rd x1000 (Int.tmod (wrap64 (x1001 - 1)) (x1000.length : Int)))) * 131)) + (wrap64 ((wrap64 (rd x1000 (Int.tmod (wrap64 ((wrap64 ((wrap64 (x1001 - 1)) * 7)) + 3)) (x1000.length : Int)))) * 1117)))) + (wrap64 ((wrap64 (x1001 - 1)) * 29)))) + (wrap64 ((wrap64 (Int.tdiv (wrap64 (x1001 - 1)) (x1000.length : Int))) * 53)))) 64))) x1, x1001))) else (none)) else (none)) else (none)) else (none))))
def spec_l20Rd_pick.f (k : Nat) (s0_0 : List Int) (s0_1 : Int) (a1 : Int) : Option (Int × Int) := if a1 < 1 then (spec_l20Rd_pick.j0 k a1 true s0_0 (wrap64 (s0_1 + 1))) else (spec_l20Rd_pick.j0 k a1 ((s0_0.length : Int) == 0) s0_0 (wrap64 (s0_1 + 1)))
theorem spec_l20Rd_pick.mono_l : ∀ k, (∀ y0 y1 y2 y3, LeO (spec_l20Rd_pick.j0 k y0 y1 y2 y3) (spec_l20Rd_pick.j0 (k + 1) y0 y1 y2 y3))
 | 0 => fun _ _ _ _ r h => by simp [spec_l20Rd_pick.j0] at h
 | k + 1 => by
  have ih0 := spec_l20Rd_pick.mono_l k
  ·intro y0 y1 y2 y3
   unfold spec_l20Rd_pick.j0
   exact mo1 ih0
theorem spec_l20Rd_pick.mono : ∀ a0 a1 a2 k, LeO (spec_l20Rd_pick.f k a0 a1 a2) (spec_l20Rd_pick.f (k + 1) a0 a1 a2) := by
 intro a0 a1 a2 k
 have ih0 := spec_l20Rd_pick.mono_l k
 unfold spec_l20Rd_pick.f
 exact mo1 ih0
theorem spec_l20Rd_pick.calls (k : Nat) (g : Nat) (s0_0 : List Int) (s0_1 : Int) (a1 : Int) (r1 : Int) (r2 : Int) (w0 w : World) (hI : IsS111 w0 w g s0_0 s0_1) (hB : Below w0.heap.size w0 w) (h : spec_l20Rd_pick.f k s0_0 s0_1 a1 = some (r1, r2)) :
  Calls Tryd.prog 55 #[.pointer (some ⟨g, 0, none⟩), .int .i64 a1] w fun e w' => e = .returned (.int .i64 r1) ∧ IsS111 w0 w' g s0_0 r2 ∧ Below w0.heap.size w0 w' ∧ KeepBut w w' g none := by
 have HI0 := Aside0.mk hI
 have HK := Aside0.mk (KeepBut.refl w g none)
 have HL := Aside0.mk hB.size
 clear hI
 have HW0 := Aside0.mk hB.size
 have HB := Aside0.mk hB
 clear hB
 have H : (if a1 < 1 then (spec_l20Rd_pick.j0 k a1 true s0_0 (wrap64 (s0_1 + 1))) else (spec_l20Rd_pick.j0 k a1 ((s0_0.length : Int) == 0) s0_0 (wrap64 (s0_1 + 1)))) = some (r1, r2) := h
 clear h
 have HC3 := Aside0.mk H
 clear H
 obtain ⟨ASz4_0, cSz4_0, HGz4, hgz4, HSz4_0⟩ := HI0.out
 have hcz4_0 := cellS111_0 HGz4
 have hcz4_1 := cellS111_1 HGz4
 have hfz4_1 := blk_frozen HGz4 1
 clear HGz4 hgz4
 go_enter Tryd.func55, Tryd.ntmps55
 go_upto_region 2 with (fail)
 repeat (go_quiet (fail); go_upto_region 2 with (fail))
 go_cut [24] (fun v24 wc => ∃ (kq : Nat) (x24_2 : Bool), v24 = .bool x24_2 ∧ Aside0 (spec_l20Rd_pick.j0 kq a1 x24_2 s0_0 (wrap64 (s0_1 + 1)) = some (r1, r2)) ∧ Aside0 (kq ≤ k) ∧ Aside0 (IsS111 w0 wc g s0_0 (wrap64 (s0_1 + 1))) ∧ Aside0 (KeepBut w wc g none) ∧ Aside0 (Below w0.heap.size w0 wc))
 case first =>
  have H := HC3.out
  clear HC3
  by_cases c5 : a1 < 1
  ·rw [if_pos c5] at H
   have c5b0 := decide_eq_true c5
   clear c5
   (first | rw [c5b0] | rw [c5b1] | (simp only [i64_w, i32_w]; rw [c5b0]) | skip)
   have H' := Aside0.mk H
   clear H
   go_wp2
   repeat (go_quiet (fail); try go_wp2)
   go_meet
   case rel => exact ⟨_, (true), xR, H', ⟨xO⟩, ⟨iX HI0⟩, ⟨xK HK⟩, ⟨xBi HB⟩⟩
  rw [if_neg c5] at H
  have c5b0 := decide_eq_false c5
  clear c5
  (first | rw [c5b0] | rw [c5b1] | (simp only [i64_w, i32_w]; rw [c5b0]) | skip)
  have H' := Aside0.mk H
  clear H
  obtain ⟨ASz6_0, cSz6_0, HGz6, hgz6, HSz6_0⟩ := HI0.out
  have hcz6_0 := cellS111_0 HGz6
  have hcz6_1 := cellS111_1 HGz6
  have hfz6_1 := blk_frozen HGz6 1
  clear HGz6 hgz6
  go_wp2
  repeat (go_quiet (fail); try go_wp2)
  go_meet
  case rel => exact ⟨_, (((s0_0.length : Int) == 0)), xR, H', ⟨xO⟩, ⟨iX HI0⟩, ⟨xK HK⟩, ⟨xBi HB⟩⟩
 case rest =>
  clear HC3
  try clear p2
  try clear c5
  try clear c5b0
  try clear p6
  try clear hz4
  try clear hz6
  obtain ⟨kq, x24_2, rfl, HA, HJ2, HI0, HK, HB⟩ := hcut
  cases kq with
  | zero => exact absurd HA.out (by simp [spec_l20Rd_pick.j0])
  | succ kj2 =>
   have H := HA.out
   clear HA
   simp only [spec_l20Rd_pick.j0] at H
   by_cases c7 : x24_2 = true
   ·subst c7
    rw [if_pos rfl] at H
    simp only [Option.some.injEq, Prod.mk.injEq] at H
    obtain ⟨rfl, rfl⟩ := H
    go_wp2
    repeat (go_quiet (fail); try go_wp2)
    go_ret
    exact ⟨xE, iX HI0, xBi HB, xK HK⟩
   replace c7 := Bool.eq_false_iff.mpr c7
   subst c7
   rw [if_neg (show ¬ (false = true) by decide)] at H
   by_cases c8 : (wrap64 ((wrap64 (s0_1 + 1)) - 1)) < (s0_0.length : Int)
   ·rw [if_pos c8] at H
    have c8b0 := decide_eq_true c8
    clear c8
    obtain ⟨ji9, hji9⟩ := je (wrap64 ((wrap64 (s0_1 + 1)) - 1))
    first | rw [hji9] at H | simp only [hji9] at H
    (try rw [hji9] at c8b0)
    have hji9w : (IntKind.i64.wrap ((wrap64 (s0_1 + 1)) - 1)) = ji9 := (i64_w _).trans hji9
    replace H := ipd H
    obtain ⟨c10b0, H⟩ := H
    replace H := iq H
    obtain ⟨c11, H⟩ := H
    have c11b0 := beq_eq_false_iff_ne.mpr c11
    have c11b1 := bne_iff_ne.mpr c11
    simp only [Option.some.injEq, Prod.mk.injEq] at H
    obtain ⟨rfl, rfl⟩ := H
    obtain ⟨ASz12_0, cSz12_0, HGz12, hgz12, HSz12_0⟩ := HI0.out
    have hcz12_0 := cellS111_0 HGz12
    have hcz12_1 := cellS111_1 HGz12
    have hfz12_1 := blk_frozen HGz12 1
    clear HGz12 hgz12
    have p183 : 0 ≤ ((ji9) : Int) := of_decide_eq_true xA
    have q183 : (ji9) < (s0_0.length : Int) := of_decide_eq_true xA
    obtain ⟨ad183, e183, hx183_0⟩ := Kd.at_int HSz12_0 (ji9) p183 q183
    cases e183
    replace hx183_0 := pw_cell_below HB.out hx183_0
    replace p183 := eq_true p183
    replace q183 := eq_true q183
    go_wp2
    repeat (go_quiet (fail); try go_wp2)
    go_ret
    exact ⟨by first | rfl | (simp [errW_none, errW_some] <;> rfl) | (simp only [← hji9]; first | rfl | (simp [errW_none, errW_some] <;> rfl)) | (simp [*, errW_none, errW_some] <;> rfl), iX HI0, xBi HB, xK HK⟩
   rw [if_neg c8] at H
   have c8b0 := decide_eq_false c8
   clear c8
   replace H := iq H
   obtain ⟨c13, H⟩ := H
   have c13b0 := beq_eq_false_iff_ne.mpr c13
   have c13b1 := bne_iff_ne.mpr c13
   have c13b2 : ¬ (s0_0 = []) := fun h_ => c13 (by rw [h_]; rfl)
   obtain ⟨ji14, hji14⟩ := je (Int.tmod (wrap64 ((wrap64 (s0_1 + 1)) - 1)) (s0_0.length : Int))
   first | rw [hji14] at H | simp only [hji14] at H
   replace H := ipd H
   obtain ⟨c15b0, H⟩ := H
   replace H := ipd H
   obtain ⟨c16b0, H⟩ := H
   obtain ⟨ji17, hji17⟩ := je (Int.tmod (wrap64 ((wrap64 ((wrap64 ((wrap64 (s0_1 + 1)) - 1)) * 7)) + 3)) (s0_0.length : Int))
   first | rw [hji17] at H | simp only [hji17] at H
   replace H := ipd H
   obtain ⟨c18b0, H⟩ := H
   replace H := ipd H
   obtain ⟨c19b0, H⟩ := H
   replace H := iq H
   obtain ⟨c20, H⟩ := H
   have c20b0 := beq_eq_false_iff_ne.mpr c20
   have c20b1 := bne_iff_ne.mpr c20
   simp only [Option.some.injEq, Prod.mk.injEq] at H
   obtain ⟨rfl, rfl⟩ := H
   obtain ⟨ASz21_0, cSz21_0, HGz21, hgz21, HSz21_0⟩ := HI0.out
   have hcz21_0 := cellS111_0 HGz21
   have hcz21_1 := cellS111_1 HGz21
   have hfz21_1 := blk_frozen HGz21 1
   clear HGz21 hgz21
   have p184 : 0 ≤ ((ji14) : Int) := of_decide_eq_true xA
   have q184 : (ji14) < (s0_0.length : Int) := of_decide_eq_true xA
   obtain ⟨ad184, e184, hx184_0⟩ := Kd.at_int HSz21_0 (ji14) p184 q184
   cases e184
   replace hx184_0 := pw_cell_below HB.out hx184_0
   replace p184 := eq_true p184
   replace q184 := eq_true q184
   have p185 : 0 ≤ ((ji17) : Int) := of_decide_eq_true xA
   have q185 : (ji17) < (s0_0.length : Int) := of_decide_eq_true xA
   obtain ⟨ad185, e185, hx185_0⟩ := Kd.at_int HSz21_0 (ji17) p185 q185
   obtain rfl : ad184 = ad185 := (by injection e185)
   replace hx185_0 := pw_cell_below HB.out hx185_0
   replace p185 := eq_true p185
   replace q185 := eq_true q185
   go_wp2
   repeat (go_quiet (fail); try go_wp2)
   go_ret
   exact ⟨by first | rfl | (simp [errW_none, errW_some] <;> rfl) | (simp only [← hji14, ← hji17]; first | rfl | (simp [errW_none, errW_some] <;> rfl)) | (simp [*, errW_none, errW_some] <;> rfl), iX HI0, xBi HB, xK HK⟩
def spec_l20Rd_of.f (k : Nat) (s0_0 : List Int) (s0_1 : Int) (l1 : List ByteArray) : Option (ByteArray × Int) := (spec_l20Rd_pick.f k s0_0 s0_1 (l1.length : Int)).bind fun bt186 => (if 0 ≤ bt186.1 then (if bt186.1 < (l1.length : Int) then (some (rdOf ByteArray.empty l1 bt186.1, bt186.2)) else (none)) else (none))
theorem spec_l20Rd_of.mono : ∀ a0 a1 a2 k, LeO (spec_l20Rd_of.f k a0 a1 a2) (spec_l20Rd_of.f (k + 1) a0 a1 a2) := by
 intro a0 a1 a2 k
 unfold spec_l20Rd_of.f
 exact mo1 spec_l20Rd_pick.mono
theorem spec_l20Rd_of.calls (k : Nat) (g : Nat) (s0_0 : List Int) (s0_1 : Int) (A1 : Option Addr) (c1 : Nat) (l1 : List ByteArray) (r1 : ByteArray) (r2 : Int) (w0 w : World) (hI : IsS111 w0 w g s0_0 s0_1) (hB : Below w0.heap.size w0 w) (hr1 : Kd.C Kd.string w A1 l1.length l1) (hc1 : l1.length ≤ c1) (hf1 : ∀ ad, A1 = some ad → 0 < l1.length → ad.block ≠ g) (h : spec_l20Rd_of.f k s0_0 s0_1 l1 = some (r1, r2)) :
  Calls Tryd.prog 86 #[.pointer (some ⟨g, 0, none⟩), .slice A1 l1.length c1] w fun e w' => e = .returned (.string r1) ∧ IsS111 w0 w' g s0_0 r2 ∧ Below w0.heap.size w0 w' ∧ KeepBut w w' g none := by
 have HR1 := Aside0.mk hr1
 have HC1 := Aside0.mk hc1
 clear hr1 hc1
 have HI0 := Aside0.mk hI
 have HK := Aside0.mk (KeepBut.refl w g none)
 have HL := Aside0.mk hB.size
 clear hI
 have HW0 := Aside0.mk hB.size
 have HB := Aside0.mk hB
 clear hB
 have H : ((spec_l20Rd_pick.f k s0_0 s0_1 (l1.length : Int)).bind fun bt186 => (if 0 ≤ bt186.1 then (if bt186.1 < (l1.length : Int) then (some (rdOf ByteArray.empty l1 bt186.1, bt186.2)) else (none)) else (none))) = some (r1, r2) := h
 clear h
 replace H := Option.bind_eq_some_iff.mp H
 obtain ⟨⟨t186, t187⟩, A30, H⟩ := H
 have A3 := Aside0.mk A30
 clear A30
 replace H := ipd H
 obtain ⟨c4b0, H⟩ := H
 replace H := ipd H
 obtain ⟨c5b0, H⟩ := H
 simp only [Option.some.injEq, Prod.mk.injEq] at H
 obtain ⟨rfl, rfl⟩ := H
 go_enter Tryd.func86, Tryd.ntmps86
 go_wp2_with ((with_reducible refine gg ?_); refine gL 9 Tryd.func55 #[.pointer (some ⟨g, 0, none⟩), .int .i64 (l1.length : Int)] ?_; (with_reducible refine (spec_l20Rd_pick.calls k g s0_0 s0_1 (l1.length : Int) t186 t187 w0 _ ?side1 ?side2 A3.out).mono ?_); (case side1 => exact iX HI0); (case side2 => exact xBi HB); rintro e w6 ⟨rfl, hi, hb, hk⟩; refine ⟨_, rfl, ?_⟩; replace HK := kT HK hk; replace HB := am (hb); replace HI0 := am (hi); (try clear hb); have p188 : 0 ≤ (t186 : Int) := of_decide_eq_true xA; have q188 : t186 < (l1.length : Int) := of_decide_eq_true xA; obtain ⟨ad188, e188, hx188_0⟩ := Kd.at_string HR1.out t186 p188 q188; cases e188; replace hx188_0 := keep_cell HK.out hx188_0 (by first | (rw [add_block]; exact hf1 _ rfl (by omega)) | exact hf1 _ rfl (by omega) | exact hf1 ad188 rfl (by omega)); replace p188 := eq_true p188; replace q188 := eq_true q188)
 go_ret
 exact ⟨xE, iX HI0, xBi HB, xK HK⟩
def spec_l1Consts.f  : Option (List Int × List Int) := some ((([1779033703, 3144134277, 1013904242, 2773480762, 1359893119, 2600822924, 528734635, 1541459225] : List Int)), (([1116352408, 1899447441, 3049323471, 3921009573, 961987163, 1508970993, 2453635748, 2870763221, 3624381080, 310598401, 607225278, 1426881987, 1925078388, 2162078206, 2614888103, 3248222580, 3835390401, 4022224774, 264347078, 604807628, 770255983, 1249150122, 1555081692, 1996064986, 2554220882, 2821834349, 2952996808, 3210313671, 3336571891, 3584528711, 113926993, 338241895, 666307205, 773529912, 1294757372, 1396182291, 1695183700, 1986661051, 2177026350, 2456956037, 2730485921, 2820302411, 3259730800, 3345764771, 3516065817, 3600352804, 4094571909, 275423344, 430227734, 506948616, 659060556, 883997877, 958139571, 1322822218, 1537002063, 1747873779, 1955562222, 2024104815, 2227730452, 2361852424, 2428436474, 2756734187, 3204031479, 3329325298] : List Int)))
theorem spec_l1Consts.calls  (r1 : List Int) (r2 : List Int) (w : World) (h : spec_l1Consts.f  = some (r1, r2)) :
  Calls Tryd.prog 123 #[] w fun e w' => ∃ v0_ v1_ : Value, e = .returned (.tuple #[v0_, v1_]) ∧ Kd.R (Kd.int .i64) 3 w' w.heap.size (fun k_ => some k_ ≠ (v1_ : Value).ownBlock) v0_ r1 ∧ Kd.R (Kd.int .i64) 3 w' w.heap.size (fun k_ => some k_ ≠ (v0_ : Value).ownBlock) v1_ r2 ∧ Below w.heap.size w w' := by
 have HB := Aside0.mk (Below.refl w.heap.size w)
 have H : (some ((([1779033703, 3144134277, 1013904242, 2773480762, 1359893119, 2600822924, 528734635, 1541459225] : List Int)), (([1116352408, 1899447441, 3049323471, 3921009573, 961987163, 1508970993, 2453635748, 2870763221, 3624381080, 310598401, 607225278, 1426881987, 1925078388, 2162078206, 2614888103, 3248222580, 3835390401, 4022224774, 264347078, 604807628, 770255983, 1249150122, 1555081692, 1996064986, 2554220882, 2821834349, 2952996808, 3210313671, 3336571891, 3584528711, 113926993, 338241895, 666307205, 773529912, 1294757372, 1396182291, 1695183700, 1986661051, 2177026350, 2456956037, 2730485921, 2820302411, 3259730800, 3345764771, 3516065817, 3600352804, 4094571909, 275423344, 430227734, 506948616, 659060556, 883997877, 958139571, 1322822218, 1537002063, 1747873779, 1955562222, 2024104815, 2227730452, 2361852424, 2428436474, 2756734187, 3204031479, 3329325298] : List Int)))) = some (r1, r2) := h
 clear h
 obtain ⟨y189, Ny189⟩ := yA (([1779033703, 3144134277, 1013904242, 2773480762, 1359893119, 2600822924, 528734635, 1541459225] : List Int) : List Int)
 rw [← Ny189.out] at H
 obtain ⟨y192, Ny192⟩ := yA (([1116352408, 1899447441, 3049323471, 3921009573, 961987163, 1508970993, 2453635748, 2870763221, 3624381080, 310598401, 607225278, 1426881987, 1925078388, 2162078206, 2614888103, 3248222580, 3835390401, 4022224774, 264347078, 604807628, 770255983, 1249150122, 1555081692, 1996064986, 2554220882, 2821834349, 2952996808, 3210313671, 3336571891, 3584528711, 113926993, 338241895, 666307205, 773529912, 1294757372, 1396182291, 1695183700, 1986661051, 2177026350, 2456956037, 2730485921, 2820302411, 3259730800, 3345764771, 3516065817, 3600352804, 4094571909, 275423344, 430227734, 506948616, 659060556, 883997877, 958139571, 1322822218, 1537002063, 1747873779, 1955562222, 2024104815, 2227730452, 2361852424, 2428436474, 2756734187, 3204031479, 3329325298] : List Int) : List Int)
 rw [← Ny192.out] at H
 simp only [Option.some.injEq, Prod.mk.injEq] at H
 obtain ⟨rfl, rfl⟩ := H
 go_enter Tryd.func123, Tryd.ntmps123
 go_wp2_with (first | ((with_reducible refine gate_dst (N := 4) rfl ?_); refine Kd.R_lit (Kd.int .i64) _ 3 ?hg (N := 4) ?hd (xs := ([1779033703, 3144134277, 1013904242, 2773480762, 1359893119, 2600822924, 528734635, 1541459225] : List Int)) (inner := [.int .i64 1779033703, .int .i64 3144134277, .int .i64 1013904242, .int .i64 2773480762, .int .i64 1359893119, .int .i64 2600822924, .int .i64 528734635, .int .i64 1541459225]) (ok := fun _ => True) (okp := fun _ => True) ?hr ?hp (fun _ hk => hk) trivial (Below.refl _ _) (Nat.le_refl _) (by simp) ?_; (case hd => rfl); (case hg => rfl); (case hr => first | (go_simp; done) | (go_simp; rfl)); (case hp => exact xP); intro v190 w1 ho2 hb hg_ hnew_; clear hg_ hnew_; (first | rw [← Ny189.out] at ho2 | (simp only [Int.reduceToNat] at ho2; rw [← Ny189.out] at ho2)); have HO191 := am (Kd.R_lower ho2 (below_size (bl HB))); replace HB := kH HB hb; clear hb ho2) | ((with_reducible refine gate_dst (N := 5) rfl ?_); refine Kd.R_lit (Kd.int .i64) _ 3 ?hg (N := 5) ?hd (xs := ([1116352408, 1899447441, 3049323471, 3921009573, 961987163, 1508970993, 2453635748, 2870763221, 3624381080, 310598401, 607225278, 1426881987, 1925078388, 2162078206, 2614888103, 3248222580, 3835390401, 4022224774, 264347078, 604807628, 770255983, 1249150122, 1555081692, 1996064986, 2554220882, 2821834349, 2952996808, 3210313671, 3336571891, 3584528711, 113926993, 338241895, 666307205, 773529912, 1294757372, 1396182291, 1695183700, 1986661051, 2177026350, 2456956037, 2730485921, 2820302411, 3259730800, 3345764771, 3516065817, 3600352804, 4094571909, 275423344, 430227734, 506948616, 659060556, 883997877, 958139571, 1322822218, 1537002063, 1747873779, 1955562222, 2024104815, 2227730452, 2361852424, 2428436474, 2756734187, 3204031479, 3329325298] : List Int)) (inner := [.int .i64 1116352408, .int .i64 1899447441, .int .i64 3049323471, .int .i64 3921009573, .int .i64 961987163, .int .i64 1508970993, .int .i64 2453635748, .int .i64 2870763221, .int .i64 3624381080, .int .i64 310598401, .int .i64 607225278, .int .i64 1426881987, .int .i64 1925078388, .int .i64 2162078206, .int .i64 2614888103, .int .i64 3248222580, .int .i64 3835390401, .int .i64 4022224774, .int .i64 264347078, .int .i64 604807628, .int .i64 770255983, .int .i64 1249150122, .int .i64 1555081692, .int .i64 1996064986, .int .i64 2554220882, .int .i64 2821834349, .int .i64 2952996808, .int .i64 3210313671, .int .i64 3336571891, .int .i64 3584528711, .int .i64 113926993, .int .i64 338241895, .int .i64 666307205, .int .i64 773529912, .int .i64 1294757372, .int .i64 1396182291, .int .i64 1695183700, .int .i64 1986661051, .int .i64 2177026350, .int .i64 2456956037, .int .i64 2730485921, .int .i64 2820302411, .int .i64 3259730800, .int .i64 3345764771, .int .i64 3516065817, .int .i64 3600352804, .int .i64 4094571909, .int .i64 275423344, .int .i64 430227734, .int .i64 506948616, .int .i64 659060556, .int .i64 883997877, .int .i64 958139571, .int .i64 1322822218, .int .i64 1537002063, .int .i64 1747873779, .int .i64 1955562222, .int .i64 2024104815, .int .i64 2227730452, .int .i64 2361852424, .int .i64 2428436474, .int .i64 2756734187, .int .i64 3204031479, .int .i64 3329325298]) (ok := fun _ => True) (okp := fun _ => True) ?hr ?hp (fun _ hk => hk) trivial (Below.refl _ _) (Nat.le_refl _) (by simp) ?_; (case hd => rfl); (case hg => rfl); (case hr => first | (go_simp; done) | (go_simp; rfl)); (case hp => exact xP); intro v193 w3 ho4 hb hg_ hnew_; clear hg_ hnew_; (first | rw [← Ny192.out] at ho4 | (simp only [Int.reduceToNat] at ho4; rw [← Ny192.out] at ho4)); have HO194 := am (Kd.R_lower (Kd.R_new' ho4 (Kd.R_lt (ra HO191))) (below_size (bl HB))); replace HO191 := am (Kd.R_elder' (ra HO191) (Kd.R_base ho4) hb); replace HB := kH HB hb; clear hb ho4))
 go_ret2
 exact ⟨_, _, xE, rM HO191 (fun _ hk => hk.2), rM HO194 (fun _ hk => hk.2), bl HB⟩
mutual
def spec_l1Pad.l0 : Nat → ByteArray → List Int → Int → Option (List Int)
 | 0, _, _, _ => none
 | k + 1, x0, x3, x4 => if x4 < (x0.size : Int) then (if 0 ≤ x4 then (if x4 < (x3.length : Int) then (spec_l1Pad.l0 k x0 (x3.set (x4 : Int).toNat (wrap64 (bt x0 x4))) (wrap64 (x4 + 1))) else (none)) else (none)) else (if 0 ≤ (x0.size : Int) then (if (x0.size : Int) < (x3.length : Int) then (spec_l1Pad.l1 k (x3.set ((x0.size : Int) : Int).toNat 128) (wrap64 ((x0.size : Int) * 8)) 0) else (none)) else (none))
def spec_l1Pad.l1 : Nat → List Int → Int → Int → Option (List Int)
 | 0, _, _, _ => none
 | k + 1, x3, x5, x6 => if x6 < 8 then (if 0 ≤ (wrap64 (8 * x6)) then (if 0 ≤ (wrap64 ((wrap64 ((x3.length : Int) - 1)) - x6)) then (if (wrap64 ((wrap64 ((x3.length : Int) - 1)) - x6)) < (x3.length : Int) then (spec_l1Pad.l1 k (x3.set ((wrap64 ((wrap64 ((x3.length : Int) - 1)) - x6)) : Int).toNat (Go.bits .and .i64 (shr .i64 x5 (wrap64 (8 * x6))) 255)) x5 (wrap64 (x6 + 1))) else (none)) else (none)) else (none)) else (some x3)
end
def spec_l1Pad.f (k : Nat) (a0 : ByteArray) : Option (List Int) := if 0 ≤ (wrap64 ((wrap64 (Int.tdiv (wrap64 ((a0.size : Int) + 72)) 64)) * 64)) then (if (wrap64 ((wrap64 (Int.tdiv (wrap64 ((a0.size : Int) + 72)) 64)) * 64) : Int).toNat ≤ 35184372088832 then (spec_l1Pad.l0 k a0 (List.replicate (wrap64 ((wrap64 (Int.tdiv (wrap64 ((a0.size : Int) + 72)) 64)) * 64) : Int).toNat 0) 0) else (none)) else (none)
theorem spec_l1Pad.mono_l : ∀ k, (∀ y0 y1 y2, LeO (spec_l1Pad.l0 k y0 y1 y2) (spec_l1Pad.l0 (k + 1) y0 y1 y2)) ∧ (∀ y0 y1 y2, LeO (spec_l1Pad.l1 k y0 y1 y2) (spec_l1Pad.l1 (k + 1) y0 y1 y2))
 | 0 => ⟨fun _ _ _ r h => by simp [spec_l1Pad.l0] at h, fun _ _ _ r h => by simp [spec_l1Pad.l1] at h⟩
 | k + 1 => by
  obtain ⟨ih0, ih1⟩ := spec_l1Pad.mono_l k
  refine ⟨?_, ?_⟩
  ·intro y0 y1 y2
   unfold spec_l1Pad.l0
   exact mo2 ih0 ih1
  ·intro y0 y1 y2
   unfold spec_l1Pad.l1
   exact mo2 ih0 ih1
theorem spec_l1Pad.mono : ∀ a0 k, LeO (spec_l1Pad.f k a0) (spec_l1Pad.f (k + 1) a0) := by
 intro a0 k
 obtain ⟨ih0, ih1⟩ := spec_l1Pad.mono_l k
 unfold spec_l1Pad.f
 exact mo2 ih0 ih1
theorem spec_l1Pad.calls (k : Nat) (a0 : ByteArray) (r : List Int) (w : World) (h : spec_l1Pad.f k a0 = some r) :
  Calls Tryd.prog 124 #[.string a0] w fun e w' => ∃ v0_ : Value, e = .returned (v0_) ∧ Kd.R (Kd.int .i64) 3 w' w.heap.size (fun _ => True) v0_ r ∧ Below w.heap.size w w' := by
 have HB := Aside0.mk (Below.refl w.heap.size w)
 have H : (if 0 ≤ (wrap64 ((wrap64 (Int.tdiv (wrap64 ((a0.size : Int) + 72)) 64)) * 64)) then (if (wrap64 ((wrap64 (Int.tdiv (wrap64 ((a0.size : Int) + 72)) 64)) * 64) : Int).toNat ≤ 35184372088832 then (spec_l1Pad.l0 k a0 (List.replicate (wrap64 ((wrap64 (Int.tdiv (wrap64 ((a0.size : Int) + 72)) 64)) * 64) : Int).toNat 0) 0) else (none)) else (none)) = some r := h
 clear h
 obtain ⟨ji2, hji2⟩ := je (wrap64 ((wrap64 (Int.tdiv (wrap64 ((a0.size : Int) + 72)) 64)) * 64))
 first | rw [hji2] at H | simp only [hji2] at H
 have hji2w : (IntKind.i64.wrap ((wrap64 (Int.tdiv (wrap64 ((a0.size : Int) + 72)) 64)) * 64)) = ji2 := (i64_w _).trans hji2
 replace H := ip H
 obtain ⟨c3, H⟩ := H
 have c3b0 := eq_true c3
 have c3b1 := decide_eq_true c3
 clear c3
 replace H := ip H
 obtain ⟨c4, H⟩ := H
 have c4b0 := eq_true c4
 have c4b1 := decide_eq_true c4
 clear c4
 obtain ⟨y195, Ny195⟩ := yA (List.replicate (ji2 : Int).toNat 0 : List Int)
 rw [← Ny195.out] at H
 have H' := Aside0.mk H
 clear H
 go_enter Tryd.func124, Tryd.ntmps124
 go_wp2_with ((with_reducible refine gate_dst (N := 12) rfl ?_); refine Kd.R_make (Kd.int .i64) _ 3 rfl (N := 12) rfl 114 _ _ rfl ji2 rfl rfl Tryd.underlying114 (.int .i64 0) 8 info3 rfl (by decide) (by omega) 0 (ok := fun _ => True) (okp := fun _ => True) rfl (fun _ hk => hk) trivial (of_decide_eq_true xA) (Nat.le_trans (Nat.mul_le_mul_right _ (of_decide_eq_true xA : ji2.toNat ≤ 35184372088832)) (by omega)) (Below.refl _ _) (Nat.le_refl _) ?_; intro v196 w5 ho6 hb hg_ hnew_; clear hg_ hnew_; (first | rw [← Ny195.out] at ho6 | (simp only [Int.reduceToNat] at ho6; rw [← Ny195.out] at ho6)); have HO197 := am (Kd.R_lower ho6 (below_size (bl HB))); replace HB := kH HB hb; clear hb ho6)
 go_loopg [4] k (fun kq v4 w' => ∃ (x3_1 : List Int) (x4_1 : Int), v4 = .int .i64 x4_1 ∧ Aside0 (spec_l1Pad.l0 kq a0 x3_1 x4_1 = some r) ∧ Aside0 (kq ≤ k) ∧ Aside0 (Kd.R (Kd.int .i64) 3 w' w.heap.size (fun _ => True) v196 x3_1) ∧ Aside0 (Below w.heap.size w w'))
 case atStart => exact ⟨(y195), (0), xR, H', ⟨Nat.le_refl _⟩, ⟨ra HO197⟩, ⟨bl HB⟩⟩
 case round =>
  clear H'
  try clear c1
  try clear p2
  try clear c3
  try clear c3b0
  try clear c3b1
  try clear c4
  try clear c4b0
  try clear c4b1
  try clear p6
  obtain ⟨x3_1, x4_1, rfl, HA, HK1, HO_3, HB⟩ := hrel
  cases gk with
  | zero => exact absurd HA.out (by simp [spec_l1Pad.l0])
  | succ k1 =>
   have H := HA.out
   clear HA
   simp only [spec_l1Pad.l0] at H
   by_cases c7 : x4_1 < (a0.size : Int)
   ·rw [if_pos c7] at H
    have c7b0 := decide_eq_true c7
    clear c7
    replace H := ipd H
    obtain ⟨c8b0, H⟩ := H
    replace H := ipd H
    obtain ⟨c10b0, H⟩ := H
    obtain ⟨y198, Ny198⟩ := yA (x3_1.set (x4_1 : Int).toNat (wrap64 (bt a0 x4_1)) : List Int)
    first | rw [← Ny198.out] at H | (replace H := bh H; rw [← Ny198.out] at H)
    have H' := Aside0.mk H
    clear H
    have p9 : 0 ≤ (x4_1 : Int) := of_decide_eq_true xA
    have q9 : x4_1 < (a0.size : Int) := of_decide_eq_true xA
    have hx9 := bt_at a0 x4_1
    replace p9 := eq_true p9
    replace q9 := eq_true q9
    have p11 : 0 ≤ (x4_1 : Int) := of_decide_eq_true xA
    have q11 : (x4_1 : Int) < ((x3_1.length : Int) : Int) := of_decide_eq_true xA
    obtain ⟨go11, co11, eo11, gb11, gl11, cl11, HG11⟩ := Kd.R_form HO_3.out (by omega)
    (first | cases eo11 | (injection eo11 with ea_ en_ ec_; (first | subst ea_ | (injection ea_ with ea_; subst ea_)); subst ec_; clear en_))
    have GB11 := Aside0.mk gb11
    have GG11 := Aside0.mk HG11
    clear gb11 gl11 HG11
    obtain ⟨hx11_0, hf11_0⟩ := Kd.R_celln 0 HO_3.out (x4_1 : Int) p11 q11
    replace p11 := eq_true p11
    replace q11 := eq_true q11
    have HP12 := Kd.R_putg HO_3.out (x4_1 : Int) (wrap64 (bt a0 x4_1))
    go_wp2_with ((with_reducible refine gate_store (t := 3) (p := 25) rfl ?_); refine store_event (t := 3) (p := 25) (v := ?vo_w13) (w1 := (wr.setCell ⟨go11, (x4_1 : Int).toNat, none⟩ (.int .i64 (wrap64 (bt a0 x4_1))))) ?hg ?ho ?hn ?hr ?_; (case ho => rfl); (case hg => rfl); (case hn => rfl); (case hr => first | (go_simp; done) | (go_simp; rfl)); intro w13 hw; have hg : wr.grownBy w13 (some go11) := (by rw [hw]; exact HP12.2); have hp_ : Kd.R (Kd.int .i64) 3 w13 w.heap.size (fun _ => True) (.slice (some ⟨go11, 0, none⟩) x3_1.length co11) y198 := (by rw [hw, Ny198.out]; exact HP12.1); clear HP12; replace HO_3 := am (hp_); replace HB := am ((by rw [hw]; exact below_set (HB.out) GB11.out : Below w.heap.size w w13)); clear hg hw hp_)
    go_roundg k1
    case measure => have := HK1.out; omega
    case rel => exact ⟨(y198), (wrap64 (x4_1 + 1)), xR, H', ⟨xL HK1⟩, ⟨ra HO_3⟩, ⟨bl HB⟩⟩
   rw [if_neg c7] at H
   have c7b0 := decide_eq_false c7
   clear c7
   replace H := ip H
   obtain ⟨c14, H⟩ := H
   have c14b0 := decide_eq_true c14
   have c14b1 : decide (0 ≤ a0.size) = true := decide_eq_true (by omega)
   clear c14
   replace H := ip H
   obtain ⟨c15, H⟩ := H
   have c15b0 := decide_eq_true c15
   have c15b1 : decide (a0.size < x3_1.length) = true := decide_eq_true (Int.ofNat_lt.mp c15)
   clear c15
   obtain ⟨y199, Ny199⟩ := yA (x3_1.set ((a0.size : Int) : Int).toNat 128 : List Int)
   first | rw [← Ny199.out] at H | (replace H := bh H; rw [← Ny199.out] at H)
   have H' := Aside0.mk H
   clear H
   have p16 : 0 ≤ ((a0.size : Int) : Int) := of_decide_eq_true xA
   have q16 : ((a0.size : Int) : Int) < ((x3_1.length : Int) : Int) := of_decide_eq_true xA
   obtain ⟨go16, co16, eo16, gb16, gl16, cl16, HG16⟩ := Kd.R_form HO_3.out (by omega)
   (first | cases eo16 | (injection eo16 with ea_ en_ ec_; (first | subst ea_ | (injection ea_ with ea_; subst ea_)); subst ec_; clear en_))
   have GB16 := Aside0.mk gb16
   have GG16 := Aside0.mk HG16
   clear gb16 gl16 HG16
   obtain ⟨hx16_0, hf16_0⟩ := Kd.R_celln 0 HO_3.out ((a0.size : Int) : Int) p16 q16
   replace p16 := eq_true p16
   replace q16 := eq_true q16
   have HP17 := Kd.R_putg HO_3.out ((a0.size : Int) : Int) 128
   go_wp2_with ((with_reducible refine gate_store (t := 3) (p := 29) rfl ?_); refine store_event (t := 3) (p := 29) (v := ?vo_w18) (w1 := (wr.setCell ⟨go16, a0.size, none⟩ (.int .i64 128))) ?hg ?ho ?hn ?hr ?_; (case ho => rfl); (case hg => rfl); (case hn => rfl); (case hr => (simp only [Int.toNat_natCast] at hx16_0 hf16_0; first | (go_simp; done) | (go_simp; rfl))); intro w18 hw; have hg : wr.grownBy w18 (some go16) := (by rw [hw]; have e_ := HP17.2; rw [Int.toNat_natCast] at e_; exact e_); have hp_ : Kd.R (Kd.int .i64) 3 w18 w.heap.size (fun _ => True) (.slice (some ⟨go16, 0, none⟩) x3_1.length co16) y199 := (by rw [hw, Ny199.out]; rw [Int.toNat_natCast]; have e_ := HP17.1; rw [Int.toNat_natCast] at e_; exact e_); clear HP17; replace HO_3 := am (hp_); replace HB := am ((by rw [hw]; exact below_set (HB.out) GB16.out : Below w.heap.size w w18)); clear hg hw hp_)
   go_loopg [6] k1 (fun kq v6 w' => ∃ (x3_2 : List Int) (x6_2 : Int), v6 = .int .i64 x6_2 ∧ Aside0 (spec_l1Pad.l1 kq x3_2 (wrap64 ((a0.size : Int) * 8)) x6_2 = some r) ∧ Aside0 (kq ≤ k1) ∧ Aside0 (Kd.R (Kd.int .i64) 3 w' w.heap.size (fun _ => True) (.slice (some ⟨go16, 0, none⟩) x3_1.length co16) x3_2) ∧ Aside0 (Below w.heap.size w w'))
   case atStart => exact ⟨(y199), (0), xR, H', ⟨Nat.le_refl _⟩, ⟨ra HO_3⟩, ⟨bl HB⟩⟩
   case round =>
    clear H'
    try clear c1
    try clear p1
    try clear q1
    try clear hx1
    try clear hf1
    try clear p2
    try clear c3
    try clear c3b0
    try clear c3b1
    try clear c4
    try clear c4b0
    try clear c4b1
    try clear p6
    try clear c7
    try clear c7b0
    try clear c8
    try clear c8b0
    try clear p9
    try clear q9
    try clear hx9
    try clear c10
    try clear c10b0
    try clear p11
    try clear q11
    try clear hx11
    try clear hf11
    try clear c12
    try clear c14
    try clear c14b0
    try clear c14b1
    try clear c15
    try clear c15b0
    try clear c15b1
    try clear p16
    try clear q16
    try clear hx16
    try clear hf16
    try clear hx11_0
    try clear hx16_0
    try clear p11
    try clear p16
    try clear p2
    try clear p6
    try clear p9
    try clear q11
    try clear q16
    try clear q9
    obtain ⟨x3_2, x6_2, rfl, HA, HK2, HO_3, HB⟩ := hrel
    have hl3_2 := (Kd.R_reads' HO_3.out).1
    rw [hl3_2] at HO_3
    (try simp only [hl3_2])
    cases gk with
    | zero => exact absurd HA.out (by simp [spec_l1Pad.l1])
    | succ k2 =>
     have H := HA.out
     clear HA
     simp only [spec_l1Pad.l1] at H
     by_cases c19 : x6_2 < 8
     rotate_left
     ·rw [if_neg c19] at H
      have c19b0 := decide_eq_false c19
      clear c19
      obtain rfl := Option.some.inj H
      go_wp2
      go_ret
      exact ⟨_, by first | rfl | (simp [errW_none, errW_some] <;> rfl) | (simp only [← hji2]; first | rfl | (simp [errW_none, errW_some] <;> rfl)) | (simp [*, errW_none, errW_some] <;> rfl), ra HO_3, bl HB⟩
     rw [if_pos c19] at H
     have c19b0 := decide_eq_true c19
     clear c19
     obtain ⟨ji20, hji20⟩ := je (wrap64 (8 * x6_2))
     first | rw [hji20] at H | simp only [hji20] at H
     have hji20w : (IntKind.i64.wrap (8 * x6_2)) = ji20 := (i64_w _).trans hji20
     replace H := ip H
     obtain ⟨c21, H⟩ := H
     have c21b0 := eq_true c21
     have c21b1 := decide_eq_true c21
     clear c21
     obtain ⟨ji22, hji22⟩ := je (shr .i64 (wrap64 ((a0.size : Int) * 8)) (ji20))
     first | rw [hji22] at H | simp only [hji22] at H
     have hji22_ : ((wrap64 ((a0.size : Int) * 8)) / 2 ^ min (ji20).toNat 64) = ji22 := hji22
     have hji22z : (ji20) ≤ 64 → ((wrap64 ((a0.size : Int) * 8)) / 2 ^ (ji20).toNat) = ji22 := shr_small hji22
     obtain ⟨ji23, hji23⟩ := je (wrap64 ((wrap64 ((x3_2.length : Int) - 1)) - x6_2))
     first | rw [hji23] at H | simp only [hji23] at H
     have hji23w : (IntKind.i64.wrap ((wrap64 ((x3_2.length : Int) - 1)) - x6_2)) = ji23 := (i64_w _).trans hji23
     replace H := ipd H
     obtain ⟨c24b0, H⟩ := H
     replace H := ipd H
     obtain ⟨c25b0, H⟩ := H
     obtain ⟨y200, Ny200⟩ := yA (x3_2.set ((ji23) : Int).toNat (Go.bits .and .i64 (ji22) 255) : List Int)
     first | rw [← Ny200.out] at H | (replace H := bh H; rw [← Ny200.out] at H)
     have H' := Aside0.mk H
     clear H
     have p26 : 0 ≤ ((ji23) : Int) := of_decide_eq_true xA
     have q26 : ((ji23) : Int) < ((x3_2.length : Int) : Int) := of_decide_eq_true xA
     obtain ⟨hx26_0, hf26_0⟩ := Kd.R_celln 0 HO_3.out ((ji23) : Int) p26 q26
     replace p26 := eq_true p26
     replace q26 := eq_true q26
     have HP27 := Kd.R_putg HO_3.out ((ji23) : Int) (Go.bits .and .i64 (ji22) 255)
     go_wp2_with ((with_reducible refine gate_store (t := 3) (p := 48) rfl ?_); refine store_event (t := 3) (p := 48) (v := ?vo_w28) (w1 := (wr.setCell ⟨go16, ((ji23) : Int).toNat, none⟩ (.int .i64 (Go.bits .and .i64 (ji22) 255)))) ?hg ?ho ?hn ?hr ?_; (case ho => rfl); (case hg => rfl); (case hn => rfl); (case hr => first | (go_simp; done) | (go_simp; rfl)); intro w28 hw; have hg : wr.grownBy w28 (some go16) := (by rw [hw]; exact HP27.2); have hp_ : Kd.R (Kd.int .i64) 3 w28 w.heap.size (fun _ => True) (.slice (some ⟨go16, 0, none⟩) x3_2.length co16) y200 := (by rw [hw, Ny200.out]; exact HP27.1); clear HP27; replace HO_3 := am (hp_); replace HB := am ((by rw [hw]; exact below_set (HB.out) GB16.out : Below w.heap.size w w28)); clear hg hw hp_)
     (try simp only [← hl3_2])
     go_roundg k2
     case measure => have := HK1.out; have := HK2.out; omega
     case rel => exact ⟨(y200), (wrap64 (x6_2 + 1)), xR, H', ⟨by have := HK1.out; have := HK2.out; omega⟩, ⟨by (try simp only [hl3_2]); (with_reducible repeat (first | apply Kd.R_alloc | apply Kd.R_drewN | apply Kd.R_drew)); exact HO_3.out⟩, ⟨bl HB⟩⟩
def spec_l1Turn.f (a0 : Int) (a1 : Int) : Option (Int) := if 0 ≤ a1 then (if 0 ≤ (wrap64 (32 - a1)) then (some (Go.bits .or .i64 (shr .i64 a0 a1) (Go.bits .and .i64 (shl .i64 a0 (wrap64 (32 - a1))) 4294967295))) else (none)) else (none)
theorem spec_l1Turn.calls (a0 : Int) (a1 : Int) (r : Int) (w : World) (h : spec_l1Turn.f a0 a1 = some r) :
  Calls Tryd.prog 130 #[.int .i64 a0, .int .i64 a1] w fun e w' => e = .returned (.int .i64 r) ∧ Drawn0 w w' := by
 have H : (if 0 ≤ a1 then (if 0 ≤ (wrap64 (32 - a1)) then (some (Go.bits .or .i64 (shr .i64 a0 a1) (Go.bits .and .i64 (shl .i64 a0 (wrap64 (32 - a1))) 4294967295))) else (none)) else (none)) = some r := h
 clear h
 replace H := ip H
 obtain ⟨c3, H⟩ := H
 have c3b0 := eq_true c3
 have c3b1 := decide_eq_true c3
 clear c3
 obtain ⟨ji4, hji4⟩ := je (shr .i64 a0 a1)
 first | rw [hji4] at H | simp only [hji4] at H
 have hji4_ : (a0 / 2 ^ min a1.toNat 64) = ji4 := hji4
 have hji4z : a1 ≤ 64 → (a0 / 2 ^ a1.toNat) = ji4 := shr_small hji4
 obtain ⟨ji5, hji5⟩ := je (wrap64 (32 - a1))
 first | rw [hji5] at H | simp only [hji5] at H
 have hji5w : (IntKind.i64.wrap (32 - a1)) = ji5 := (i64_w _).trans hji5
 replace H := ip H
 obtain ⟨c6, H⟩ := H
 have c6b0 := eq_true c6
 have c6b1 := decide_eq_true c6
 clear c6
 obtain ⟨ji7, hji7⟩ := je (shl .i64 a0 (ji5))
 first | rw [hji7] at H | simp only [hji7] at H
 have hji7_ : (IntKind.i64.wrap (a0 * 2 ^ min (ji5).toNat 64)) = ji7 := hji7
 have hji7z : (ji5) ≤ 64 → (IntKind.i64.wrap (a0 * 2 ^ (ji5).toNat)) = ji7 := shl_small hji7
 have hji7y : (wrap64 (a0 * 2 ^ min (ji5).toNat 64)) = ji7 := (i64_w _).symm.trans hji7_
 have hji7x : (ji5) ≤ 64 → (wrap64 (a0 * 2 ^ (ji5).toNat)) = ji7 := fun h_ => (i64_w _).symm.trans (hji7z h_)
 obtain rfl := Option.some.inj H
 go_enter Tryd.func130, Tryd.ntmps130
 go_wp2
 repeat (go_quiet (fail); try go_wp2)
 go_ret
 exact ⟨by first | rfl | (simp; done) | (simp only [← hji4, ← hji5, ← hji7] <;> (first | rfl | simp)) | (simp [*]; done), xW⟩
end Go.Proofs.YtgjljbaadglpnaaDoor.PFnHeadGet
