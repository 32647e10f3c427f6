/- Short words for the walks: nothing of the program. -/
import Derived.Test.YtgjljbaadglpnaaGreatDoorWWords
import Derived.Test.YtgjljbaadglpnaaGreatDoorWLast
import Derived.Test.YtgjljbaadglpnaaGreatDoorWTab
import Derived.Test.YtgjljbaadglpnaaGreatDoorWMore
import Derived.Test.YtgjljbaadglpnaaGreatDoorWApart
import Derived.Test.YtgjljbaadglpnaaGreatDoorWN
import Derived.WalkKit
import Derived.KernelRfl
import Derived.Tactics
namespace Go.Proofs.YtgjljbaadglpnaaGreatDoor.Sq
open Go Go.RowKit Go.Proofs.YtgjljbaadglpnaaGreatDoorW.PrintWords Go.Proofs.YtgjljbaadglpnaaGreatDoorW.PrintLast Go.Proofs.YtgjljbaadglpnaaGreatDoorW.PrintMore
set_option linter.unusedVariables false
def Gr (w W : World) : Prop := Below w.heap.size w W
variable {w W W1 : World} {g : Nat} {o : Obj} {t : TypeId}
instance gr0 : Nonempty (Gr w w) := ⟨Below.refl _ _⟩
instance grn (n : Nat) [h : Nonempty (Gr w W)] : Nonempty (Gr w (W.drewN n)) := h.elim fun h => ⟨pw_below_drewN h n⟩
theorem bl {v : World} (h : Aside0 (Below v.heap.size v w)) [k : Nonempty (Gr w W)] : Below v.heap.size v W := k.elim fun k => below_step h.out k
theorem kb (h : Aside0 (w.heap[g]? = some o)) [k : Nonempty (Gr w W)] : W.heap[g]? = some o := k.elim fun k => blk_below h.out k
theorem ra {α : Type} {d : Kd α} {e base : Nat} {ok : Nat → Prop} {v : Value} {xs : List α} (h : Aside0 (d.R e w base ok v xs)) [k : Nonempty (Gr w W)] : d.R e W base ok v xs := k.elim fun k => Kd.R_below h.out k
theorem rb {α : Type} {d : Kd α} {e base : Nat} {ok : Nat → Prop} {v : Value} {xs : List α} (h : Aside0 (d.R e w base ok v xs)) [k : Nonempty (Gr w W)] (hb : Below W.heap.size W W1) : d.R e W1 base ok v xs := Kd.R_below (ra h) hb
theorem cb {α : Type} {d : Kd α} {v : World} {A : Option Addr} {n : Nat} {xs : List α} (h : Aside0 (d.C v A n xs)) (hb : Aside0 (Below v.heap.size v w)) [k : Nonempty (Gr w W)] : d.C W A n xs := Kd.C_below h.out (bl hb)
theorem bd {B : Nat} {v : World} (h : Below B v W) (n : Nat) : Below B v (W.drewN n) := pw_below_drewN h n
theorem b1 {B : Nat} {v : World} (h : Below B v W) : Below B v W.drew := h.drew
theorem bs {v : World} {j : Nat} {u : Value} (h : Below v.heap.size v W) (hg : v.heap.size ≤ g) : Below v.heap.size v (W.setCell ⟨g, j, none⟩ u) := below_set h hg
theorem kn (h : w.heap[g]? = some o) (n : Nat) : (w.drewN n).heap[g]? = some o := h
theorem sa {α : Type} (l : List α) (i : Nat) (x : α) : l.toArray.setIfInBounds i x = (l.set i x).toArray := List.setIfInBounds_toArray l i x
theorem s0 {α : Type} (a b : α) (l : List α) : (a :: l).set 0 b = b :: l := List.set_cons_zero
theorem s1 {α : Type} (a b : α) (l : List α) (n : Nat) : (a :: l).set (n + 1) b = a :: l.set n b := List.set_cons_succ
theorem bc2 {a0 a1 : Value} (h : Aside0 (w.heap[g]? = some (.cells #[a0, a1] t (0, 0)))) : w.cell? ⟨g, 0, none⟩ = some a0 ∧ w.cell? ⟨g, 1, none⟩ = some a1 ∧ w.frozen? ⟨g, 0, none⟩ = false ∧ w.frozen? ⟨g, 1, none⟩ = false := ⟨(blk_cell h.out 0).trans rfl, (blk_cell h.out 1).trans rfl, blk_frozen h.out 0, blk_frozen h.out 1⟩
theorem bc3 {a0 a1 a2 : Value} (h : Aside0 (w.heap[g]? = some (.cells #[a0, a1, a2] t (0, 0)))) : w.cell? ⟨g, 0, none⟩ = some a0 ∧ w.cell? ⟨g, 1, none⟩ = some a1 ∧ w.cell? ⟨g, 2, none⟩ = some a2 ∧ w.frozen? ⟨g, 0, none⟩ = false ∧ w.frozen? ⟨g, 1, none⟩ = false ∧ w.frozen? ⟨g, 2, none⟩ = false := ⟨(blk_cell h.out 0).trans rfl, (blk_cell h.out 1).trans rfl, (blk_cell h.out 2).trans rfl, blk_frozen h.out 0, blk_frozen h.out 1, blk_frozen h.out 2⟩
theorem bc5 {a0 a1 a2 a3 a4 : Value} (h : Aside0 (w.heap[g]? = some (.cells #[a0, a1, a2, a3, a4] t (0, 0)))) : w.cell? ⟨g, 0, none⟩ = some a0 ∧ w.cell? ⟨g, 1, none⟩ = some a1 ∧ w.cell? ⟨g, 2, none⟩ = some a2 ∧ w.cell? ⟨g, 3, none⟩ = some a3 ∧ w.cell? ⟨g, 4, none⟩ = some a4 ∧ w.frozen? ⟨g, 0, none⟩ = false ∧ w.frozen? ⟨g, 1, none⟩ = false ∧ w.frozen? ⟨g, 2, none⟩ = false ∧ w.frozen? ⟨g, 3, none⟩ = false ∧ w.frozen? ⟨g, 4, none⟩ = false := ⟨(blk_cell h.out 0).trans rfl, (blk_cell h.out 1).trans rfl, (blk_cell h.out 2).trans rfl, (blk_cell h.out 3).trans rfl, (blk_cell h.out 4).trans rfl, blk_frozen h.out 0, blk_frozen h.out 1, blk_frozen h.out 2, blk_frozen h.out 3, blk_frozen h.out 4⟩
theorem bc9 {a0 a1 a2 a3 a4 a5 a6 a7 a8 : Value} (h : Aside0 (w.heap[g]? = some (.cells #[a0, a1, a2, a3, a4, a5, a6, a7, a8] t (0, 0)))) : w.cell? ⟨g, 0, none⟩ = some a0 ∧ w.cell? ⟨g, 1, none⟩ = some a1 ∧ w.cell? ⟨g, 2, none⟩ = some a2 ∧ w.cell? ⟨g, 3, none⟩ = some a3 ∧ w.cell? ⟨g, 4, none⟩ = some a4 ∧ w.cell? ⟨g, 5, none⟩ = some a5 ∧ w.cell? ⟨g, 6, none⟩ = some a6 ∧ w.cell? ⟨g, 7, none⟩ = some a7 ∧ w.cell? ⟨g, 8, none⟩ = some a8 ∧ w.frozen? ⟨g, 0, none⟩ = false ∧ w.frozen? ⟨g, 1, none⟩ = false ∧ w.frozen? ⟨g, 2, none⟩ = false ∧ w.frozen? ⟨g, 3, none⟩ = false ∧ w.frozen? ⟨g, 4, none⟩ = false ∧ w.frozen? ⟨g, 5, none⟩ = false ∧ w.frozen? ⟨g, 6, none⟩ = false ∧ w.frozen? ⟨g, 7, none⟩ = false ∧ w.frozen? ⟨g, 8, none⟩ = false := ⟨(blk_cell h.out 0).trans rfl, (blk_cell h.out 1).trans rfl, (blk_cell h.out 2).trans rfl, (blk_cell h.out 3).trans rfl, (blk_cell h.out 4).trans rfl, (blk_cell h.out 5).trans rfl, (blk_cell h.out 6).trans rfl, (blk_cell h.out 7).trans rfl, (blk_cell h.out 8).trans rfl, blk_frozen h.out 0, blk_frozen h.out 1, blk_frozen h.out 2, blk_frozen h.out 3, blk_frozen h.out 4, blk_frozen h.out 5, blk_frozen h.out 6, blk_frozen h.out 7, blk_frozen h.out 8⟩
section
variable {P : Program} {ops : Array Oper} {rest : List Oper} {Q : Exit → Act → World → Prop} {md : Region.Mode} {S : World → Prop} {ds : List Nat} {T : Bool × List (List Nat × List Nat)} {B : List Nat} {oi : Oper} {v : Value} {fuel : Nat} {l : Array Bool} {a a' : Act}
def bmL : Nat → Nat → List Bool
 | 0, _ => []
 | n + 1, x => (x % 2 == 1) :: bmL n (x / 2)
abbrev bm (n x : Nat) : Array Bool := (bmL n x).toArray
theorem pA (i N : Nat) (l' : Array Bool) (hT : Aside0 (rtab md ops = T)) (h : wpAnyLast P md ops Q S ds fuel l' a' w) (hi : ops[i]? = some oi := by rfl) (hN : oi.dst = some N := by rfl) (hc : anyT T l.toList l'.toList i = true := by kernel_rfl)
  (hQ : ∀ c a w, Q (.panic c) (a.put oi.dst v) w → Q (.panic c) a w := by exact fun _ _ _ h => h) (hg : Region.wanted oi (yielded ops a.tmps) = true := by rfl) (hv : ∀ w : World, (execOp a.eval oi).run P w = .ok (.value v) w := by intro w'; go_simp; with_reducible rfl)
  (ha : a.put (some N) v = a' := by simp only [Act.put, sa, s0, s1, i64_w, i32_w]; rfl) : wpAnyLast P md ops Q S ds (fuel + 1) l a w := pure_ l' hi hN (any_of hT.out hc) hQ (Or.inl ⟨hg, hv⟩) ha h
theorem pU (i N : Nat) (l' : Array Bool) (hT : Aside0 (rtab md ops = T)) (h : wpAnyLast P md ops Q S ds fuel l' a' w) (hi : ops[i]? = some oi := by rfl) (hN : oi.dst = some N := by rfl) (hc : anyT T l.toList l'.toList i = true := by kernel_rfl)
  (hQ : ∀ c a w, Q (.panic c) (a.put oi.dst undef) w → Q (.panic c) a w := by exact fun _ _ _ h => h) (hg : Region.wanted oi (yielded ops a.tmps) = false := by rfl)
  (ha : a.put (some N) undef = a' := by simp only [Act.put, sa, s0, s1, i64_w, i32_w]; rfl) : wpAnyLast P md ops Q S ds (fuel + 1) l a w := pure_ l' hi hN (any_of hT.out hc) hQ (Or.inr ⟨hg, rfl⟩) ha h
theorem tA (i N : Nat) (l' : Array Bool) (hT : Aside0 (rtab md ops = T)) (hW : Aside0 (waitsOk T.2 B = true)) (hS : S w) (h : wpAnyLast P md ops Q S ds fuel l' a' w) (hi : ops[i]? = some oi := by rfl) (hN : oi.dst = some N := by rfl) (hc : takeW T B ds l.toList l'.toList i = true := by kernel_rfl)
  (hQ : ∀ c a w, Q (.panic c) (a.put oi.dst v) w → Q (.panic c) a w := by exact fun _ _ _ h => h) (hg : Region.wanted oi (yielded ops a.tmps) = true := by rfl) (hv : ∀ w : World, S w → (execOp a.eval oi).run P w = .ok (.value v) w := by intro w' h_; (repeat (obtain ⟨s_, h_⟩ := h_)); go_simp; with_reducible rfl)
  (ha : a.put (some N) v = a' := by simp only [Act.put, sa, s0, s1, i64_w, i32_w]; rfl) : wpAnyLast P md ops Q S ds (fuel + 1) l a w := take_ l' hi hN (take_ofW hT.out hW.out hc) hQ (Or.inl ⟨hg, hv⟩) hS ha h
theorem nA (N : Option Tmp) {a0 : Act} (h : wpAnyLast P md ops Q S ds fuel l a' w) (he : a = Act.put a0 N v := by rfl) (ha : Act.put a0 N v = a' := by simp only [Act.put, sa, s0, s1, i64_w, i32_w]; rfl) : wpAnyLast P md ops Q S ds fuel l a w := norm_ (he.trans ha) h
theorem oA (i : Nat) (N : Option Tmp) (l' : Array Bool) (hT : Aside0 (rtab md ops = T)) (h : ∀ K : Act → World → Prop, Shut (∀ a' w', S w' → (S w' → wpAnyLast P md ops Q S ds fuel l' a' w') → K a' w') → if Region.wanted oi (yielded ops a.tmps) = true then Oper.wp P oi a w K Q else K (a.put N undef) w)
  (hi : ops[i]? = some oi := by rfl) (hN : oi.dst = N := by rfl) (hc : (readyT T.2 l.toList == [i] && l.toList.set i true == l'.toList) = true := by kernel_rfl) (hd : i ∉ ds := by decide) : wpAnyLast P md ops Q S ds (fuel + 1) l a w := one_ l' hi hN (one_of hT.out hc) hd h
theorem gA {N : Option Tmp} {K : Act → World → Prop} {f : FuncId} {fn : Func} {as : Array Operand} {ts : Array TypeId} (hf : P.funcs[f]? = some fn) (args : Array Value) (h : Calls P f args w fun e w' => ∃ v, e = .returned v ∧ K (a.put N v) w')
  (hname : (fn.name == "runtime.NumGoroutine") = false := by kernel_rfl) (hb : fn.body.isSome = true := by rfl) (hw : Region.wanted oi (yielded ops a.tmps) = true := by rfl) (hN : oi.dst = N := by rfl) (hop : oi.op = .call { callee := .value (.func f), args := as, argTypes := ts } := by rfl)
  (hargs : as.map a.eval = args := by first | rfl | (simp only [List.map_toArray, List.map_cons, List.map_nil, List.length_drop, List.length_take]; first | done | rfl)) : if Region.wanted oi (yielded ops a.tmps) = true then Oper.wp P oi a w K Q else K (a.put N undef) w := goes_ hf hname hb args hw hN hop hargs h
theorem gg (h : wpList P ops Q (oi :: rest) a w) : wpList P ops Q (oi :: rest) a w := h
theorem gL (N : Tmp) {f : FuncId} {fn : Func} {as : Array Operand} {ts : Array TypeId} (hf : P.funcs[f]? = some fn) (args : Array Value) (h : Calls P f args w fun e w' => ∃ v, e = .returned v ∧ wpList P ops Q rest (a.put (some N) v) w')
  (hd : oi.dst = some N := by rfl) (hop : oi.op = .call { callee := .value (.func f), args := as, argTypes := ts } := by rfl) (hg : oi.guard = none := by rfl) (hname : (fn.name == "runtime.NumGoroutine") = false := by kernel_rfl) (hb : fn.body.isSome = true := by rfl)
  (hargs : as.map a.eval = args := by first | rfl | (simp only [List.map_toArray, List.map_cons, List.map_nil, List.length_drop, List.length_take]; first | done | rfl)) : wpList P ops Q (oi :: rest) a w := goesL_ (some N) hd hg hf hname hb args hop hargs h
theorem bE (N : Tmp) (cs : Array Value) (t : TypeId) (h : ∀ g, g = w.heap.size → ∀ w1, w1.heap[g]? = some (.cells cs t (0, 0)) → Below w.heap.size w w1 → wpList P ops Q rest (a.put oi.dst (.pointer (some ⟨g, 0, none⟩))) w1)
  (hd : oi.dst = some N := by rfl) (hg : oi.guard = none := by rfl) (hr : (execOp a.eval oi).run P w = .ok (.value (.pointer (some ⟨w.heap.size, 0, none⟩))) (w.alloc (.cells cs t (0, 0))) := by first | (go_simp; done) | (go_simp; rfl)) : wpList P ops Q (oi :: rest) a w := box_event hg hd hr h
theorem bS (N : Tmp) {K : Act → World → Prop} (cs : Array Value) (t : TypeId) (h : ∀ g, g = w.heap.size → ∀ w1, w1.heap[g]? = some (.cells cs t (0, 0)) → Below w.heap.size w w1 → K (a.put oi.dst (.pointer (some ⟨g, 0, none⟩))) w1)
  (hd : oi.dst = some N := by rfl) (hg : Region.wanted oi (yielded ops a.tmps) = true := by rfl) (hr : (execOp a.eval oi).run P w = .ok (.value (.pointer (some ⟨w.heap.size, 0, none⟩))) (w.alloc (.cells cs t (0, 0))) := by first | (go_simp; done) | (go_simp; rfl)) : if Region.wanted oi (yielded ops a.tmps) = true then Oper.wp P oi a w K Q else K (a.put oi.dst undef) w := box_step hg hd hr h
end
section
variable {p q : Prop} {v : World}
theorem am (h : p) : Aside0 p := ⟨h⟩
theorem xE (h : p := by first | rfl | (simp [errW_none, errW_some] <;> rfl) | (simp [*, errW_none, errW_some] <;> rfl)) : p := h
theorem xB {B : Nat} (H : Aside0 (Below B v w)) (h : Below B v w → p := by intro h_; repeat (with_reducible first | exact h_ | apply ba | apply bd | apply b1 | refine bs ?_ (Aside0.out (by assumption)))) : p := h H.out
theorem kH (H : Aside0 (Below v.heap.size v w)) (hb : Below W.heap.size W W1) (h : Below v.heap.size v w → Below v.heap.size v W := by intro h_; repeat (with_reducible first | exact h_ | apply ba | apply bd | apply b1 | refine bs ?_ (Aside0.out (by assumption)))) : Aside0 (Below v.heap.size v W1) := ⟨below_step (h H.out) hb⟩
theorem zB {gb : Nat} (hg : gb = W.heap.size) (H : Aside0 (Below v.heap.size v w)) (h : Below v.heap.size v w → Below v.heap.size v W := by intro h_; repeat (with_reducible first | exact h_ | apply ba | apply bd | apply b1 | refine bs ?_ (Aside0.out (by assumption)))) : Aside0 (v.heap.size ≤ gb) := ⟨by rw [hg]; exact (h H.out).size⟩
theorem nl {gb : Nat} (hg : gb = W.heap.size) (h : W.heap[g]? = some o) : Aside0 (g ≠ gb) := ⟨by rw [hg]; exact Nat.ne_of_lt (blk_lt h)⟩
theorem ng {gb : Nat} (hg : gb = W.heap.size) (h : W.heap[g]? = some o) : Aside0 (gb ≠ g) := ⟨by rw [hg]; exact Nat.ne_of_gt (blk_lt h)⟩
theorem bf {g' i : Nat} {u : Value} {cs : Array Value} (h : w.heap[g]? = some (.cells cs t (0, 0))) (hp : Aside0 (g ≠ g')) : (w.setCell ⟨g', i, none⟩ u).heap[g]? = some (.cells cs t (0, 0)) := blk_far h hp.out u
theorem bp {i : Nat} {u : Value} {cs cs' : Array Value} (h : w.heap[g]? = some (.cells cs t (0, 0))) (e : cs.setIfInBounds i u = cs') : (w.setCell ⟨g, i, none⟩ u).heap[g]? = some (.cells cs' t (0, 0)) := blk_put h i u e
theorem fb {o' : Obj} (H : Aside0 (w.heap[g]? = some o)) (h : w.heap[g]? = some o → W.heap[g]? = some o' := by intro h_; (repeat (with_reducible first | exact h_ | apply kn | apply kd | apply ka | apply bp | apply bf)); all_goals (first | (simp only [sa, s0, s1]; done) | (simp only [sa, s0, s1]; rfl) | rfl | assumption)) : W.heap[g]? = some o' := h H.out
theorem kP (o' : Obj) (H : Aside0 (w.heap[g]? = some o)) (hb : Below W.heap.size W W1) (h : w.heap[g]? = some o → W.heap[g]? = some o' := by intro h_; (repeat (with_reducible first | exact h_ | apply kn | apply kd | apply ka | apply bp | apply bf)); all_goals (first | (simp only [sa, s0, s1]; done) | (simp only [sa, s0, s1]; rfl) | rfl | assumption)) : Aside0 (W1.heap[g]? = some o') := ⟨blk_below (h H.out) hb⟩
theorem hc {A : Addr} {c : Value} {B : Nat} (H : Aside0 (Below B w W)) (h : w.cell? A = some c) (hB : B = w.heap.size := by rfl) : W.cell? A = some c := (Below.cell (hB ▸ H.out) (World.block_lt_of_cell? w _ h)).trans h
theorem hd {A : Addr} {c : Value} {B : Nat} {W' : World} (H : Aside0 (Below B w W)) (h : w.cell? A = some c) [k : Nonempty (Gr W W')] (hB : B = w.heap.size := by rfl) : W'.cell? A = some c := k.elim fun k => (Below.cell k (World.block_lt_of_cell? W _ (hc H h hB))).trans (hc H h hB)
section
variable {α : Type} {d : Kd α} {e base : Nat} {ok : Nat → Prop} {u : Value} {xs : List α}
theorem rk (h : Aside0 (d.R e w base ok u xs)) [k : Nonempty (Gr w W)] (hb : Below W.heap.size W W1) : Aside0 (d.R e W1 base ok u xs) := ⟨rb h hb⟩
theorem qk (h : Aside0 (d.Q e w base ok u xs)) [k : Nonempty (Gr w W)] (hb : Below W.heap.size W W1) : Aside0 (d.Q e W1 base ok u xs) := ⟨k.elim fun k => Kd.Q_below (Kd.Q_below h.out k) hb⟩
theorem rg {i : Nat} {z : Value} (h : d.R e w base (fun k => ok k ∧ k ≠ g) u xs) : d.R e (w.setCell ⟨g, i, none⟩ z) base (fun k => ok k ∧ k ≠ g) u xs := Kd.R_far h (fun _ hk => hk.2) z
theorem rf {cs : Array Value} (H : Aside0 (d.R e w base ok u xs)) (hb : Aside0 (w.heap[g]? = some (.cells cs t (0, 0)))) (ht : ∀ q, q ∈ e :: d.E → q ≠ t := by decide)
  (h : d.R e w base (fun k => ok k ∧ k ≠ g) u xs → d.R e W base (fun k => ok k ∧ k ≠ g) u xs := by intro h_; repeat (with_reducible first | exact h_ | apply Kd.R_alloc | apply Kd.R_drewN | apply Kd.R_drew | apply rg)) : d.R e W base ok u xs := Kd.R_mono (h (Kd.R_types H.out hb.out ht)) (fun _ h => h.1)
end
section
variable {α : Type} {d : Kd α} {e base n : Nat} {ok ok' : Nat → Prop} {u : Value} {xs : List α} {v w0 : World} {row : Option Nat} {A : Option Addr} {a : Addr} {c : Value} {gb : Nat}
theorem xK (H : Aside0 (KeepBut v w g row)) (h : KeepBut v w g row → p := by intro h_; (repeat (with_reducible first | exact h_ | apply KeepBut.set_ | apply keep_drewN | apply keep_drew | apply keep_alloc | refine keep_far ?_ (Aside0.out (by assumption)) _)); all_goals exact h_) : p := h H.out
theorem xZ (H : Aside0 (KeepBut v w g none)) (h : KeepBut v w g none → KeepBut v W g none := by intro h_; (repeat (with_reducible first | exact h_ | apply KeepBut.set_ | apply keep_drewN | apply keep_drew | apply keep_alloc | refine keep_far ?_ (Aside0.out (by assumption)) _)); all_goals exact h_) : v.heap.size ≤ W.heap.size := keep_size (h H.out)
theorem kK (H : Aside0 (KeepBut v w g none)) (hb : Below W.heap.size W W1) (h : KeepBut v w g none → KeepBut v W g none := by intro h_; (repeat (with_reducible first | exact h_ | apply KeepBut.set_ | apply keep_drewN | apply keep_drew | apply keep_alloc | refine keep_far ?_ (Aside0.out (by assumption)) _)); all_goals exact h_) : Aside0 (KeepBut v W1 g none) := ⟨KeepBut.trans (h H.out) (KeepBut.of_below hb g none) (.inl rfl)⟩
theorem kT (H : Aside0 (KeepBut v w g none)) (hk : KeepBut W W1 g none) (h : KeepBut v w g none → KeepBut v W g none := by intro h_; (repeat (with_reducible first | exact h_ | apply KeepBut.set_ | apply keep_drewN | apply keep_drew | apply keep_alloc | refine keep_far ?_ (Aside0.out (by assumption)) _)); all_goals exact h_) : Aside0 (KeepBut v W1 g none) := ⟨KeepBut.trans (h H.out) hk (.inl rfl)⟩
theorem gW (hg : gb = W.heap.size) (H : Aside0 (KeepBut v w g none)) (h : KeepBut v w g none → KeepBut v W g none := by intro h_; (repeat (with_reducible first | exact h_ | apply KeepBut.set_ | apply keep_drewN | apply keep_drew | apply keep_alloc | refine keep_far ?_ (Aside0.out (by assumption)) _)); all_goals exact h_) : Aside0 (v.heap.size ≤ gb) := ⟨by rw [hg]; exact keep_size (h H.out)⟩
theorem gE (HW : Aside0 (w0.heap.size ≤ v.heap.size)) (hg : gb = W.heap.size) (H : Aside0 (KeepBut v w g none)) (h : KeepBut v w g none → KeepBut v W g none := by intro h_; (repeat (with_reducible first | exact h_ | apply KeepBut.set_ | apply keep_drewN | apply keep_drew | apply keep_alloc | refine keep_far ?_ (Aside0.out (by assumption)) _)); all_goals exact h_) : Aside0 (w0.heap.size ≤ gb) := ⟨Nat.le_trans HW.out (by rw [hg]; exact keep_size (h H.out))⟩
theorem cr (h : d.C w A n xs) [k : Nonempty (Gr w W)] : d.C W A n xs := k.elim fun k => Kd.C_below h k
theorem va (h : Aside0 (Kd.V d e w base ok u xs)) [k : Nonempty (Gr w W)] : Kd.V d e W base ok u xs := k.elim fun k => Kd.V_below h.out k
theorem qa (h : Aside0 (d.Q e w base ok u xs)) [k : Nonempty (Gr w W)] : d.Q e W base ok u xs := k.elim fun k => Kd.Q_below h.out k
theorem sx (h : Aside0 (Kd.S d e w base ok u xs)) [k : Nonempty (Gr w W)] : Kd.S d e W base ok u xs := k.elim fun k => Kd.S_below h.out k
theorem rM (h : Aside0 (d.R e w base ok u xs)) (hm : ∀ k, ok k → ok' k) [k : Nonempty (Gr w W)] : d.R e W base ok' u xs := Kd.R_mono (ra h) hm
theorem rF {cs : Array Value} (H : Aside0 (d.R e w base ok u xs)) (hb : Aside0 (w.heap[g]? = some (.cells cs t (0, 0)))) (hm : ∀ k, ok k → ok' k) (ht : ∀ q, q ∈ e :: d.E → q ≠ t := by decide)
  (h : d.R e w base (fun k => ok k ∧ k ≠ g) u xs → d.R e W base (fun k => ok k ∧ k ≠ g) u xs := by intro h_; repeat (with_reducible first | exact h_ | apply Kd.R_alloc | apply Kd.R_drewN | apply Kd.R_drew | apply rg)) : d.R e W base ok' u xs := Kd.R_mono (h (Kd.R_types H.out hb.out ht)) (fun _ h => hm _ h.1)
theorem dR (hq : w.drewN n = W) (H : Aside0 (d.R e v base ok u xs)) [k : Nonempty (Gr v w)] : Aside0 (d.R e W base ok u xs) := ⟨hq ▸ ra (k := grn n) H⟩
theorem dM (hq : w.drewN n = W) (H : Aside0 (d.R e v base ok u xs)) (hm : ∀ k, ok k → ok' k) [k : Nonempty (Gr v w)] : Aside0 (d.R e W base ok' u xs) := ⟨hq ▸ rM (k := grn n) H hm⟩
theorem dV (hq : w.drewN n = W) (H : Aside0 (Kd.V d e v base ok u xs)) [k : Nonempty (Gr v w)] : Aside0 (Kd.V d e W base ok u xs) := ⟨hq ▸ va (k := grn n) H⟩
theorem dK (hq : w.drewN n = W) (H : Aside0 (v.heap[g]? = some o)) [k : Nonempty (Gr v w)] : Aside0 (W.heap[g]? = some o) := ⟨hq ▸ kb (k := grn n) H⟩
theorem dB (hq : w.drewN n = W) (H : Aside0 (Below v.heap.size v w)) : Aside0 (Below v.heap.size v W) := ⟨hq ▸ bl (k := grn n) H⟩
theorem cfs {i : Nat} {z : Value} (hne : a.block ≠ g) (h : w.cell? a = some c) : (w.setCell ⟨g, i, none⟩ z).cell? a = some c := (cell_far hne z).trans h
theorem cg (g : Nat) (hne : a.block ≠ g) (h : w.cell? a = some c) (k : a.block ≠ g → w.cell? a = some c → W.cell? a = some c := by intro n_ h_; repeat (with_reducible first | exact h_ | refine cfs n_ ?_)) : W.cell? a = some c := k hne h
theorem cf {b : Nat} (hne : b ≠ g) (h : w.cell? a = some c) (e_ : b ≠ g → a.block ≠ g := by intro n_; first | exact n_ | (rw [add_block]; exact n_) | (show (Addr.add _ _).block ≠ _; rw [add_block]; exact n_)) (k : a.block ≠ g → w.cell? a = some c → W.cell? a = some c := by intro n_ h_; repeat (with_reducible first | exact h_ | refine cfs n_ ?_)) : W.cell? a = some c := k (e_ hne) h
theorem kF {W' : World} (o' : Obj) (H : Aside0 (w.heap[g]? = some o)) (hW : W' = W) (h : w.heap[g]? = some o → W.heap[g]? = some o' := by intro h_; (repeat (with_reducible first | exact h_ | apply kn | apply kd | apply ka | apply bp | apply bf)); all_goals (first | (simp only [sa, s0, s1]; done) | (simp only [sa, s0, s1]; rfl) | rfl | assumption)) : Aside0 (W'.heap[g]? = some o') := ⟨hW ▸ h H.out⟩
theorem ca {o' : Obj} (h : w.cell? a = some c) : (w.alloc o').cell? a = some c := (World.cell?_alloc_lt _ _ _ (World.block_lt_of_cell? _ _ h)).trans h
theorem cB (hb : Below w.heap.size w W) (h : w.cell? a = some c) : W.cell? a = some c := (hb.cell (World.block_lt_of_cell? _ _ h)).trans h
theorem sl {c_ : Nat} (h : Aside0 (d.R e w base ok (.slice A n c_) xs)) : n ≤ c_ := (Kd.R_reads' h.out).2.1
theorem nR {P : Program} {md : Region.Mode} {ops : Array Oper} {Q_ : Exit → Act → World → Prop} {S_ : World → Prop} {ds : List Nat} {fuel : Nat} {l : Array Bool} {b b' : Act} (h : wpAnyLast P md ops Q_ S_ ds fuel l b' w) (ha : b = b' := by first | (simp only [putAll, Act.put, sa, s0, s1]; done) | (simp only [putAll, Act.put, sa, s0, s1]; rfl)) : wpAnyLast P md ops Q_ S_ ds fuel l b w := norm_ ha h
theorem xN (h : p := by first | exact Kd.R_nil _ _ _ _ _ | exact Kd.N_nil _ _ _ _ _ | exact Kd.V_nil _ _ _ _ _ | exact Kd.Q_nil _ _ _ _ _ | exact Kd.S_nil _ _ _ _ _) : p := h
theorem ie (l : List UInt8) : l.isEmpty = !(l != []) := by cases l <;> rfl
theorem xR (h : p := by first | rfl | (simp; done) | (simp [*]; done) | (simp; exact ie _)) : p := h
theorem xW (h : Drawn0 v w := by repeat (first | exact Drawn0.refl _ | apply Drawn0.step)) : Drawn0 v w := h
theorem xO (h : p := by first | omega | exact Nat.le_refl _) : p := h
theorem xL (H : Aside0 q) (h : q → p := by intro h_; first | omega | exact Nat.le_refl _) : p := h H.out
theorem xP (h : p := by repeat (first | exact Reps.none _ _ | refine Reps.one rfl ?_)) : p := h
end
theorem oX {p : Prop} [Decidable p] (h : decide p = true := by first | (with_reducible assumption) | assumption) : p := of_decide_eq_true h
theorem dt {p : Prop} [Decidable p] (h : p) : decide p = true := decide_eq_true h
theorem df {p : Prop} [Decidable p] (h : ¬ p) : decide p = false := decide_eq_false h
theorem yA {α : Type} (a : α) : ∃ y, Aside0 (y = a) := ⟨a, ⟨rfl⟩⟩
theorem je (a : Int) : ∃ j : Int, a = j := ⟨a, rfl⟩
theorem nf {a b : Nat} (h : a ≤ b) : (b < a) = False := eq_false (Nat.not_lt.2 h)
section
variable {α β : Type} {c : Prop} [Decidable c] {x : Option α} {r : α}
theorem ip (h : (if c then x else none) = some r) : c ∧ x = some r := if k : c then ⟨k, by rwa [if_pos k] at h⟩ else by rw [if_neg k] at h; cases h
theorem iq (h : (if c then none else x) = some r) : ¬ c ∧ x = some r := if k : c then by rw [if_pos k] at h; cases h else ⟨k, by rwa [if_neg k] at h⟩
theorem ipd (h : (if c then x else none) = some r) : decide c = true ∧ x = some r := ⟨decide_eq_true (ip h).1, (ip h).2⟩
theorem ipa (h : (if c then x else none) = some r) : Aside0 c ∧ x = some r := ⟨⟨(ip h).1⟩, (ip h).2⟩
theorem oa {f : α → Option β} {s : β} (h : x.bind f = some s) : ∃ t, Aside0 (x = some t) ∧ f t = some s := (Option.bind_eq_some_iff.mp h).elim fun t k => ⟨t, ⟨k.1⟩, k.2⟩
end
section
variable {α : Type} {d : Kd α} {e base : Nat} {ok ok' : Nat → Prop} {u : Value} {xs : List α} {w W : World}
theorem qM (h : Aside0 (d.Q e w base ok u xs)) (hm : ∀ k, ok k → ok' k) [k : Nonempty (Gr w W)] : d.Q e W base ok' u xs := Kd.Q_mono (qa h) hm
theorem vM (h : Aside0 (d.V e w base ok u xs)) (hm : ∀ k, ok k → ok' k) [k : Nonempty (Gr w W)] : d.V e W base ok' u xs := Kd.V_mono (va h) hm
theorem sM (h : Aside0 (Kd.S d e w base ok u xs)) (hm : ∀ k, ok k → ok' k) [k : Nonempty (Gr w W)] : Kd.S d e W base ok' u xs := Kd.S_mono (sx h) hm
theorem hC {A : Option Addr} {n B : Nat} (H : Aside0 (Below B w W)) (h : d.C w A n xs) (hB : B = w.heap.size := by rfl) : d.C W A n xs := Kd.C_below h (hB ▸ H.out)
theorem eT {p q : Prop} (hp : p) (hq : q) : p = True ∧ q = True := ⟨eq_true hp, eq_true hq⟩
theorem h2 {p q : Nat → Prop} : ∀ k, p k ∧ q k → q k := fun _ h => h.2
theorem nF : ¬ (false = true) := by decide
theorem bF {b : Bool} (h : ¬ b = true) : b = false := Bool.eq_false_iff.mpr h
theorem oI {a b : α} (h : some a = some b) : a = b := Option.some.inj h
end
section
variable {α : Type} {x y : Option α} {p1 p2 p3 p4 p5 p6 p7 p8 p9 p10 p11 p12 : Prop}
theorem mo1 (a1 : p1) (h : p1 → LeO x y := by intro a1; repeat' (with_reducible first | exact LeO.refl _ | exact LeO.none _ | refine LeO.ite ?_ ?_ | refine LeO.bind ?_ fun _ => ?_ | apply a1)) : LeO x y := h a1
end
theorem bz3 {a0 a1 a2 : Value} (h : Aside0 (w.heap[g]? = some (.cells #[a0, a1, a2] t (0, 0)))) : w.cell? ⟨g, 0, none⟩ = some a0 ∧ w.cell? ⟨g, 1, none⟩ = some a1 ∧ w.cell? ⟨g, 2, none⟩ = some a2 := ⟨(blk_cell h.out 0).trans rfl, (blk_cell h.out 1).trans rfl, (blk_cell h.out 2).trans rfl⟩
theorem bz5 {a0 a1 a2 a3 a4 : Value} (h : Aside0 (w.heap[g]? = some (.cells #[a0, a1, a2, a3, a4] t (0, 0)))) : w.cell? ⟨g, 0, none⟩ = some a0 ∧ w.cell? ⟨g, 1, none⟩ = some a1 ∧ w.cell? ⟨g, 2, none⟩ = some a2 ∧ w.cell? ⟨g, 3, none⟩ = some a3 ∧ w.cell? ⟨g, 4, none⟩ = some a4 := ⟨(blk_cell h.out 0).trans rfl, (blk_cell h.out 1).trans rfl, (blk_cell h.out 2).trans rfl, (blk_cell h.out 3).trans rfl, (blk_cell h.out 4).trans rfl⟩
theorem bz9 {a0 a1 a2 a3 a4 a5 a6 a7 a8 : Value} (h : Aside0 (w.heap[g]? = some (.cells #[a0, a1, a2, a3, a4, a5, a6, a7, a8] t (0, 0)))) : w.cell? ⟨g, 0, none⟩ = some a0 ∧ w.cell? ⟨g, 1, none⟩ = some a1 ∧ w.cell? ⟨g, 2, none⟩ = some a2 ∧ w.cell? ⟨g, 3, none⟩ = some a3 ∧ w.cell? ⟨g, 4, none⟩ = some a4 ∧ w.cell? ⟨g, 5, none⟩ = some a5 ∧ w.cell? ⟨g, 6, none⟩ = some a6 ∧ w.cell? ⟨g, 7, none⟩ = some a7 ∧ w.cell? ⟨g, 8, none⟩ = some a8 := ⟨(blk_cell h.out 0).trans rfl, (blk_cell h.out 1).trans rfl, (blk_cell h.out 2).trans rfl, (blk_cell h.out 3).trans rfl, (blk_cell h.out 4).trans rfl, (blk_cell h.out 5).trans rfl, (blk_cell h.out 6).trans rfl, (blk_cell h.out 7).trans rfl, (blk_cell h.out 8).trans rfl⟩
abbrev cs3 (g : Nat) (a0 a1 a2 : Value) (w : World) : Prop := w.cell? ⟨g, 0, none⟩ = some a0 ∧ w.cell? ⟨g, 1, none⟩ = some a1 ∧ w.cell? ⟨g, 2, none⟩ = some a2
abbrev cs5 (g : Nat) (a0 a1 a2 a3 a4 : Value) (w : World) : Prop := w.cell? ⟨g, 0, none⟩ = some a0 ∧ w.cell? ⟨g, 1, none⟩ = some a1 ∧ w.cell? ⟨g, 2, none⟩ = some a2 ∧ w.cell? ⟨g, 3, none⟩ = some a3 ∧ w.cell? ⟨g, 4, none⟩ = some a4
abbrev cs9 (g : Nat) (a0 a1 a2 a3 a4 a5 a6 a7 a8 : Value) (w : World) : Prop := w.cell? ⟨g, 0, none⟩ = some a0 ∧ w.cell? ⟨g, 1, none⟩ = some a1 ∧ w.cell? ⟨g, 2, none⟩ = some a2 ∧ w.cell? ⟨g, 3, none⟩ = some a3 ∧ w.cell? ⟨g, 4, none⟩ = some a4 ∧ w.cell? ⟨g, 5, none⟩ = some a5 ∧ w.cell? ⟨g, 6, none⟩ = some a6 ∧ w.cell? ⟨g, 7, none⟩ = some a7 ∧ w.cell? ⟨g, 8, none⟩ = some a8
end
end Go.Proofs.YtgjljbaadglpnaaGreatDoor.Sq
