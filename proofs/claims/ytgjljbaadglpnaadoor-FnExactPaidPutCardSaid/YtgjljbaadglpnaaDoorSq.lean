/- Short words for the walks: nothing of the program. -/
import Derived.Test.YtgjljbaadglpnaaDoorWWords
import Derived.Test.YtgjljbaadglpnaaDoorWLast
namespace Go.Proofs.YtgjljbaadglpnaaDoor.Sq
open Go Go.RowKit Go.Proofs.YtgjljbaadglpnaaDoorW.PrintWords Go.Proofs.YtgjljbaadglpnaaDoorW.PrintLast
set_option linter.unusedVariables false
/-- What stands in the one world stands in the other: that has grown alone. -/
def Gr (w W : World) : Prop := Below w.heap.size w W
variable {w W W1 : World} {g : Nat} {o : Obj} {t : TypeId}
instance gr0 : Nonempty (Gr w w) := ⟨Below.refl _ _⟩
instance gra (o : Obj) [h : Nonempty (Gr w W)] : Nonempty (Gr w (W.alloc o)) := h.elim fun h => ⟨below_alloc h o⟩
instance grd [h : Nonempty (Gr w W)] : Nonempty (Gr w W.drew) := h.elim fun h => ⟨below_drew1 h⟩
instance grn (n : Nat) [h : Nonempty (Gr w W)] : Nonempty (Gr w (W.drewN n)) := h.elim fun h => ⟨pw_below_drewN h n⟩
theorem bl {v : World} (h : Aside0 (Below v.heap.size v w)) [k : Nonempty (Gr w W)] : Below v.heap.size v W := k.elim fun k => below_step h.out k
theorem kb (h : Aside0 (w.heap[g]? = some o)) [k : Nonempty (Gr w W)] : W.heap[g]? = some o := k.elim fun k => blk_below h.out k
theorem bb (h : Aside0 (w.heap[g]? = some o)) [k : Nonempty (Gr w W)] (hb : Below W.heap.size W W1) : W1.heap[g]? = some o := blk_below (kb h) hb
theorem ra {α : Type} {d : Kd α} {e base : Nat} {ok : Nat → Prop} {v : Value} {xs : List α} (h : Aside0 (d.R e w base ok v xs)) [k : Nonempty (Gr w W)] : d.R e W base ok v xs := k.elim fun k => Kd.R_below h.out k
theorem rb {α : Type} {d : Kd α} {e base : Nat} {ok : Nat → Prop} {v : Value} {xs : List α} (h : Aside0 (d.R e w base ok v xs)) [k : Nonempty (Gr w W)] (hb : Below W.heap.size W W1) : d.R e W1 base ok v xs := Kd.R_below (ra h) hb
theorem cb {α : Type} {d : Kd α} {v : World} {A : Option Addr} {n : Nat} {xs : List α} (h : Aside0 (d.C v A n xs)) (hb : Aside0 (Below v.heap.size v w)) [k : Nonempty (Gr w W)] : d.C W A n xs := Kd.C_below h.out (bl hb)
theorem ba {v : World} (h : Below v.heap.size v W) (o : Obj) : Below v.heap.size v (W.alloc o) := below_alloc h o
theorem bd {B : Nat} {v : World} (h : Below B v W) (n : Nat) : Below B v (W.drewN n) := pw_below_drewN h n
theorem b1 {B : Nat} {v : World} (h : Below B v W) : Below B v W.drew := h.drew
theorem bs {v : World} {j : Nat} {u : Value} (h : Below v.heap.size v W) (hg : v.heap.size ≤ g) : Below v.heap.size v (W.setCell ⟨g, j, none⟩ u) := below_set h hg
theorem kn (h : w.heap[g]? = some o) (n : Nat) : (w.drewN n).heap[g]? = some o := h
theorem kd (h : w.heap[g]? = some o) : w.drew.heap[g]? = some o := h
theorem ka (h : w.heap[g]? = some o) (o' : Obj) : (w.alloc o').heap[g]? = some o := blk_alloc h o'
theorem sa {α : Type} (l : List α) (i : Nat) (x : α) : l.toArray.setIfInBounds i x = (l.set i x).toArray := List.setIfInBounds_toArray l i x
theorem s0 {α : Type} (a b : α) (l : List α) : (a :: l).set 0 b = b :: l := List.set_cons_zero
theorem s1 {α : Type} (a b : α) (l : List α) (n : Nat) : (a :: l).set (n + 1) b = a :: l.set n b := List.set_cons_succ
abbrev tt : Bool := true
abbrev ff : Bool := false
theorem bc2 {a0 a1 : Value} (h : Aside0 (w.heap[g]? = some (.cells #[a0, a1] t (0, 0)))) : w.cell? ⟨g, 0, none⟩ = some a0 ∧ w.cell? ⟨g, 1, none⟩ = some a1 ∧ w.frozen? ⟨g, 0, none⟩ = false ∧ w.frozen? ⟨g, 1, none⟩ = false := ⟨(blk_cell h.out 0).trans rfl, (blk_cell h.out 1).trans rfl, blk_frozen h.out 0, blk_frozen h.out 1⟩
theorem bc3 {a0 a1 a2 : Value} (h : Aside0 (w.heap[g]? = some (.cells #[a0, a1, a2] t (0, 0)))) : w.cell? ⟨g, 0, none⟩ = some a0 ∧ w.cell? ⟨g, 1, none⟩ = some a1 ∧ w.cell? ⟨g, 2, none⟩ = some a2 ∧ w.frozen? ⟨g, 0, none⟩ = false ∧ w.frozen? ⟨g, 1, none⟩ = false ∧ w.frozen? ⟨g, 2, none⟩ = false := ⟨(blk_cell h.out 0).trans rfl, (blk_cell h.out 1).trans rfl, (blk_cell h.out 2).trans rfl, blk_frozen h.out 0, blk_frozen h.out 1, blk_frozen h.out 2⟩
theorem bc5 {a0 a1 a2 a3 a4 : Value} (h : Aside0 (w.heap[g]? = some (.cells #[a0, a1, a2, a3, a4] t (0, 0)))) : w.cell? ⟨g, 0, none⟩ = some a0 ∧ w.cell? ⟨g, 1, none⟩ = some a1 ∧ w.cell? ⟨g, 2, none⟩ = some a2 ∧ w.cell? ⟨g, 3, none⟩ = some a3 ∧ w.cell? ⟨g, 4, none⟩ = some a4 ∧ w.frozen? ⟨g, 0, none⟩ = false ∧ w.frozen? ⟨g, 1, none⟩ = false ∧ w.frozen? ⟨g, 2, none⟩ = false ∧ w.frozen? ⟨g, 3, none⟩ = false ∧ w.frozen? ⟨g, 4, none⟩ = false := ⟨(blk_cell h.out 0).trans rfl, (blk_cell h.out 1).trans rfl, (blk_cell h.out 2).trans rfl, (blk_cell h.out 3).trans rfl, (blk_cell h.out 4).trans rfl, blk_frozen h.out 0, blk_frozen h.out 1, blk_frozen h.out 2, blk_frozen h.out 3, blk_frozen h.out 4⟩
theorem bc9 {a0 a1 a2 a3 a4 a5 a6 a7 a8 : Value} (h : Aside0 (w.heap[g]? = some (.cells #[a0, a1, a2, a3, a4, a5, a6, a7, a8] t (0, 0)))) : w.cell? ⟨g, 0, none⟩ = some a0 ∧ w.cell? ⟨g, 1, none⟩ = some a1 ∧ w.cell? ⟨g, 2, none⟩ = some a2 ∧ w.cell? ⟨g, 3, none⟩ = some a3 ∧ w.cell? ⟨g, 4, none⟩ = some a4 ∧ w.cell? ⟨g, 5, none⟩ = some a5 ∧ w.cell? ⟨g, 6, none⟩ = some a6 ∧ w.cell? ⟨g, 7, none⟩ = some a7 ∧ w.cell? ⟨g, 8, none⟩ = some a8 ∧ w.frozen? ⟨g, 0, none⟩ = false ∧ w.frozen? ⟨g, 1, none⟩ = false ∧ w.frozen? ⟨g, 2, none⟩ = false ∧ w.frozen? ⟨g, 3, none⟩ = false ∧ w.frozen? ⟨g, 4, none⟩ = false ∧ w.frozen? ⟨g, 5, none⟩ = false ∧ w.frozen? ⟨g, 6, none⟩ = false ∧ w.frozen? ⟨g, 7, none⟩ = false ∧ w.frozen? ⟨g, 8, none⟩ = false := ⟨(blk_cell h.out 0).trans rfl, (blk_cell h.out 1).trans rfl, (blk_cell h.out 2).trans rfl, (blk_cell h.out 3).trans rfl, (blk_cell h.out 4).trans rfl, (blk_cell h.out 5).trans rfl, (blk_cell h.out 6).trans rfl, (blk_cell h.out 7).trans rfl, (blk_cell h.out 8).trans rfl, blk_frozen h.out 0, blk_frozen h.out 1, blk_frozen h.out 2, blk_frozen h.out 3, blk_frozen h.out 4, blk_frozen h.out 5, blk_frozen h.out 6, blk_frozen h.out 7, blk_frozen h.out 8⟩
end Go.Proofs.YtgjljbaadglpnaaDoor.Sq
