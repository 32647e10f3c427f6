/- How arguments that hold structs, strings and slices are laid open, kind by kind: nothing of the program. -/
import Derived.Test.YtgjljbaadglpnaaDoorWWords
import Derived.Deep.Slices
import Derived.Deep.Fields
import Derived.ChangeSame
import Derived.ChangeArms
import Derived.Lib.SmallJoins
namespace Go.Proofs.YtgjljbaadglpnaaDoor.Po
open Go Go.RowKit Go.Joins Go.ChangeShapes Go.WideShapes Go.Deep Go.Proofs.YtgjljbaadglpnaaDoorW.PrintWords
set_option linter.unusedVariables false
section
variable {H : Type} {enc : TypeId × Value → H} {P : Program} {W : World} {base : Nat} {spare : Nat → Bool} {held : Bool}
/-- What reads as data of type t is a value of the kind d, of which wf holds. -/
def Opens (enc : TypeId × Value → H) (P : Program) (W : World) (base : Nat) (spare : Nat → Bool) (held : Bool) (t : TypeId) {α : Type} (d : Kd α) (wf : α → Prop) : Prop :=
  ∀ fuel cs x, DataW.trod enc P W base spare held fuel t cs = some x → ∃ v, d.K W v cs ∧ wf v
theorem opens_int {t : TypeId} {k : IntKind} (h : P.underlying t = some (.int k)) : Opens enc P W base spare held t (Kd.int k) (fun v => (Lit.int k v).wf = true) := by
  intro fuel cs x hx
  obtain ⟨n, rfl, _, hw⟩ := DataW.trod_int h hx
  exact ⟨n, rfl, hw⟩
theorem opens_bool {t : TypeId} (h : P.underlying t = some .bool) : Opens enc P W base spare held t Kd.bool (fun _ => True) := by
  intro fuel cs x hx
  obtain ⟨n, rfl, _⟩ := DataW.trod_bool h hx
  exact ⟨n, rfl, trivial⟩
theorem opens_string {t : TypeId} (h : P.underlying t = some .string) : Opens enc P W base spare held t Kd.string (fun s => s.size ≤ maxLen) := by
  intro fuel cs x hx
  obtain ⟨n, rfl, _, hw⟩ := DataW.trod_string h hx
  exact ⟨n, rfl, hw⟩
theorem opens_slice {t e : TypeId} {α : Type} [Inhabited α] {d : Kd α} {wf : α → Prop} (h : P.underlying t = some (.slice e)) (hc : P.cellsOf e = d.sz) (he : Opens enc P W base spare held e d wf) :
    Opens enc P W base spare held t (Kd.slice e d) (fun l => l.length ≤ maxLen ∧ ∀ p ∈ l, wf p) := by
  intro fuel cs x hx
  rcases open_slice h hx with ⟨rfl, _⟩ | ⟨a, len, cap, m, n, D, Pl, rfl, hb, hl, hm, hmm, _, hi⟩
  · exact ⟨[], ⟨none, 0, rfl, Nat.le_refl _, by simp, by simp, fun h => absurd h (by simp)⟩, by simp, by simp⟩
  · have hlm : len ≤ m := by rw [hmm]; split <;> omega
    have hch : ∀ i, i < len → ∃ v, wf v ∧ ∃ c, c.length = d.sz ∧ d.K W v c ∧ ∀ j u, c[j]? = some u → W.cell? (a.add (i * d.sz + j)) = some u := by
      intro i hil
      obtain ⟨cs', hcs, ht⟩ := hi i (by omega)
      obtain ⟨v, hk, hw⟩ := he _ _ _ ht
      rw [hc] at hcs
      obtain ⟨_, hcl, hat⟩ := World.cells?_some hcs
      refine ⟨v, hw, cs', d.K_len hk, hk, fun j u hu => ?_⟩
      have hj : j < d.sz := by rw [← d.K_len hk]; exact (List.getElem?_eq_some_iff.1 hu).1
      rw [← Go.Deep.add_add, hat j hj, hu]
    obtain ⟨f, hf⟩ := choose_lt hch
    refine ⟨(List.range len).map f, ⟨some a, cap, by simp, by simpa using hl, ?_⟩, by simpa using Nat.le_trans hl hm, ?_⟩
    · have hml : maxLen = 9223372036854775807 := by decide
      refine ⟨rfl, by simp only [List.length_map, List.length_range]; omega, fun _ => ⟨a, rfl, fun j p hp => ?_⟩⟩
      rw [List.getElem?_map] at hp
      by_cases hj : j < len
      · rw [List.getElem?_range hj, Option.map_some, Option.some.injEq] at hp
        subst hp
        obtain ⟨c, h1, h2, h3⟩ := (hf j hj).2
        exact ⟨c, h1, h2, h3⟩
      · rw [List.getElem?_eq_none (by simpa using hj)] at hp
        simp at hp
    · intro p hp
      obtain ⟨j, hj, rfl⟩ := List.mem_map.1 hp
      exact (hf j (by simpa using hj)).1
/-- Two pieces of cells, one behind the other. -/
theorem at_pair {α β : Type} {a : Kd α} {b : Kd β} {cs : List Value} {o s o' m n : Nat} {v : α} {u : β} (ho : o' = o + s) (hn : n = s + m) (h : a.K W v ((cs.drop o).take s)) (k : b.K W u ((cs.drop o').take m)) :
    (Kd.pair a b).K W (v, u) ((cs.drop o).take n) := by
  subst ho hn
  refine ⟨_, _, ?_, h, k⟩
  rw [List.take_add, List.drop_drop]
theorem at_all {α : Type} {a : Kd α} {cs : List Value} {n : Nat} {v : α} (hl : cs.length = n) (h : a.K W v ((cs.drop 0).take n)) : a.K W v cs := by
  rwa [List.drop_zero, List.take_of_length_le (by omega)] at h
/-- A struct: each field's own cells. -/
theorem opens_fields {t : TypeId} {fs : Array Field} (h : P.underlying t = some (.struct fs)) {fuel : Nat} {cs : List Value} {x : DataW H × List MemPlace} (hx : DataW.trod enc P W base spare held fuel t cs = some x) :
    cs.length = P.cellsOf t ∧ ∃ n, ∀ (i : Nat) (f : Field), fs[i]? = some f → ∃ y, DataW.trod enc P W base spare held n f.type ((cs.drop f.offset).take (P.cellsOf f.type)) = some y := by
  obtain ⟨xs, n, _, _, hl, hxs, hf⟩ := DataW.trod_struct h hx
  refine ⟨hl, n, fun i f hi => ?_⟩
  have hil : i < xs.length := by rw [hxs]; exact (Array.getElem?_eq_some_iff.1 hi).1
  exact ⟨xs[i], (hf i f hi).trans (List.getElem?_eq_getElem hil)⟩
theorem opens_struct2 {α : Type} {β : Type} {d0 : Kd α} {w0 : α → Prop} {d1 : Kd β} {w1 : β → Prop} {t : TypeId} {f0 f1 : Field} {s0 s1 : Nat} (hs : P.underlying t = some (.struct #[f0, f1])) (hC : P.cellsOf t = s0 + s1)
    (o0 : f0.offset = 0) (c0 : P.cellsOf f0.type = s0) (o1 : f1.offset = s0) (c1 : P.cellsOf f1.type = s1)
    (O0 : Opens enc P W base spare held f0.type d0 w0) (O1 : Opens enc P W base spare held f1.type d1 w1) :
    Opens enc P W base spare held t (Kd.pair d0 d1) (fun v => w0 v.1 ∧ w1 v.2) := by
  intro fuel cs x hx
  obtain ⟨hl, n, hf⟩ := opens_fields hs hx
  obtain ⟨y0, h0⟩ := hf 0 f0 rfl
  obtain ⟨v0, k0, q0⟩ := O0 _ _ _ h0
  rw [o0, c0] at k0
  obtain ⟨y1, h1⟩ := hf 1 f1 rfl
  obtain ⟨v1, k1, q1⟩ := O1 _ _ _ h1
  rw [o1, c1] at k1
  exact ⟨(v0, v1), at_all (hl.trans (hC.trans (by omega))) (at_pair (by omega) rfl k0 k1), q0, q1⟩
theorem opens_struct3 {α : Type} {β : Type} {γ : Type} {d0 : Kd α} {w0 : α → Prop} {d1 : Kd β} {w1 : β → Prop} {d2 : Kd γ} {w2 : γ → Prop} {t : TypeId} {f0 f1 f2 : Field} {s0 s1 s2 : Nat} (hs : P.underlying t = some (.struct #[f0, f1, f2])) (hC : P.cellsOf t = s0 + s1 + s2)
    (o0 : f0.offset = 0) (c0 : P.cellsOf f0.type = s0) (o1 : f1.offset = s0) (c1 : P.cellsOf f1.type = s1) (o2 : f2.offset = s0 + s1) (c2 : P.cellsOf f2.type = s2)
    (O0 : Opens enc P W base spare held f0.type d0 w0) (O1 : Opens enc P W base spare held f1.type d1 w1) (O2 : Opens enc P W base spare held f2.type d2 w2) :
    Opens enc P W base spare held t (Kd.pair d0 (Kd.pair d1 d2)) (fun v => w0 v.1 ∧ w1 v.2.1 ∧ w2 v.2.2) := by
  intro fuel cs x hx
  obtain ⟨hl, n, hf⟩ := opens_fields hs hx
  obtain ⟨y0, h0⟩ := hf 0 f0 rfl
  obtain ⟨v0, k0, q0⟩ := O0 _ _ _ h0
  rw [o0, c0] at k0
  obtain ⟨y1, h1⟩ := hf 1 f1 rfl
  obtain ⟨v1, k1, q1⟩ := O1 _ _ _ h1
  rw [o1, c1] at k1
  obtain ⟨y2, h2⟩ := hf 2 f2 rfl
  obtain ⟨v2, k2, q2⟩ := O2 _ _ _ h2
  rw [o2, c2] at k2
  exact ⟨(v0, (v1, v2)), at_all (hl.trans (hC.trans (by omega))) (at_pair (by omega) rfl k0 (at_pair (by omega) rfl k1 k2)), q0, q1, q2⟩
theorem opens_struct4 {α : Type} {β : Type} {γ : Type} {δ : Type} {d0 : Kd α} {w0 : α → Prop} {d1 : Kd β} {w1 : β → Prop} {d2 : Kd γ} {w2 : γ → Prop} {d3 : Kd δ} {w3 : δ → Prop} {t : TypeId} {f0 f1 f2 f3 : Field} {s0 s1 s2 s3 : Nat} (hs : P.underlying t = some (.struct #[f0, f1, f2, f3])) (hC : P.cellsOf t = s0 + s1 + s2 + s3)
    (o0 : f0.offset = 0) (c0 : P.cellsOf f0.type = s0) (o1 : f1.offset = s0) (c1 : P.cellsOf f1.type = s1) (o2 : f2.offset = s0 + s1) (c2 : P.cellsOf f2.type = s2) (o3 : f3.offset = s0 + s1 + s2) (c3 : P.cellsOf f3.type = s3)
    (O0 : Opens enc P W base spare held f0.type d0 w0) (O1 : Opens enc P W base spare held f1.type d1 w1) (O2 : Opens enc P W base spare held f2.type d2 w2) (O3 : Opens enc P W base spare held f3.type d3 w3) :
    Opens enc P W base spare held t (Kd.pair d0 (Kd.pair d1 (Kd.pair d2 d3))) (fun v => w0 v.1 ∧ w1 v.2.1 ∧ w2 v.2.2.1 ∧ w3 v.2.2.2) := by
  intro fuel cs x hx
  obtain ⟨hl, n, hf⟩ := opens_fields hs hx
  obtain ⟨y0, h0⟩ := hf 0 f0 rfl
  obtain ⟨v0, k0, q0⟩ := O0 _ _ _ h0
  rw [o0, c0] at k0
  obtain ⟨y1, h1⟩ := hf 1 f1 rfl
  obtain ⟨v1, k1, q1⟩ := O1 _ _ _ h1
  rw [o1, c1] at k1
  obtain ⟨y2, h2⟩ := hf 2 f2 rfl
  obtain ⟨v2, k2, q2⟩ := O2 _ _ _ h2
  rw [o2, c2] at k2
  obtain ⟨y3, h3⟩ := hf 3 f3 rfl
  obtain ⟨v3, k3, q3⟩ := O3 _ _ _ h3
  rw [o3, c3] at k3
  exact ⟨(v0, (v1, (v2, v3))), at_all (hl.trans (hC.trans (by omega))) (at_pair (by omega) rfl k0 (at_pair (by omega) rfl k1 (at_pair (by omega) rfl k2 k3))), q0, q1, q2, q3⟩
theorem opens_struct5 {α : Type} {β : Type} {γ : Type} {δ : Type} {ε : Type} {d0 : Kd α} {w0 : α → Prop} {d1 : Kd β} {w1 : β → Prop} {d2 : Kd γ} {w2 : γ → Prop} {d3 : Kd δ} {w3 : δ → Prop} {d4 : Kd ε} {w4 : ε → Prop} {t : TypeId} {f0 f1 f2 f3 f4 : Field} {s0 s1 s2 s3 s4 : Nat} (hs : P.underlying t = some (.struct #[f0, f1, f2, f3, f4])) (hC : P.cellsOf t = s0 + s1 + s2 + s3 + s4)
    (o0 : f0.offset = 0) (c0 : P.cellsOf f0.type = s0) (o1 : f1.offset = s0) (c1 : P.cellsOf f1.type = s1) (o2 : f2.offset = s0 + s1) (c2 : P.cellsOf f2.type = s2) (o3 : f3.offset = s0 + s1 + s2) (c3 : P.cellsOf f3.type = s3) (o4 : f4.offset = s0 + s1 + s2 + s3) (c4 : P.cellsOf f4.type = s4)
    (O0 : Opens enc P W base spare held f0.type d0 w0) (O1 : Opens enc P W base spare held f1.type d1 w1) (O2 : Opens enc P W base spare held f2.type d2 w2) (O3 : Opens enc P W base spare held f3.type d3 w3) (O4 : Opens enc P W base spare held f4.type d4 w4) :
    Opens enc P W base spare held t (Kd.pair d0 (Kd.pair d1 (Kd.pair d2 (Kd.pair d3 d4)))) (fun v => w0 v.1 ∧ w1 v.2.1 ∧ w2 v.2.2.1 ∧ w3 v.2.2.2.1 ∧ w4 v.2.2.2.2) := by
  intro fuel cs x hx
  obtain ⟨hl, n, hf⟩ := opens_fields hs hx
  obtain ⟨y0, h0⟩ := hf 0 f0 rfl
  obtain ⟨v0, k0, q0⟩ := O0 _ _ _ h0
  rw [o0, c0] at k0
  obtain ⟨y1, h1⟩ := hf 1 f1 rfl
  obtain ⟨v1, k1, q1⟩ := O1 _ _ _ h1
  rw [o1, c1] at k1
  obtain ⟨y2, h2⟩ := hf 2 f2 rfl
  obtain ⟨v2, k2, q2⟩ := O2 _ _ _ h2
  rw [o2, c2] at k2
  obtain ⟨y3, h3⟩ := hf 3 f3 rfl
  obtain ⟨v3, k3, q3⟩ := O3 _ _ _ h3
  rw [o3, c3] at k3
  obtain ⟨y4, h4⟩ := hf 4 f4 rfl
  obtain ⟨v4, k4, q4⟩ := O4 _ _ _ h4
  rw [o4, c4] at k4
  exact ⟨(v0, (v1, (v2, (v3, v4)))), at_all (hl.trans (hC.trans (by omega))) (at_pair (by omega) rfl k0 (at_pair (by omega) rfl k1 (at_pair (by omega) rfl k2 (at_pair (by omega) rfl k3 k4)))), q0, q1, q2, q3, q4⟩
end
end Go.Proofs.YtgjljbaadglpnaaDoor.Po
