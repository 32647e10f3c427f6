/- copy, of elements of several cells: all of a slice over a row of the call's own. Nothing of the program. -/
import Derived.Test.YtgjljbaadglpnaaGreatDoorWWords
import Derived.Test.YtgjljbaadglpnaaGreatDoorWLast
import Derived.Laws.CopyRow
import Derived.Laws.CopyOwn
import Derived.Laws.IdiomCopy
namespace Go.Proofs.YtgjljbaadglpnaaGreatDoor.Cp
open Go Go.RowKit Go.Proofs.YtgjljbaadglpnaaGreatDoorW.PrintWords
set_option linter.unusedVariables false
variable {P : Program}
theorem run_copy_many (w : World) (dT sT ty elem : TypeId) (g n dCap sCap sz : Nat) (a : Addr) (cur : Array Value) (t : TypeId) (cs : List Value)
  (hu : P.underlying dT = some (.slice elem)) (hs : (P.info? elem).map (·.size) = some sz) (hg : w.heap[g]? = some (.cells cur t (0, 0))) (hn : cs.length = n * sz)
  (hsrc : ∀ j v, cs[j]? = some v → w.cell? (a.add j) = some v) (hfit : cs.length ≤ cur.size) (h1 : ∀ v ∈ cs, v.oneCell' = true) :
  (Builtin.copy_ #[dT, sT] ty #[.slice (some ⟨g, 0, none⟩) n dCap, .slice (some a) n sCap]).run P w = .ok (goInt n) (w.setRow g (cs ++ cur.toList.drop cs.length).toArray) := by
 have hl := run_loadCells_list (P := P) w a cs hsrc
 have hst := run_storeCells_at P g 0 t cs 0 cur w hg (by simpa using hfit) h1
 cases hq : P.info? elem with
 | none => simp [hq] at hs
 | some i =>
  have hi : i.size = sz := by simpa [hq] using hs
  simp [Builtin.copy_, run_underlying hu, Builtin.lenOf, Builtin.firstCells, sizeOf, typeInfo, hq, hi, ← hn, hl, hst]
theorem wpList_copy_many {w : World} {ops : Array Oper} {rest : List Oper} {o : Oper} {a : Act} {Q : Exit → Act → World → Prop} (hgd : o.guard = none) (d s : Operand) (dT sT : TypeId)
  (ho : o.op = .call { callee := .builtin .copy, args := #[d, s], argTypes := #[dT, sT] }) (elem : TypeId) (hu : P.underlying dT = some (.slice elem)) (sz : Nat) (hsz : (P.info? elem).map (·.size) = some sz)
  (g n dCap sCap : Nat) (ad : Addr) (hd : a.eval d = .slice (some ⟨g, 0, none⟩) n dCap) (hs : a.eval s = .slice (some ad) n sCap)
  (cur : Array Value) (t : TypeId) (hg : w.heap[g]? = some (.cells cur t (0, 0))) (cs : List Value) (hn : cs.length = n * sz)
  (hsrc : ∀ j v, cs[j]? = some v → w.cell? (ad.add j) = some v) (hfit : cs.length ≤ cur.size) (h1 : ∀ v ∈ cs, v.oneCell' = true) (B : Nat) (w0 : World) (hb : Below B w0 w) (hBg : B ≤ g)
  (h : ∀ w', w'.heap[g]? = some (.cells (cs ++ cur.toList.drop cs.length).toArray t (0, 0)) → Below B w0 w' → wpList P ops Q rest (a.put o.dst (goInt n)) w') : wpList P ops Q (o :: rest) a w := by
 refine wpList_plain hgd fun K hK => ?_
 have hrun := run_copy_many (P := P) w dT sT o.type elem g n dCap sCap sz ad cur t cs hu hsz hg hn hsrc hfit h1
 unfold Oper.wp
 simp [execOp, ho, resolve, invoke, builtin, hd, hs, hrun, Result.andThen]
 exact hK _ _ (h _ (setRow_heap w g cur _ t _ hg) (below_setRow hb hBg _))
theorem flat_len {α : Type} (enc : α → List Value) (sz : Nat) (hz : ∀ x, (enc x).length = sz) : ∀ ps : List α, (ps.flatMap enc).length = ps.length * sz
 | [] => by simp
 | p :: ps => by rw [List.flatMap_cons, List.length_append, hz, flat_len enc sz hz ps, List.length_cons, Nat.add_mul, Nat.one_mul, Nat.add_comm]
theorem flat_drop {α : Type} (enc : α → List Value) (sz : Nat) (hz : ∀ x, (enc x).length = sz) : ∀ (ps : List α) (j : Nat) (p : α), ps[j]? = some p → ((ps.flatMap enc).drop (j * sz)).take sz = enc p
 | [], j, p, h => by simp at h
 | q :: ps, 0, p, h => by
  obtain rfl : q = p := by simpa using h
  rw [List.flatMap_cons, Nat.zero_mul, List.drop_zero, List.take_append_of_le_length (by rw [hz]; exact Nat.le_refl _), ← hz q, List.take_length]
 | q :: ps, j + 1, p, h => by
  rw [List.flatMap_cons, Nat.add_mul, Nat.one_mul, Nat.add_comm, ← hz q, ← List.drop_drop, List.drop_left, hz q]
  exact flat_drop enc sz hz ps j p (by simpa using h)
theorem flat_reps {α : Type} {R : α → List Value → Prop} (enc : α → List Value) (sz : Nat) (hz : ∀ x, (enc x).length = sz) (hR : ∀ x, R x (enc x)) (ps : List α) : Reps R sz ps (ps.flatMap enc) :=
 ⟨flat_len enc sz hz ps, fun j p hj => by rw [flat_drop enc sz hz ps j p hj]; exact hR p⟩
theorem flat_cell {α : Type} (enc : α → List Value) (sz : Nat) (hz : ∀ x, (enc x).length = sz) (h0 : 0 < sz) (ps : List α) (j : Nat) (v : Value) (h : (ps.flatMap enc)[j]? = some v) : ∃ p, ps[j / sz]? = some p ∧ (enc p)[j % sz]? = some v := by
 have hl := (List.getElem?_eq_some_iff.1 h).1
 rw [flat_len enc sz hz] at hl
 have hq : j / sz < ps.length := (Nat.div_lt_iff_lt_mul h0).2 hl
 refine ⟨ps[j / sz], List.getElem?_eq_getElem hq, ?_⟩
 rw [← flat_drop enc sz hz ps (j / sz) _ (List.getElem?_eq_getElem hq), List.getElem?_take_of_lt (Nat.mod_lt _ h0), List.getElem?_drop, ← h]
 congr 1
 rw [Nat.mul_comm]; exact Nat.div_add_mod j sz
theorem flat_src {α : Type} {d : Kd α} (enc : α → List Value) (sz : Nat) (hd : d.sz = sz) (hz : ∀ x, (enc x).length = sz) (h0 : 0 < sz) {w : World} {ad : Addr} {xs : List α} (hK : ∀ x c, d.K w x c → c = enc x)
  (h : Kd.C d w (some ad) xs.length xs) (hp : 0 < xs.length) : ∀ j v, (xs.flatMap enc)[j]? = some v → w.cell? (ad.add j) = some v := by
 intro j v hj
 obtain ⟨p, hp1, hv⟩ := flat_cell enc sz hz h0 xs j v hj
 obtain ⟨ad', e, hc⟩ := h.2.2 hp
 obtain rfl : ad = ad' := by injection e
 obtain ⟨c, _, hk, hcell⟩ := hc (j / sz) p hp1
 obtain rfl := hK p c hk
 have := hcell (j % sz) v hv
 rw [hd, Nat.mul_comm, Nat.div_add_mod] at this
 exact this
theorem flat_one {α : Type} (enc : α → List Value) (h : ∀ x, ∀ v ∈ enc x, v.oneCell' = true) (ps : List α) : ∀ v ∈ ps.flatMap enc, v.oneCell' = true := by
 intro v hv
 obtain ⟨p, _, hp⟩ := List.mem_flatMap.1 hv
 exact h p v hp
theorem made_form {α : Type} {d : Kd α} {e base n : Nat} {ok : Nat → Prop} {w : World} {v : Value} {z : α} (h : d.R e w base ok v (List.replicate (n : Int).toNat z)) (h0 : 0 < n) :
  ∃ g cap cur, v = .slice (some ⟨g, 0, none⟩) n cap ∧ base ≤ g ∧ Aside0 (w.heap[g]? = some (.cells cur e (0, 0)) ∧ n ≤ cap ∧ cap ≤ maxLen ∧ cur.size = cap * d.sz) := by
 obtain ⟨_, inner, ho, _⟩ := h
 rw [List.length_replicate, Int.toNat_natCast] at ho
 rcases ho.2 with ⟨_, hz⟩ | ⟨g, cap, cur, rfl, hb, hh, hnc, hcm, hcs, _⟩
 ·omega
 ·exact ⟨g, cap, cur, rfl, hb, ⟨hh, hnc, hcm, hcs⟩⟩
theorem copied_row {α : Type} {d : Kd α} {e base g cap : Nat} {w w1 : World} {cur : Array Value} {xs : List α} (enc : α → List Value) (hd : 0 < d.sz) (hz : ∀ x, (enc x).length = d.sz) (hM : ∀ x, d.M w1 base (fun k => True ∧ some k ≠ some g) x (enc x))
  (hf : w.heap[g]? = some (.cells cur e (0, 0)) ∧ xs.length ≤ cap ∧ cap ≤ maxLen ∧ cur.size = cap * d.sz) (hb : base ≤ g) (hh : w1.heap[g]? = some (.cells ((xs.flatMap enc) ++ cur.toList.drop (xs.flatMap enc).length).toArray e (0, 0))) :
  d.R e w1 base (fun _ => True) (.slice (some ⟨g, 0, none⟩) xs.length cap) xs := by
 have hl := flat_len enc d.sz hz xs
 have hc : xs.length * d.sz ≤ cap * d.sz := Nat.mul_le_mul_right _ hf.2.1
 refine ⟨fun _ _ => trivial, xs.flatMap enc, ⟨hl, .inr ⟨g, cap, _, rfl, hb, hh, hf.2.1, hf.2.2.1, ?_, ?_⟩⟩, flat_reps enc d.sz hz hM xs⟩
 ·have h2 : cur.toList.length = cap * d.sz := by rw [Array.length_toList]; exact hf.2.2.2
  show ((xs.flatMap enc) ++ cur.toList.drop (xs.flatMap enc).length).length = _
  rw [List.length_append, List.length_drop, h2, hl]; omega
 ·rw [← hl, List.take_left]
end Go.Proofs.YtgjljbaadglpnaaGreatDoor.Cp
