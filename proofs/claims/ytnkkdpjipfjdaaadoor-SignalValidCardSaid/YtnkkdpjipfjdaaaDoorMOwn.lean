/- Words beside the print's: what lies behind a row's length may be cleared; a slice's builtin clear at elements of several cells. -/
import Derived.Test.YtnkkdpjipfjdaaaDoorWMore
import Derived.Test.YtnkkdpjipfjdaaaDoorWNEv
import Derived.Lib.SliceRun
import Derived.Laws.IdiomCopy
import Derived.Deep.WholeRow
namespace Go.Proofs.YtnkkdpjipfjdaaaDoorM
open Go Go.RowKit Go.Proofs.YtnkkdpjipfjdaaaDoorW.PrintWords

theorem zeroCells_size (z : Array Value) (n : Nat) : (Builtin.zeroCells z n).toList.length = n * z.size := by simp [Builtin.zeroCells]
theorem zeroCells_one (z : Array Value) (n : Nat) (h1 : ∀ u ∈ z.toList, u.oneCell' = true) : ∀ u ∈ (Builtin.zeroCells z n).toList, u.oneCell' = true := by
  intro u hu
  simp only [Builtin.zeroCells, Array.toList_map, List.mem_map, Array.mem_toList_iff, Array.mem_range] at hu
  obtain ⟨i, hi, rfl⟩ := hu
  have hpos : 0 < z.size := by
    rcases Nat.eq_zero_or_pos z.size with h | h
    · rw [h] at hi; omega
    · exact h
  have hlt : i % z.size < z.size := Nat.mod_lt _ hpos
  rw [getElem!_pos z (i % z.size) hlt]
  exact h1 _ (Array.mem_toList_iff.2 (Array.getElem_mem hlt))
/-- clear(s), s a slice of n > 0 elements of some cells each: the cells are written with zero values; nothing else turns. -/
theorem run_clear_k {P : Program} (w : World) (t e : TypeId) (z : Value) (ht : P.underlying t = some (.slice e)) (hv : ∀ w, (zeroValue e).run P w = .ok z w) (h1 : ∀ u ∈ z.cells.toList, u.oneCell' = true) (b o n c : Nat) (hn : 0 < n)
    (hc : ∀ j, j < n * z.cells.size → (w.cell? ⟨b, o + j, none⟩).isSome = true) (hf : ∀ j, j < n * z.cells.size → w.frozen? ⟨b, o + j, none⟩ = false) :
    ∃ zs : List Value, zs.length = n * z.cells.size ∧ ∀ ty, (Builtin.clear_ #[t] ty #[.slice (some ⟨b, o, none⟩) n c]).run P w = .ok (.tuple #[]) (w.setCells b o zs) := by
  refine ⟨(Builtin.zeroCells z.cells n).toList, zeroCells_size _ _, fun ty => ?_⟩
  have hst := run_storeCells_cells (P := P) b o (Builtin.zeroCells z.cells n).toList 0 w (by rw [zeroCells_size]; simpa using hc) (by rw [zeroCells_size]; simpa using hf) (zeroCells_one _ _ h1)
  simp only [Nat.add_zero] at hst
  obtain ⟨m, rfl⟩ : ∃ m, n = m + 1 := ⟨n - 1, by omega⟩
  simp [Builtin.clear_, run_underlying ht, hv, hst]

section
variable {α : Type} (d : Kd α) {e base g m cap : Nat} {W : World} {ok : Nat → Prop} {xs : List α}
/-- A row's cells, up to its capacity, are there and not frozen. -/
theorem R_room (h : d.R e W base ok (.slice (some ⟨g, 0, none⟩) m cap) xs) : (∀ j, j < cap * d.sz → (W.cell? ⟨g, j, none⟩).isSome = true) ∧ (∀ j, W.frozen? ⟨g, j, none⟩ = false) ∧ g < W.heap.size ∧ base ≤ g ∧ xs.length = m ∧ m ≤ cap ∧ cap ≤ 9223372036854775807 := by
  obtain ⟨h0, inner, ⟨hl0, h2⟩, hr⟩ := h
  rcases h2 with ⟨h, _⟩ | ⟨g', cap', cur, hv, hb, hh, hn, hm, hcs, ht⟩
  · cases h
  · injection hv with h1 h2 h3
    injection h1 with h1
    injection h1 with h1
    subst h1 h3
    refine ⟨fun j hj => ?_, fun j => blk_frozen hh j, blk_lt hh, hb, h2.symm, by omega, hm⟩
    rw [blk_cell hh j, Array.getElem?_eq_getElem (by omega)]
    rfl
/-- What lies behind a row's length may be written. -/
theorem R_tail (h : d.R e W base ok (.slice (some ⟨g, 0, none⟩) m cap) xs) (zs : List Value) (o : Nat) (ho : m * d.sz ≤ o) (hl : o + zs.length ≤ cap * d.sz) :
    d.R e (W.setCells g o zs) base ok (.slice (some ⟨g, 0, none⟩) m cap) xs ∧ W.grownBy (W.setCells g o zs) (some g) := by
  obtain ⟨h0, inner, ⟨hl0, h2⟩, hr⟩ := h
  rcases h2 with ⟨h, _⟩ | ⟨g', cap', cur, hv, hb, hh, hn, hm, hcs, ht⟩
  · cases h
  · injection hv with h1 h2 h3
    injection h1 with h1
    injection h1 with h1
    subst h1 h3 h2
    obtain ⟨cur', h3, h4, h5⟩ := setCells_row zs o W cur hh (by omega)
    have hsame := setCells_same g zs o W
    have hg : W.grownBy (W.setCells g o zs) (some g) := ⟨hsame.1, hsame.2.1, hsame.2.2.1, by rw [hsame.2.2.2]; exact Nat.le_refl _, fun i _ hne => setCells_far zs o i (fun he => hne (by rw [he]))⟩
    refine ⟨⟨h0, inner, ⟨hl0, .inr ⟨g, cap, cur', rfl, hb, h3, hn, hm, by rw [h4]; exact hcs, ?_⟩⟩, ?_⟩, hg⟩
    · rw [h5, List.append_assoc, List.take_append_of_le_length (by rw [List.length_take]; exact Nat.le_min.2 ⟨ho, by have h9 : cur.toList.length = cap * d.sz := Array.length_toList.trans hcs; rw [h9]; exact Nat.mul_le_mul_right _ hn⟩), List.take_take, Nat.min_eq_left ho]
      exact ht
    · exact hr.imp_ (fun p c hp => Kd.M_grown hp hg (fun k hk he => hk.2 (by rw [he]; rfl)))
end
end Go.Proofs.YtnkkdpjipfjdaaaDoorM
namespace Go.Proofs.YtnkkdpjipfjdaaaDoorM
/-- The index of the first element that a test takes, or -1. -/
def idxP {α : Type} (p : α → Bool) : List α → Nat → Int
  | [], _ => -1
  | x :: l, i => if p x = true then (i : Int) else idxP p l (i + 1)
theorem idxP_hit {α : Type} (p : α → Bool) (z : α) : ∀ (l : List α) (i k : Nat), k < l.length → (∀ j, j < k → p (l.getD j z) = false) → p (l.getD k z) = true → idxP p l i = ((i + k : Nat) : Int)
  | [], _, _, h, _, _ => absurd h (by simp)
  | x :: l, i, 0, _, _, h => by
    have hx : p x = true := h
    simp [idxP, hx]
  | x :: l, i, k + 1, hk, hj, h => by
    have hx : p x = false := hj 0 (by omega)
    rw [idxP, hx, if_neg (by simp), idxP_hit p z l (i + 1) k (by simpa using hk) (fun j hj' => hj (j + 1) (by omega)) h]
    congr 1
    omega
theorem idxP_miss {α : Type} (p : α → Bool) (z : α) : ∀ (l : List α) (i : Nat), (∀ j, j < l.length → p (l.getD j z) = false) → idxP p l i = -1
  | [], _, _ => rfl
  | x :: l, i, h => by
    have hx : p x = false := h 0 (by simp)
    rw [idxP, hx, if_neg (by simp)]
    exact idxP_miss p z l (i + 1) (fun j hj => h (j + 1) (by simpa using hj))
end Go.Proofs.YtnkkdpjipfjdaaaDoorM
namespace Go.Proofs.YtnkkdpjipfjdaaaDoorM
open Go Go.RowKit Go.Proofs.YtnkkdpjipfjdaaaDoorW.PrintWords
/-- Two lists that one row reads as are one, where an element's cells tell the element. -/
theorem C_unique {α : Type} {d : Kd α} (hu : ∀ {w : World} {x y : α} {cs : List Value}, d.K w x cs → d.K w y cs → x = y) {w : World} {A : Option Addr} {n : Nat} {xs ys : List α} (h1 : d.C w A n xs) (h2 : d.C w A n ys) : xs = ys := by
  obtain ⟨a1, _, b1⟩ := h1
  obtain ⟨a2, _, b2⟩ := h2
  refine List.ext_getElem (a1.trans a2.symm) (fun j hj1 hj2 => ?_)
  obtain ⟨ad, e1, c1⟩ := b1 (by omega)
  obtain ⟨ad', e2, c2⟩ := b2 (by omega)
  have e3 : ad = ad' := by rw [e1] at e2; injection e2
  subst e3
  obtain ⟨u, hu1, hu2, hu3⟩ := c1 j _ (List.getElem?_eq_getElem hj1)
  obtain ⟨v, hv1, hv2, hv3⟩ := c2 j _ (List.getElem?_eq_getElem hj2)
  have huv : u = v := by
    refine List.ext_getElem (hu1.trans hv1.symm) (fun i hi1 hi2 => ?_)
    have q1 := hu3 i _ (List.getElem?_eq_getElem hi1)
    have q2 := hv3 i _ (List.getElem?_eq_getElem hi2)
    rw [q1] at q2
    injection q2
  subst huv
  exact hu hu2 hv2
end Go.Proofs.YtnkkdpjipfjdaaaDoorM
namespace Go.Proofs.YtnkkdpjipfjdaaaDoorM
open Go Go.RowKit Go.Proofs.YtnkkdpjipfjdaaaDoorW.PrintWords
section
variable {P : Program} {ops : Array Oper} {rest : List Oper} {o o2 : Oper} {a : Act} {Q : Exit → Act → World → Prop}
/-- A struct's variable in memory, and the struct that is laid into it at once: one step. -/
theorem box2_event {W : World} (t : TypeId) (hgd : o.guard = none) (hgd2 : o2.guard = none) {N : Tmp} (_hd : o.dst = some N) (hd2 : o2.dst = none) (v2 : Operand) (ho2 : o2.op = .store t (.tmp N) v2) {cs0 cs : Array Value}
    (hrun : (execOp a.eval o).run P W = .ok (.value (.pointer (some ⟨W.heap.size, 0, none⟩))) (W.alloc (.cells cs0 t (0, 0))))
    (hi : (P.info? t).map (·.size) = some cs.size) (hs : cs0.size = cs.size) (h1 : cs.toList.all (·.oneCell') = true)
    (hp : ∀ v, (a.put o.dst v).eval (.tmp N) = v) (hv : ∀ v, (a.put o.dst v).eval v2 = .agg cs)
    (h : ∀ g, g = W.heap.size → ∀ w1, w1.heap[g]? = some (.cells cs t (0, 0)) → Below W.heap.size W w1 → wpList P ops Q rest (a.put o.dst (.pointer (some ⟨g, 0, none⟩))) w1) : wpList P ops Q (o :: o2 :: rest) a W := by
  refine Kd.event_run hgd hrun (store_event (w1 := W.alloc (.cells cs t (0, 0))) hgd2 ho2 hd2 ?_ (fun w' hw => ?_))
  · have hst := run_storeAt_new (P := P) W t cs0 cs hi hs (by rw [← Array.all_toList]; exact h1)
    simp only [execOp, ho2, hp, hv, Sem.run_bind, hst, Result.andThen_ok, Sem.run_pure]
  · subst hw
    exact h _ rfl _ (blk_new W _) (below_alloc (Below.refl _ _) _)
end
end Go.Proofs.YtnkkdpjipfjdaaaDoorM
namespace Go.Proofs.YtnkkdpjipfjdaaaDoorM
open Go
/-- A cell, and that it may be written, where nothing but draws lies between. -/
theorem cz_at {w w' : World} {n : Nat} {p : Addr} {v : Value} (hq : World.drewN w n = w') (h : w.cell? p = some v) : w'.cell? p = some v := by subst hq; exact h
theorem fz_at {w w' : World} {n : Nat} {p : Addr} (hq : World.drewN w n = w') (h : w.frozen? p = false) : w'.frozen? p = false := by subst hq; exact h
end Go.Proofs.YtnkkdpjipfjdaaaDoorM
namespace Go.Proofs.YtnkkdpjipfjdaaaDoorM
open Go Go.RowKit Go.Proofs.YtnkkdpjipfjdaaaDoorW.PrintWords
theorem V_att {α : Type} {d : Kd α} {e base m : Nat} {ok : Nat → Prop} {w w' : World} {v : Value} {xs : List α} (hq : w.drewN m = w') (h : Kd.V d e w base ok v xs) : Kd.V d e w' base ok v xs := by subst hq; exact Kd.V_drewN h m
end Go.Proofs.YtnkkdpjipfjdaaaDoorM
