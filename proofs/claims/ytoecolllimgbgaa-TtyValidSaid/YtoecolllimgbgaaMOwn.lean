/- Words beside the print's: what lies behind a row's length may be cleared; a slice's builtin clear at elements of several cells. -/
import Derived.Test.YtoecolllimgbgaaWMore
import Derived.Test.YtoecolllimgbgaaWNEv
import Derived.Lib.SliceRun
import Derived.Laws.IdiomCopy
namespace Go.Proofs.YtoecolllimgbgaaM
open Go Go.RowKit Go.Proofs.YtoecolllimgbgaaW.PrintWords

theorem zeroCells_size (z : Array Value) (n : Nat) : (Builtin.zeroCells z n).toList.length = n * z.size := by simp [Builtin.zeroCells]
theorem zeroCells_one (z : Array Value) (n : Nat) (h1 : ∀ u ∈ z.toList, u.oneCell' = true) : ∀ u ∈ (Builtin.zeroCells z n).toList, u.oneCell' = true := by
  intro u hu
  simp only [Builtin.zeroCells, Array.toList_map, List.mem_map, Array.mem_toList_iff, Array.mem_range] at hu
  obtain ⟨i, hi, rfl⟩ := hu
  have hpos : 0 < z.size := by
    rcases Nat.eq_zero_or_pos z.size with h | h
    · rw [h] at hi; omega
    · exact h
  have hlt : i % z.size < z.size := Nat.mod_lt _ hpos
  rw [getElem!_pos z (i % z.size) hlt]
  exact h1 _ (Array.mem_toList_iff.2 (Array.getElem_mem hlt))
/-- clear(s), s a slice of n > 0 elements of some cells each: the cells are written with zero values; nothing else turns. -/
theorem run_clear_k {P : Program} (w : World) (t e : TypeId) (z : Value) (ht : P.underlying t = some (.slice e)) (hv : ∀ w, (zeroValue e).run P w = .ok z w) (h1 : ∀ u ∈ z.cells.toList, u.oneCell' = true) (b o n c : Nat) (hn : 0 < n)
    (hc : ∀ j, j < n * z.cells.size → (w.cell? ⟨b, o + j, none⟩).isSome = true) (hf : ∀ j, j < n * z.cells.size → w.frozen? ⟨b, o + j, none⟩ = false) :
    ∃ zs : List Value, zs.length = n * z.cells.size ∧ ∀ ty, (Builtin.clear_ #[t] ty #[.slice (some ⟨b, o, none⟩) n c]).run P w = .ok (.tuple #[]) (w.setCells b o zs) := by
  refine ⟨(Builtin.zeroCells z.cells n).toList, zeroCells_size _ _, fun ty => ?_⟩
  have hst := run_storeCells_cells (P := P) b o (Builtin.zeroCells z.cells n).toList 0 w (by rw [zeroCells_size]; simpa using hc) (by rw [zeroCells_size]; simpa using hf) (zeroCells_one _ _ h1)
  simp only [Nat.add_zero] at hst
  obtain ⟨m, rfl⟩ : ∃ m, n = m + 1 := ⟨n - 1, by omega⟩
  simp [Builtin.clear_, run_underlying ht, hv, hst]

section
variable {α : Type} (d : Kd α) {e base g m cap : Nat} {W : World} {ok : Nat → Prop} {xs : List α}
/-- A row's cells, up to its capacity, are there and not frozen. -/
theorem R_room (h : d.R e W base ok (.slice (some ⟨g, 0, none⟩) m cap) xs) : (∀ j, j < cap * d.sz → (W.cell? ⟨g, j, none⟩).isSome = true) ∧ (∀ j, W.frozen? ⟨g, j, none⟩ = false) ∧ g < W.heap.size ∧ base ≤ g ∧ xs.length = m ∧ m ≤ cap ∧ cap ≤ 9223372036854775807 := by
  obtain ⟨h0, inner, ⟨hl0, h2⟩, hr⟩ := h
  rcases h2 with ⟨h, _⟩ | ⟨g', cap', cur, hv, hb, hh, hn, hm, hcs, ht⟩
  · cases h
  · injection hv with h1 h2 h3
    injection h1 with h1
    injection h1 with h1
    subst h1 h3
    refine ⟨fun j hj => ?_, fun j => blk_frozen hh j, blk_lt hh, hb, h2.symm, by omega, hm⟩
    rw [blk_cell hh j, Array.getElem?_eq_getElem (by omega)]
    rfl
/-- What lies behind a row's length may be written. -/
theorem R_tail (h : d.R e W base ok (.slice (some ⟨g, 0, none⟩) m cap) xs) (zs : List Value) (o : Nat) (ho : m * d.sz ≤ o) (hl : o + zs.length ≤ cap * d.sz) :
    d.R e (W.setCells g o zs) base ok (.slice (some ⟨g, 0, none⟩) m cap) xs ∧ W.grownBy (W.setCells g o zs) (some g) := by
  obtain ⟨h0, inner, ⟨hl0, h2⟩, hr⟩ := h
  rcases h2 with ⟨h, _⟩ | ⟨g', cap', cur, hv, hb, hh, hn, hm, hcs, ht⟩
  · cases h
  · injection hv with h1 h2 h3
    injection h1 with h1
    injection h1 with h1
    subst h1 h3 h2
    obtain ⟨cur', h3, h4, h5⟩ := setCells_row zs o W cur hh (by omega)
    have hsame := setCells_same g zs o W
    have hg : W.grownBy (W.setCells g o zs) (some g) := ⟨hsame.1, hsame.2.1, hsame.2.2.1, by rw [hsame.2.2.2]; exact Nat.le_refl _, fun i _ hne => setCells_far zs o i (fun he => hne (by rw [he]))⟩
    refine ⟨⟨h0, inner, ⟨hl0, .inr ⟨g, cap, cur', rfl, hb, h3, hn, hm, by rw [h4]; exact hcs, ?_⟩⟩, ?_⟩, hg⟩
    · rw [h5, List.append_assoc, List.take_append_of_le_length (by rw [List.length_take]; exact Nat.le_min.2 ⟨ho, by have h9 : cur.toList.length = cap * d.sz := Array.length_toList.trans hcs; rw [h9]; exact Nat.mul_le_mul_right _ hn⟩), List.take_take, Nat.min_eq_left ho]
      exact ht
    · exact hr.imp_ (fun p c hp => Kd.M_grown hp hg (fun k hk he => hk.2 (by rw [he]; rfl)))
end
end Go.Proofs.YtoecolllimgbgaaM
