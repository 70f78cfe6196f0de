/- Words on the library's table that strconv.Itoa reads: it is laid in a world, and in each that lies beyond it. -/
import Derived.Test.YtojfchkmemhlfaaDoorWMore
import Derived.Test.YtojfchkmemhlfaaDoorShelf
namespace Go.Proofs.YtojfchkmemhlfaaDoorM
open Go Go.RowKit Go.Proofs.YtojfchkmemhlfaaDoorW.PrintWords
/-- The table is laid. -/
def TabAt (w : World) : Prop := Lib.TabIs Tryd.prog w "internal/strconv.uint64pow10" .u64 Lib.pow10Tab
theorem TabAt.below {w w' : World} (h : TabAt w) (hb : Below w.heap.size w w') : TabAt w' := by
  unfold TabAt Lib.TabIs World.var? at h ⊢
  cases hg : Tryd.prog.globalNamed "internal/strconv.uint64pow10" with
  | none => rw [hg] at h; cases h
  | some g =>
    rw [hg, Option.bind_some] at h
    rw [Option.bind_some]
    cases hc : w.heap[g]? with
    | none => rw [hc] at h; cases h
    | some o => rw [hc] at h; rw [blk_below hc hb]; exact h
theorem below_grow_ {w w' : World} (h : Below w.heap.size w w') (os : Array Obj) : Below w.heap.size w (Go.Sort.grow w' os) := by
  refine ⟨h.os, h.tape, h.output, ?_, fun k hk => ?_⟩
  · show w.heap.size ≤ (w'.heap ++ os).size
    rw [Array.size_append]
    exact Nat.le_trans h.size (Nat.le_add_right _ _)
  · show (w'.heap ++ os)[k]? = _
    rw [Array.getElem?_append_left (Nat.lt_of_lt_of_le hk h.size)]
    exact h.block k hk
end Go.Proofs.YtojfchkmemhlfaaDoorM
