-- Written by wip/tool/myprint.py, a program of this repo that drives the kit's print over hand-written contracts; Lean checks it.
import Derived.Test.YtnkkdpjipfjdaaaDoorQ0
import Derived.Test.YtnkkdpjipfjdaaaDoorQ3
namespace Go.Proofs.YtnkkdpjipfjdaaaDoor.Q
open Go.RowKit Go.Proofs.YtnkkdpjipfjdaaaDoorW.PrintWords Go.Proofs.YtnkkdpjipfjdaaaDoorW.PrintLast Go.Proofs.YtnkkdpjipfjdaaaDoorW.PrintMore Go.Proofs.YtnkkdpjipfjdaaaDoorM
attribute [local go_sem] max2_int min2_int max_two min_two max_three min_three max_four min_four   -- for this text's walks alone
set_option linter.unusedVariables false
set_option linter.unusedSimpArgs false

/-! ### signal_without_1_48: function 940048 -/
def signal_without_1_48.f (l0 : List Int) (a1 : Int) : Option (List Int) := if l0.length < 17592186044416 then some (l0.filter fun x => !(x == a1)) else none
theorem signal_without_1_48.calls (A0 : Option Addr) (c0 : Nat) (l0 : List Int) (a1 : Int) (r : List Int) (w : World) {gb : Nat} (hr0 : Kd.C (Kd.int .i64) w A0 l0.length l0) (hc0 : l0.length ≤ c0) (hb : w.heap[gb]? = some (.cells #[.int .i64 a1] 3 (0, 0))) (h : signal_without_1_48.f l0 a1 = some r) :
    Calls Tryd.prog 40 #[.slice A0 l0.length c0, .func (.func 48) #[] #[.pointer (some ⟨gb, 0, none⟩)]] w fun e w' => ∃ v0_ : Value, e = .returned v0_ ∧ Kd.R (Kd.int .i64) 3 w' w.heap.size (fun _ => True) v0_ r ∧ Below w.heap.size w w' := by
  unfold signal_without_1_48.f at h
  by_cases c2 : l0.length < 17592186044416
  · rw [if_pos c2] at h
    obtain rfl := Option.some.inj h
    exact Go.Proofs.YtnkkdpjipfjdaaaDoor.Ix.wo_any 48 #[.pointer (some ⟨gb, 0, none⟩)] (fun _ _ => by first | rfl | (simp [callFunc]; done)) (fun x => (x == a1)) A0 c0 l0 w (slices_Clone_int_int.calls A0 c0 l0 l0 w hr0 hc0 (by unfold slices_Clone_int_int.f; rw [if_pos c2])) (fun W x hB => Go.Proofs.YtnkkdpjipfjdaaaDoor.Ix.pred48 x a1 gb W (blk_below hb hB))
  · rw [if_neg c2] at h; cases h


/-! ### signal_without_1_41: function 940041 -/
def signal_without_1_41.f (l0 : List Int) (a1 : Int) : Option (List Int) := if l0.length < 17592186044416 then some (l0.filter fun x => !(x == a1)) else none
theorem signal_without_1_41.calls (A0 : Option Addr) (c0 : Nat) (l0 : List Int) (a1 : Int) (r : List Int) (w : World) {gb : Nat} (hr0 : Kd.C (Kd.int .i64) w A0 l0.length l0) (hc0 : l0.length ≤ c0) (hb : w.heap[gb]? = some (.cells #[.int .i64 a1] 3 (0, 0))) (h : signal_without_1_41.f l0 a1 = some r) :
    Calls Tryd.prog 40 #[.slice A0 l0.length c0, .func (.func 41) #[] #[.pointer (some ⟨gb, 0, none⟩)]] w fun e w' => ∃ v0_ : Value, e = .returned v0_ ∧ Kd.R (Kd.int .i64) 3 w' w.heap.size (fun _ => True) v0_ r ∧ Below w.heap.size w w' := by
  unfold signal_without_1_41.f at h
  by_cases c2 : l0.length < 17592186044416
  · rw [if_pos c2] at h
    obtain rfl := Option.some.inj h
    exact Go.Proofs.YtnkkdpjipfjdaaaDoor.Ix.wo_any 41 #[.pointer (some ⟨gb, 0, none⟩)] (fun _ _ => by first | rfl | (simp [callFunc]; done)) (fun x => (x == a1)) A0 c0 l0 w (slices_Clone_int_int.calls A0 c0 l0 l0 w hr0 hc0 (by unfold slices_Clone_int_int.f; rw [if_pos c2])) (fun W x hB => Go.Proofs.YtnkkdpjipfjdaaaDoor.Ix.pred41 x a1 gb W (blk_below hb hB))
  · rw [if_neg c2] at h; cases h


/-! ### signal_without_1_44: function 940044 -/
def signal_without_1_44.f (l0 : List Int) (a1 : Int) : Option (List Int) := if l0.length < 17592186044416 then some (l0.filter fun x => !(x == 18)) else none
theorem signal_without_1_44.calls (A0 : Option Addr) (c0 : Nat) (l0 : List Int) (a1 : Int) (r : List Int) (w : World) (hr0 : Kd.C (Kd.int .i64) w A0 l0.length l0) (hc0 : l0.length ≤ c0) (h : signal_without_1_44.f l0 a1 = some r) :
    Calls Tryd.prog 40 #[.slice A0 l0.length c0, .func (.func 44) #[] #[]] w fun e w' => ∃ v0_ : Value, e = .returned v0_ ∧ Kd.R (Kd.int .i64) 3 w' w.heap.size (fun _ => True) v0_ r ∧ Below w.heap.size w w' := by
  unfold signal_without_1_44.f at h
  by_cases c2 : l0.length < 17592186044416
  · rw [if_pos c2] at h
    obtain rfl := Option.some.inj h
    exact Go.Proofs.YtnkkdpjipfjdaaaDoor.Ix.wo_any 44 #[] (fun _ _ => by first | rfl | (simp [callFunc]; done)) (fun x => (x == 18)) A0 c0 l0 w (slices_Clone_int_int.calls A0 c0 l0 l0 w hr0 hc0 (by unfold slices_Clone_int_int.f; rw [if_pos c2])) (fun W x hB => Go.Proofs.YtnkkdpjipfjdaaaDoor.Ix.pred44 x W)
  · rw [if_neg c2] at h; cases h


/-! ### signal_without_stops: function 940034 -/
def signal_without_stops.f (l0 : List Int) (a1 : Int) : Option (List Int) := if l0.length < 17592186044416 then some (l0.filter fun x => !(x == 19 || (x == 20 || (x == 4 || x == 5)))) else none
theorem signal_without_stops.calls (A0 : Option Addr) (c0 : Nat) (l0 : List Int) (a1 : Int) (r : List Int) (w : World) (hr0 : Kd.C (Kd.int .i64) w A0 l0.length l0) (hc0 : l0.length ≤ c0) (h : signal_without_stops.f l0 a1 = some r) :
    Calls Tryd.prog 40 #[.slice A0 l0.length c0, .func (.func 34) #[] #[]] w fun e w' => ∃ v0_ : Value, e = .returned v0_ ∧ Kd.R (Kd.int .i64) 3 w' w.heap.size (fun _ => True) v0_ r ∧ Below w.heap.size w w' := by
  unfold signal_without_stops.f at h
  by_cases c2 : l0.length < 17592186044416
  · rw [if_pos c2] at h
    obtain rfl := Option.some.inj h
    exact Go.Proofs.YtnkkdpjipfjdaaaDoor.Ix.wo_any 34 #[] (fun _ _ => by first | rfl | (simp [callFunc]; done)) (fun x => (x == 19 || (x == 20 || (x == 4 || x == 5)))) A0 c0 l0 w (slices_Clone_int_int.calls A0 c0 l0 l0 w hr0 hc0 (by unfold slices_Clone_int_int.f; rw [if_pos c2])) (fun W x hB => Go.Proofs.YtnkkdpjipfjdaaaDoor.Ix.pred34 x W)
  · rw [if_neg c2] at h; cases h


end Go.Proofs.YtnkkdpjipfjdaaaDoor.Q
