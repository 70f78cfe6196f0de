-- Written by wip/tool/myprint.py, a program of this repo that drives the kit's print over hand-written contracts; Lean checks it.
import Derived.Test.YtnkkdpjipfjdaaaDoorQ0
import Derived.Test.YtnkkdpjipfjdaaaDoorQ3
import Derived.Test.YtnkkdpjipfjdaaaDoorQ8
namespace Go.Proofs.YtnkkdpjipfjdaaaDoor.Q
open Go.RowKit Go.Proofs.YtnkkdpjipfjdaaaDoorW.PrintWords Go.Proofs.YtnkkdpjipfjdaaaDoorW.PrintLast Go.Proofs.YtnkkdpjipfjdaaaDoorW.PrintMore Go.Proofs.YtnkkdpjipfjdaaaDoorM
attribute [local go_sem] max2_int min2_int max_two min_two max_three min_three max_four min_four   -- for this text's walks alone
set_option linter.unusedVariables false
set_option linter.unusedSimpArgs false

/-! ### signal_with: function 45 -/
def signal_with.f (k : Nat) (l0 : List Int) (a1 : Int) : Option (List Int) := (slices_BinarySearch_int_int.f k l0 a1).bind fun b => if l0.length < 17592186044416 then (if b.2 = true then some l0 else if 0 ≤ b.1 ∧ b.1 ≤ (l0.length : Int) then some (l0.take b.1.toNat ++ a1 :: l0.drop b.1.toNat) else none) else none
theorem signal_with.mono : ∀ a0 a1 k, LeO (signal_with.f k a0 a1) (signal_with.f (k + 1) a0 a1) := by
  intro a0 a1 k
  unfold signal_with.f
  exact LeO.bind (slices_BinarySearch_int_int.mono _ _ _) (fun _ => LeO.refl _)
theorem signal_with.calls (k : Nat) (A0 : Option Addr) (c0 : Nat) (l0 : List Int) (a1 : Int) (r : List Int) (w : World) (hr0 : Kd.C (Kd.int .i64) w A0 l0.length l0) (hc0 : l0.length ≤ c0) (h : signal_with.f k l0 a1 = some r) :
    Calls Tryd.prog 45 #[.slice A0 l0.length c0, .int .i64 a1] w fun e w' => ∃ v0_ : Value, e = .returned v0_ ∧ Kd.R (Kd.int .i64) 3 w' w.heap.size (fun _ => True) v0_ r ∧ Below w.heap.size w w' := by
  unfold signal_with.f at h
  obtain ⟨⟨r1, r2⟩, hb, h⟩ := Option.bind_eq_some_iff.mp h
  dsimp only at h
  by_cases c2 : l0.length < 17592186044416
  · rw [if_pos c2] at h
    have hbs := slices_BinarySearch_int_int.calls k A0 c0 l0 a1 r1 r2 w hr0 hc0 hb
    have hcl := fun m => slices_Clone_int_int.calls A0 c0 l0 l0 (w.drewN m) (Kd.C_drewN hr0 m) hc0 (by unfold slices_Clone_int_int.f; rw [if_pos c2])
    cases r2 with
    | true =>
      rw [if_pos rfl] at h
      obtain rfl := Option.some.inj h
      exact Go.Proofs.YtnkkdpjipfjdaaaDoor.Ix.with_hit A0 c0 l0 a1 r1 w hbs hcl
    | false =>
      rw [if_neg (by simp)] at h
      by_cases c3 : 0 ≤ r1 ∧ r1 ≤ (l0.length : Int)
      · rw [if_pos c3] at h
        obtain rfl := Option.some.inj h
        obtain ⟨i, rfl⟩ := Int.eq_ofNat_of_zero_le c3.1
        exact Go.Proofs.YtnkkdpjipfjdaaaDoor.Ix.with_miss A0 c0 l0 a1 i (by omega) c2 w hbs hcl
      · rw [if_neg c3] at h; cases h
  · rw [if_neg c2] at h; cases h


end Go.Proofs.YtnkkdpjipfjdaaaDoor.Q
