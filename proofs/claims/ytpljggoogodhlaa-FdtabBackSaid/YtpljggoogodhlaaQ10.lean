-- Written by wip/tool/myprint.py, a program of this repo that drives the kit's print over hand-written contracts; Lean checks it.
import Derived.Test.YtpljggoogodhlaaQ0
import Derived.Test.YtpljggoogodhlaaQ1
import Derived.Test.YtpljggoogodhlaaQ4
import Derived.Test.YtpljggoogodhlaaQ5
import Derived.Test.YtpljggoogodhlaaQ7
import Derived.Test.YtpljggoogodhlaaQ8
import Derived.Test.YtpljggoogodhlaaQ9
namespace Go.Proofs.Ytpljggoogodhlaa.Q
open Go.RowKit Go.Proofs.YtpljggoogodhlaaW.PrintWords Go.Proofs.YtpljggoogodhlaaW.PrintLast Go.Proofs.YtpljggoogodhlaaW.PrintMore Go.Proofs.YtpljggoogodhlaaM
attribute [local go_sem] max2_int min2_int max_two min_two max_three min_three max_four min_four   -- for this text's walks alone
set_option linter.unusedVariables false
set_option linter.unusedSimpArgs false

attribute [local go_sem high] eqA24
/-! ### jobshelllaw23_awake: function 10 -/
def jobshelllaw23_awake.f (k : Nat)  : Option (Bool) := (some (([(⟨0, 0, false⟩ : S36), (⟨1, 1, false⟩ : S36), (⟨2, 1, false⟩ : S36)] : List (S36)) : List (S36))).bind fun y146 => ((fdtab_Free.f k y146 0).bind fun bt149 => ((fdtab_Free.f k y146 10).bind fun bt151 => ((fdtab_Free.f k y146 32).bind fun bt153 => ((fdtab_Exec.f k (([(⟨0, 0, false⟩ : S36), (⟨3, 5, true⟩ : S36), (⟨4, 5, true⟩ : S36)] : List (S36)))).bind fun bt158 => ((fdtab_Add.f k ([] : List (S24)) 5 0 0 0 1 (⟨#[]⟩ : ByteArray)).bind fun bt164 => ((fdtab_Release.f k bt164.1 0).bind fun bt169 => (if bt149.1 = 3 then (if bt149.2 = true then (if bt151.1 = 10 then (if bt151.2 = true then (if bt153.2 = true then (none) else (if (bt158.1.length : Int) = 1 then (if (bt158.2.length : Int) = 2 then (if 0 < (bt158.2.length : Int) then (if (rd bt158.2 0) = 5 then (if 1 < (bt158.2.length : Int) then (if (rd bt158.2 1) = 5 then (if bt164.2.2 = 0 then (if bt164.2.1 = 0 then (if (bt164.1.length : Int) = 1 then (if bt169.2.2 = 0 then (if bt169.2.1 = true then (if (bt169.1.length : Int) = 1 then (if 0 < (bt169.1.length : Int) then (if (((rd_T24 bt169.1 0).f0) == 0 && (((rd_T24 bt169.1 0).f1) == 0 && (((rd_T24 bt169.1 0).f2) == 0 && (((rd_T24 bt169.1 0).f3) == 0 && (((rd_T24 bt169.1 0).f4) == 0 && ((((rd_T24 bt169.1 0).f5).toList) == ([] : List UInt8))))))) = true then ((fdtab_Valid.f k y146).bind fun t177 => (some (t177 == 0))) else (none)) else (none)) else (none)) else (none)) else (none)) else (none)) else (none)) else (none)) else (none)) else (none)) else (none)) else (none)) else (none)) else (none))) else (none)) else (none)) else (none)) else (none))))))))
theorem jobshelllaw23_awake.mono : ∀ k, LeO (jobshelllaw23_awake.f k ) (jobshelllaw23_awake.f (k + 1) ) := by
  intro  k
  unfold jobshelllaw23_awake.f
  repeat' first
      | (with_reducible exact fdtab_Add.mono _ _ _ _ _ _ _ _)
      | (with_reducible exact fdtab_Exec.mono _ _)
      | (with_reducible exact fdtab_Free.mono _ _ _)
      | (with_reducible exact fdtab_Release.mono _ _ _)
      | (with_reducible exact fdtab_Valid.mono _ _)
      | (with_reducible exact LeO.refl _)
      | (with_reducible exact LeO.none _)
      | (with_reducible refine LeO.ite ?_ ?_)
      | (with_reducible refine LeO.bind ?_ (fun _ => ?_))
      | exact fdtab_Add.mono _ _ _ _ _ _ _ _
      | exact fdtab_Exec.mono _ _
      | exact fdtab_Free.mono _ _ _
      | exact fdtab_Release.mono _ _ _
      | exact fdtab_Valid.mono _ _
      | exact LeO.none _
      | refine LeO.ite ?_ ?_
      | refine LeO.bind ?_ (fun _ => ?_)
set_option maxHeartbeats 8000000 in
set_option maxRecDepth 10000000 in
theorem jobshelllaw23_awake.calls (k : Nat)  (r : Bool) (w : World) (h : jobshelllaw23_awake.f k  = some r) :
    Calls Try.prog 10 #[] w fun e w' => e = .returned (.bool r) ∧ Below w.heap.size w w' := by
  have hu36 := Try.underlying36
  have hu24 := Try.underlying24
  have HB := Aside0.mk (Below.refl w.heap.size w)
  have H : ((some (([(⟨0, 0, false⟩ : S36), (⟨1, 1, false⟩ : S36), (⟨2, 1, false⟩ : S36)] : List (S36)) : List (S36))).bind fun y146 => ((fdtab_Free.f k y146 0).bind fun bt149 => ((fdtab_Free.f k y146 10).bind fun bt151 => ((fdtab_Free.f k y146 32).bind fun bt153 => ((fdtab_Exec.f k (([(⟨0, 0, false⟩ : S36), (⟨3, 5, true⟩ : S36), (⟨4, 5, true⟩ : S36)] : List (S36)))).bind fun bt158 => ((fdtab_Add.f k ([] : List (S24)) 5 0 0 0 1 (⟨#[]⟩ : ByteArray)).bind fun bt164 => ((fdtab_Release.f k bt164.1 0).bind fun bt169 => (if bt149.1 = 3 then (if bt149.2 = true then (if bt151.1 = 10 then (if bt151.2 = true then (if bt153.2 = true then (none) else (if (bt158.1.length : Int) = 1 then (if (bt158.2.length : Int) = 2 then (if 0 < (bt158.2.length : Int) then (if (rd bt158.2 0) = 5 then (if 1 < (bt158.2.length : Int) then (if (rd bt158.2 1) = 5 then (if bt164.2.2 = 0 then (if bt164.2.1 = 0 then (if (bt164.1.length : Int) = 1 then (if bt169.2.2 = 0 then (if bt169.2.1 = true then (if (bt169.1.length : Int) = 1 then (if 0 < (bt169.1.length : Int) then (if (((rd_T24 bt169.1 0).f0) == 0 && (((rd_T24 bt169.1 0).f1) == 0 && (((rd_T24 bt169.1 0).f2) == 0 && (((rd_T24 bt169.1 0).f3) == 0 && (((rd_T24 bt169.1 0).f4) == 0 && ((((rd_T24 bt169.1 0).f5).toList) == ([] : List UInt8))))))) = true then ((fdtab_Valid.f k y146).bind fun t177 => (some (t177 == 0))) else (none)) else (none)) else (none)) else (none)) else (none)) else (none)) else (none)) else (none)) else (none)) else (none)) else (none)) else (none)) else (none)) else (none))) else (none)) else (none)) else (none)) else (none))))))))) = some r := h
  clear h
  obtain ⟨y146, hy146⟩ : ∃ y_ : List (S36), y_ = (([(⟨0, 0, false⟩ : S36), (⟨1, 1, false⟩ : S36), (⟨2, 1, false⟩ : S36)] : List (S36))) := ⟨_, rfl⟩
  replace H : ((fdtab_Free.f k y146 0).bind fun bt149 => ((fdtab_Free.f k y146 10).bind fun bt151 => ((fdtab_Free.f k y146 32).bind fun bt153 => ((fdtab_Exec.f k (([(⟨0, 0, false⟩ : S36), (⟨3, 5, true⟩ : S36), (⟨4, 5, true⟩ : S36)] : List (S36)))).bind fun bt158 => ((fdtab_Add.f k ([] : List (S24)) 5 0 0 0 1 (⟨#[]⟩ : ByteArray)).bind fun bt164 => ((fdtab_Release.f k bt164.1 0).bind fun bt169 => (if bt149.1 = 3 then (if bt149.2 = true then (if bt151.1 = 10 then (if bt151.2 = true then (if bt153.2 = true then (none) else (if (bt158.1.length : Int) = 1 then (if (bt158.2.length : Int) = 2 then (if 0 < (bt158.2.length : Int) then (if (rd bt158.2 0) = 5 then (if 1 < (bt158.2.length : Int) then (if (rd bt158.2 1) = 5 then (if bt164.2.2 = 0 then (if bt164.2.1 = 0 then (if (bt164.1.length : Int) = 1 then (if bt169.2.2 = 0 then (if bt169.2.1 = true then (if (bt169.1.length : Int) = 1 then (if 0 < (bt169.1.length : Int) then (if (((rd_T24 bt169.1 0).f0) == 0 && (((rd_T24 bt169.1 0).f1) == 0 && (((rd_T24 bt169.1 0).f2) == 0 && (((rd_T24 bt169.1 0).f3) == 0 && (((rd_T24 bt169.1 0).f4) == 0 && ((((rd_T24 bt169.1 0).f5).toList) == ([] : List UInt8))))))) = true then ((fdtab_Valid.f k y146).bind fun t177 => (some (t177 == 0))) else (none)) else (none)) else (none)) else (none)) else (none)) else (none)) else (none)) else (none)) else (none)) else (none)) else (none)) else (none)) else (none)) else (none))) else (none)) else (none)) else (none)) else (none)))))))) = some r := by first | (rw [hy146]; with_reducible exact H) | (have H2_ := (Option.bind_some _ _).symm.trans H; rw [hy146]; with_reducible exact H2_) | (have H2_ := (Option.bind_some _ _).symm.trans H; with_reducible exact H2_) | with_reducible exact H | (rw [hy146]; exact H) | exact H
  have Ny146 := Aside0.mk hy146
  clear hy146
  replace H := Option.bind_eq_some_iff.mp H
  obtain ⟨⟨t149, t150⟩, A10, H⟩ := H
  replace H : ((fdtab_Free.f k y146 10).bind fun bt151 => ((fdtab_Free.f k y146 32).bind fun bt153 => ((fdtab_Exec.f k (([(⟨0, 0, false⟩ : S36), (⟨3, 5, true⟩ : S36), (⟨4, 5, true⟩ : S36)] : List (S36)))).bind fun bt158 => ((fdtab_Add.f k ([] : List (S24)) 5 0 0 0 1 (⟨#[]⟩ : ByteArray)).bind fun bt164 => ((fdtab_Release.f k bt164.1 0).bind fun bt169 => (if t149 = 3 then (if t150 = true then (if bt151.1 = 10 then (if bt151.2 = true then (if bt153.2 = true then (none) else (if (bt158.1.length : Int) = 1 then (if (bt158.2.length : Int) = 2 then (if 0 < (bt158.2.length : Int) then (if (rd bt158.2 0) = 5 then (if 1 < (bt158.2.length : Int) then (if (rd bt158.2 1) = 5 then (if bt164.2.2 = 0 then (if bt164.2.1 = 0 then (if (bt164.1.length : Int) = 1 then (if bt169.2.2 = 0 then (if bt169.2.1 = true then (if (bt169.1.length : Int) = 1 then (if 0 < (bt169.1.length : Int) then (if (((rd_T24 bt169.1 0).f0) == 0 && (((rd_T24 bt169.1 0).f1) == 0 && (((rd_T24 bt169.1 0).f2) == 0 && (((rd_T24 bt169.1 0).f3) == 0 && (((rd_T24 bt169.1 0).f4) == 0 && ((((rd_T24 bt169.1 0).f5).toList) == ([] : List UInt8))))))) = true then ((fdtab_Valid.f k y146).bind fun t177 => (some (t177 == 0))) else (none)) else (none)) else (none)) else (none)) else (none)) else (none)) else (none)) else (none)) else (none)) else (none)) else (none)) else (none)) else (none)) else (none))) else (none)) else (none)) else (none)) else (none))))))) = some r := H
  have A1 := Aside0.mk A10
  clear A10
  replace H := Option.bind_eq_some_iff.mp H
  obtain ⟨⟨t151, t152⟩, A20, H⟩ := H
  replace H : ((fdtab_Free.f k y146 32).bind fun bt153 => ((fdtab_Exec.f k (([(⟨0, 0, false⟩ : S36), (⟨3, 5, true⟩ : S36), (⟨4, 5, true⟩ : S36)] : List (S36)))).bind fun bt158 => ((fdtab_Add.f k ([] : List (S24)) 5 0 0 0 1 (⟨#[]⟩ : ByteArray)).bind fun bt164 => ((fdtab_Release.f k bt164.1 0).bind fun bt169 => (if t149 = 3 then (if t150 = true then (if t151 = 10 then (if t152 = true then (if bt153.2 = true then (none) else (if (bt158.1.length : Int) = 1 then (if (bt158.2.length : Int) = 2 then (if 0 < (bt158.2.length : Int) then (if (rd bt158.2 0) = 5 then (if 1 < (bt158.2.length : Int) then (if (rd bt158.2 1) = 5 then (if bt164.2.2 = 0 then (if bt164.2.1 = 0 then (if (bt164.1.length : Int) = 1 then (if bt169.2.2 = 0 then (if bt169.2.1 = true then (if (bt169.1.length : Int) = 1 then (if 0 < (bt169.1.length : Int) then (if (((rd_T24 bt169.1 0).f0) == 0 && (((rd_T24 bt169.1 0).f1) == 0 && (((rd_T24 bt169.1 0).f2) == 0 && (((rd_T24 bt169.1 0).f3) == 0 && (((rd_T24 bt169.1 0).f4) == 0 && ((((rd_T24 bt169.1 0).f5).toList) == ([] : List UInt8))))))) = true then ((fdtab_Valid.f k y146).bind fun t177 => (some (t177 == 0))) else (none)) else (none)) else (none)) else (none)) else (none)) else (none)) else (none)) else (none)) else (none)) else (none)) else (none)) else (none)) else (none)) else (none))) else (none)) else (none)) else (none)) else (none)))))) = some r := H
  have A2 := Aside0.mk A20
  clear A20
  replace H := Option.bind_eq_some_iff.mp H
  obtain ⟨⟨t153, t154⟩, A30, H⟩ := H
  replace H : ((fdtab_Exec.f k (([(⟨0, 0, false⟩ : S36), (⟨3, 5, true⟩ : S36), (⟨4, 5, true⟩ : S36)] : List (S36)))).bind fun bt158 => ((fdtab_Add.f k ([] : List (S24)) 5 0 0 0 1 (⟨#[]⟩ : ByteArray)).bind fun bt164 => ((fdtab_Release.f k bt164.1 0).bind fun bt169 => (if t149 = 3 then (if t150 = true then (if t151 = 10 then (if t152 = true then (if t154 = true then (none) else (if (bt158.1.length : Int) = 1 then (if (bt158.2.length : Int) = 2 then (if 0 < (bt158.2.length : Int) then (if (rd bt158.2 0) = 5 then (if 1 < (bt158.2.length : Int) then (if (rd bt158.2 1) = 5 then (if bt164.2.2 = 0 then (if bt164.2.1 = 0 then (if (bt164.1.length : Int) = 1 then (if bt169.2.2 = 0 then (if bt169.2.1 = true then (if (bt169.1.length : Int) = 1 then (if 0 < (bt169.1.length : Int) then (if (((rd_T24 bt169.1 0).f0) == 0 && (((rd_T24 bt169.1 0).f1) == 0 && (((rd_T24 bt169.1 0).f2) == 0 && (((rd_T24 bt169.1 0).f3) == 0 && (((rd_T24 bt169.1 0).f4) == 0 && ((((rd_T24 bt169.1 0).f5).toList) == ([] : List UInt8))))))) = true then ((fdtab_Valid.f k y146).bind fun t177 => (some (t177 == 0))) else (none)) else (none)) else (none)) else (none)) else (none)) else (none)) else (none)) else (none)) else (none)) else (none)) else (none)) else (none)) else (none)) else (none))) else (none)) else (none)) else (none)) else (none))))) = some r := H
  have A3 := Aside0.mk A30
  clear A30
  obtain ⟨y155, hy155⟩ : ∃ y_ : List (S36), y_ = (([(⟨0, 0, false⟩ : S36), (⟨3, 5, true⟩ : S36), (⟨4, 5, true⟩ : S36)] : List (S36))) := ⟨_, rfl⟩
  replace H : ((fdtab_Exec.f k y155).bind fun bt158 => ((fdtab_Add.f k ([] : List (S24)) 5 0 0 0 1 (⟨#[]⟩ : ByteArray)).bind fun bt164 => ((fdtab_Release.f k bt164.1 0).bind fun bt169 => (if t149 = 3 then (if t150 = true then (if t151 = 10 then (if t152 = true then (if t154 = true then (none) else (if (bt158.1.length : Int) = 1 then (if (bt158.2.length : Int) = 2 then (if 0 < (bt158.2.length : Int) then (if (rd bt158.2 0) = 5 then (if 1 < (bt158.2.length : Int) then (if (rd bt158.2 1) = 5 then (if bt164.2.2 = 0 then (if bt164.2.1 = 0 then (if (bt164.1.length : Int) = 1 then (if bt169.2.2 = 0 then (if bt169.2.1 = true then (if (bt169.1.length : Int) = 1 then (if 0 < (bt169.1.length : Int) then (if (((rd_T24 bt169.1 0).f0) == 0 && (((rd_T24 bt169.1 0).f1) == 0 && (((rd_T24 bt169.1 0).f2) == 0 && (((rd_T24 bt169.1 0).f3) == 0 && (((rd_T24 bt169.1 0).f4) == 0 && ((((rd_T24 bt169.1 0).f5).toList) == ([] : List UInt8))))))) = true then ((fdtab_Valid.f k y146).bind fun t177 => (some (t177 == 0))) else (none)) else (none)) else (none)) else (none)) else (none)) else (none)) else (none)) else (none)) else (none)) else (none)) else (none)) else (none)) else (none)) else (none))) else (none)) else (none)) else (none)) else (none))))) = some r := by first | (rw [hy155]; with_reducible exact H) | (have H2_ := (Option.bind_some _ _).symm.trans H; rw [hy155]; with_reducible exact H2_) | (have H2_ := (Option.bind_some _ _).symm.trans H; with_reducible exact H2_) | with_reducible exact H | (rw [hy155]; exact H) | exact H
  have Ny155 := Aside0.mk hy155
  clear hy155
  replace H := Option.bind_eq_some_iff.mp H
  obtain ⟨⟨t158, t159⟩, A40, H⟩ := H
  replace H : ((fdtab_Add.f k ([] : List (S24)) 5 0 0 0 1 (⟨#[]⟩ : ByteArray)).bind fun bt164 => ((fdtab_Release.f k bt164.1 0).bind fun bt169 => (if t149 = 3 then (if t150 = true then (if t151 = 10 then (if t152 = true then (if t154 = true then (none) else (if (t158.length : Int) = 1 then (if (t159.length : Int) = 2 then (if 0 < (t159.length : Int) then (if (rd t159 0) = 5 then (if 1 < (t159.length : Int) then (if (rd t159 1) = 5 then (if bt164.2.2 = 0 then (if bt164.2.1 = 0 then (if (bt164.1.length : Int) = 1 then (if bt169.2.2 = 0 then (if bt169.2.1 = true then (if (bt169.1.length : Int) = 1 then (if 0 < (bt169.1.length : Int) then (if (((rd_T24 bt169.1 0).f0) == 0 && (((rd_T24 bt169.1 0).f1) == 0 && (((rd_T24 bt169.1 0).f2) == 0 && (((rd_T24 bt169.1 0).f3) == 0 && (((rd_T24 bt169.1 0).f4) == 0 && ((((rd_T24 bt169.1 0).f5).toList) == ([] : List UInt8))))))) = true then ((fdtab_Valid.f k y146).bind fun t177 => (some (t177 == 0))) else (none)) else (none)) else (none)) else (none)) else (none)) else (none)) else (none)) else (none)) else (none)) else (none)) else (none)) else (none)) else (none)) else (none))) else (none)) else (none)) else (none)) else (none)))) = some r := H
  have A4 := Aside0.mk A40
  clear A40
  replace H := Option.bind_eq_some_iff.mp H
  obtain ⟨⟨t164, t167, t168⟩, A50, H⟩ := H
  replace H : ((fdtab_Release.f k t164 0).bind fun bt169 => (if t149 = 3 then (if t150 = true then (if t151 = 10 then (if t152 = true then (if t154 = true then (none) else (if (t158.length : Int) = 1 then (if (t159.length : Int) = 2 then (if 0 < (t159.length : Int) then (if (rd t159 0) = 5 then (if 1 < (t159.length : Int) then (if (rd t159 1) = 5 then (if t168 = 0 then (if t167 = 0 then (if (t164.length : Int) = 1 then (if bt169.2.2 = 0 then (if bt169.2.1 = true then (if (bt169.1.length : Int) = 1 then (if 0 < (bt169.1.length : Int) then (if (((rd_T24 bt169.1 0).f0) == 0 && (((rd_T24 bt169.1 0).f1) == 0 && (((rd_T24 bt169.1 0).f2) == 0 && (((rd_T24 bt169.1 0).f3) == 0 && (((rd_T24 bt169.1 0).f4) == 0 && ((((rd_T24 bt169.1 0).f5).toList) == ([] : List UInt8))))))) = true then ((fdtab_Valid.f k y146).bind fun t177 => (some (t177 == 0))) else (none)) else (none)) else (none)) else (none)) else (none)) else (none)) else (none)) else (none)) else (none)) else (none)) else (none)) else (none)) else (none)) else (none))) else (none)) else (none)) else (none)) else (none))) = some r := H
  have A5 := Aside0.mk A50
  clear A50
  replace H := Option.bind_eq_some_iff.mp H
  obtain ⟨⟨t169, t172, t173⟩, A60, H⟩ := H
  replace H : (if t149 = 3 then (if t150 = true then (if t151 = 10 then (if t152 = true then (if t154 = true then (none) else (if (t158.length : Int) = 1 then (if (t159.length : Int) = 2 then (if 0 < (t159.length : Int) then (if (rd t159 0) = 5 then (if 1 < (t159.length : Int) then (if (rd t159 1) = 5 then (if t168 = 0 then (if t167 = 0 then (if (t164.length : Int) = 1 then (if t173 = 0 then (if t172 = true then (if (t169.length : Int) = 1 then (if 0 < (t169.length : Int) then (if (((rd_T24 t169 0).f0) == 0 && (((rd_T24 t169 0).f1) == 0 && (((rd_T24 t169 0).f2) == 0 && (((rd_T24 t169 0).f3) == 0 && (((rd_T24 t169 0).f4) == 0 && ((((rd_T24 t169 0).f5).toList) == ([] : List UInt8))))))) = true then ((fdtab_Valid.f k y146).bind fun t177 => (some (t177 == 0))) else (none)) else (none)) else (none)) else (none)) else (none)) else (none)) else (none)) else (none)) else (none)) else (none)) else (none)) else (none)) else (none)) else (none))) else (none)) else (none)) else (none)) else (none)) = some r := H
  have A6 := Aside0.mk A60
  clear A60
  by_cases c7 : t149 = 3
  · rw [if_pos c7] at H
    have c7b0 : (t149 == 3) = true := beq_iff_eq.mpr c7
    have c7b1 : (t149 != 3) = false := bne_eq_false_iff_eq.mpr c7
    clear c7
    by_cases c8 : t150 = true
    · subst c8
      have H1 : (if t151 = 10 then (if t152 = true then (if t154 = true then (none) else (if (t158.length : Int) = 1 then (if (t159.length : Int) = 2 then (if 0 < (t159.length : Int) then (if (rd t159 0) = 5 then (if 1 < (t159.length : Int) then (if (rd t159 1) = 5 then (if t168 = 0 then (if t167 = 0 then (if (t164.length : Int) = 1 then (if t173 = 0 then (if t172 = true then (if (t169.length : Int) = 1 then (if 0 < (t169.length : Int) then (if (((rd_T24 t169 0).f0) == 0 && (((rd_T24 t169 0).f1) == 0 && (((rd_T24 t169 0).f2) == 0 && (((rd_T24 t169 0).f3) == 0 && (((rd_T24 t169 0).f4) == 0 && ((((rd_T24 t169 0).f5).toList) == ([] : List UInt8))))))) = true then ((fdtab_Valid.f k y146).bind fun t177 => (some (t177 == 0))) else (none)) else (none)) else (none)) else (none)) else (none)) else (none)) else (none)) else (none)) else (none)) else (none)) else (none)) else (none)) else (none)) else (none))) else (none)) else (none)) = some r := by rw [if_pos rfl] at H; exact H
      clear H
      have H := H1
      clear H1
      by_cases c9 : t151 = 10
      · rw [if_pos c9] at H
        have c9b0 : (t151 == 10) = true := beq_iff_eq.mpr c9
        have c9b1 : (t151 != 10) = false := bne_eq_false_iff_eq.mpr c9
        clear c9
        by_cases c10 : t152 = true
        · subst c10
          have H1 : (if t154 = true then (none) else (if (t158.length : Int) = 1 then (if (t159.length : Int) = 2 then (if 0 < (t159.length : Int) then (if (rd t159 0) = 5 then (if 1 < (t159.length : Int) then (if (rd t159 1) = 5 then (if t168 = 0 then (if t167 = 0 then (if (t164.length : Int) = 1 then (if t173 = 0 then (if t172 = true then (if (t169.length : Int) = 1 then (if 0 < (t169.length : Int) then (if (((rd_T24 t169 0).f0) == 0 && (((rd_T24 t169 0).f1) == 0 && (((rd_T24 t169 0).f2) == 0 && (((rd_T24 t169 0).f3) == 0 && (((rd_T24 t169 0).f4) == 0 && ((((rd_T24 t169 0).f5).toList) == ([] : List UInt8))))))) = true then ((fdtab_Valid.f k y146).bind fun t177 => (some (t177 == 0))) else (none)) else (none)) else (none)) else (none)) else (none)) else (none)) else (none)) else (none)) else (none)) else (none)) else (none)) else (none)) else (none)) else (none))) = some r := by rw [if_pos rfl] at H; exact H
          clear H
          have H := H1
          clear H1
          by_cases c11 : t154 = true
          · subst c11
            have H1 : (none) = some r := by rw [if_pos rfl] at H; exact H
            clear H
            have H := H1
            clear H1
            exact absurd H (by simp)
          · replace c11 := Bool.eq_false_iff.mpr c11
            subst c11
            have H1 : (if (t158.length : Int) = 1 then (if (t159.length : Int) = 2 then (if 0 < (t159.length : Int) then (if (rd t159 0) = 5 then (if 1 < (t159.length : Int) then (if (rd t159 1) = 5 then (if t168 = 0 then (if t167 = 0 then (if (t164.length : Int) = 1 then (if t173 = 0 then (if t172 = true then (if (t169.length : Int) = 1 then (if 0 < (t169.length : Int) then (if (((rd_T24 t169 0).f0) == 0 && (((rd_T24 t169 0).f1) == 0 && (((rd_T24 t169 0).f2) == 0 && (((rd_T24 t169 0).f3) == 0 && (((rd_T24 t169 0).f4) == 0 && ((((rd_T24 t169 0).f5).toList) == ([] : List UInt8))))))) = true then ((fdtab_Valid.f k y146).bind fun t177 => (some (t177 == 0))) else (none)) else (none)) else (none)) else (none)) else (none)) else (none)) else (none)) else (none)) else (none)) else (none)) else (none)) else (none)) else (none)) else (none)) = some r := by rw [if_neg (show ¬ (false = true) by decide)] at H; exact H
            clear H
            have H := H1
            clear H1
            by_cases c12 : (t158.length : Int) = 1
            · rw [if_pos c12] at H
              have c12b0 : ((t158.length : Int) == 1) = true := beq_iff_eq.mpr c12
              have c12b1 : ((t158.length : Int) != 1) = false := bne_eq_false_iff_eq.mpr c12
              clear c12
              by_cases c13 : (t159.length : Int) = 2
              · rw [if_pos c13] at H
                have c13b0 : ((t159.length : Int) == 2) = true := beq_iff_eq.mpr c13
                have c13b1 : ((t159.length : Int) != 2) = false := bne_eq_false_iff_eq.mpr c13
                clear c13
                by_cases c14 : 0 < (t159.length : Int)
                · rw [if_pos c14] at H
                  have c14b0 : decide (0 < (t159.length : Int)) = true := decide_eq_true c14
                  have c14b1 : decide (0 < t159.length) = true := decide_eq_true (by omega)
                  clear c14
                  by_cases c15 : (rd t159 0) = 5
                  · rw [if_pos c15] at H
                    have c15b0 : ((rd t159 0) == 5) = true := beq_iff_eq.mpr c15
                    have c15b1 : ((rd t159 0) != 5) = false := bne_eq_false_iff_eq.mpr c15
                    clear c15
                    by_cases c16 : 1 < (t159.length : Int)
                    · rw [if_pos c16] at H
                      have c16b0 : decide (1 < (t159.length : Int)) = true := decide_eq_true c16
                      have c16b1 : decide (1 < t159.length) = true := decide_eq_true (by omega)
                      clear c16
                      by_cases c17 : (rd t159 1) = 5
                      · rw [if_pos c17] at H
                        have c17b0 : ((rd t159 1) == 5) = true := beq_iff_eq.mpr c17
                        have c17b1 : ((rd t159 1) != 5) = false := bne_eq_false_iff_eq.mpr c17
                        clear c17
                        by_cases c18 : t168 = 0
                        · rw [if_pos c18] at H
                          have c18b0 : (t168 == 0) = true := beq_iff_eq.mpr c18
                          have c18b1 : (t168 != 0) = false := bne_eq_false_iff_eq.mpr c18
                          clear c18
                          by_cases c19 : t167 = 0
                          · rw [if_pos c19] at H
                            have c19b0 : (t167 == 0) = true := beq_iff_eq.mpr c19
                            have c19b1 : (t167 != 0) = false := bne_eq_false_iff_eq.mpr c19
                            clear c19
                            by_cases c20 : (t164.length : Int) = 1
                            · rw [if_pos c20] at H
                              have c20b0 : ((t164.length : Int) == 1) = true := beq_iff_eq.mpr c20
                              have c20b1 : ((t164.length : Int) != 1) = false := bne_eq_false_iff_eq.mpr c20
                              clear c20
                              by_cases c21 : t173 = 0
                              · rw [if_pos c21] at H
                                have c21b0 : (t173 == 0) = true := beq_iff_eq.mpr c21
                                have c21b1 : (t173 != 0) = false := bne_eq_false_iff_eq.mpr c21
                                clear c21
                                by_cases c22 : t172 = true
                                · subst c22
                                  have H1 : (if (t169.length : Int) = 1 then (if 0 < (t169.length : Int) then (if (((rd_T24 t169 0).f0) == 0 && (((rd_T24 t169 0).f1) == 0 && (((rd_T24 t169 0).f2) == 0 && (((rd_T24 t169 0).f3) == 0 && (((rd_T24 t169 0).f4) == 0 && ((((rd_T24 t169 0).f5).toList) == ([] : List UInt8))))))) = true then ((fdtab_Valid.f k y146).bind fun t177 => (some (t177 == 0))) else (none)) else (none)) else (none)) = some r := by rw [if_pos rfl] at H; exact H
                                  clear H
                                  have H := H1
                                  clear H1
                                  by_cases c23 : (t169.length : Int) = 1
                                  · rw [if_pos c23] at H
                                    have c23b0 : ((t169.length : Int) == 1) = true := beq_iff_eq.mpr c23
                                    have c23b1 : ((t169.length : Int) != 1) = false := bne_eq_false_iff_eq.mpr c23
                                    clear c23
                                    by_cases c24 : 0 < (t169.length : Int)
                                    · rw [if_pos c24] at H
                                      have c24b0 : decide (0 < (t169.length : Int)) = true := decide_eq_true c24
                                      have c24b1 : decide (0 < t169.length) = true := decide_eq_true (by omega)
                                      clear c24
                                      by_cases c25 : (((rd_T24 t169 0).f0) == 0 && (((rd_T24 t169 0).f1) == 0 && (((rd_T24 t169 0).f2) == 0 && (((rd_T24 t169 0).f3) == 0 && (((rd_T24 t169 0).f4) == 0 && ((((rd_T24 t169 0).f5).toList) == ([] : List UInt8))))))) = true
                                      · rw [if_pos c25] at H
                                        have c25b0 : (((rd_T24 t169 0).f0) == 0 && (((rd_T24 t169 0).f1) == 0 && (((rd_T24 t169 0).f2) == 0 && (((rd_T24 t169 0).f3) == 0 && (((rd_T24 t169 0).f4) == 0 && ((((rd_T24 t169 0).f5).toList) == ([] : List UInt8))))))) = true := c25
                                        (try (have c25bQ := c25b0; simp only [Bool.and_eq_true, beq_iff_eq] at c25bQ; have c25bP := eq_true c25bQ; clear c25bQ))
                                        (try (have c25b1 : decide (((rd_T24 t169 0).f0) = 0 && (((rd_T24 t169 0).f1) == 0 && (((rd_T24 t169 0).f2) == 0 && (((rd_T24 t169 0).f3) == 0 && (((rd_T24 t169 0).f4) == 0 && ((((rd_T24 t169 0).f5).toList) == ([] : List UInt8))))))) = true := by simpa using c25))
                                        (try (have c25b2 : (((rd_T24 t169 0).f0) == 0 && (((rd_T24 t169 0).f1) == 0 && (((rd_T24 t169 0).f2) == 0 && (((rd_T24 t169 0).f3) == 0 && (((rd_T24 t169 0).f4) == 0 && ((((rd_T24 t169 0).f5).toList) == ([] : List UInt8))))))) = true := by simpa using c25))
                                        clear c25
                                        replace H := Option.bind_eq_some_iff.mp H
                                        obtain ⟨t177, A260, H⟩ := H
                                        replace H : (some (t177 == 0)) = some r := H
                                        have A26 := Aside0.mk A260
                                        clear A260
                                        obtain rfl := Option.some.inj H
                                        go_enter Try.func10, Try.ntmps10
                                        go_wp2_with (first | ((with_reducible refine gate_dst (N := 19) rfl ?_); (try (refine gate_guard (by rfl) ?_; dsimp only)); refine Kd.R_lit k36 _ 36 ?hg (N := 19) ?hd (xs := ([(⟨0, 0, false⟩ : S36), (⟨1, 1, false⟩ : S36), (⟨2, 1, false⟩ : S36)] : List (S36))) (inner := [.int .i64 0, .int .i64 0, .bool false, .int .i64 1, .int .i64 1, .bool false, .int .i64 2, .int .i64 1, .bool false]) (ok := fun _ => True) (okp := fun _ => True) ?hr ?hp (fun _ hk => hk) trivial (Below.refl _ _) (Nat.le_refl _) (by simp) ?_; (case hd => rfl); (case hg => rfl); (case hr => first | (go_simp; done) | (go_simp; rfl)); (case hp => exact (Reps.c3 (show Kd.M k36 _ _ _ (⟨0, 0, false⟩ : S36) [.int .i64 0, .int .i64 0, .bool false] from (k36_mkM _ _ _ (⟨0, 0, false⟩ : S36) )) (Reps.c3 (show Kd.M k36 _ _ _ (⟨1, 1, false⟩ : S36) [.int .i64 1, .int .i64 1, .bool false] from (k36_mkM _ _ _ (⟨1, 1, false⟩ : S36) )) (Reps.c3 (show Kd.M k36 _ _ _ (⟨2, 1, false⟩ : S36) [.int .i64 2, .int .i64 1, .bool false] from (k36_mkM _ _ _ (⟨2, 1, false⟩ : S36) )) (Reps.none _ _))))); intro v147 w27 ho28 hb hg_ hnew_; clear hg_ hnew_; (first | rw [← Ny146.out] at ho28 | (simp only [Int.reduceToNat] at ho28; rw [← Ny146.out] at ho28)); have n0_ := Aside0.mk (Kd.R_lower ho28 (below_size (by repeat (first | (with_reducible first | exact HB.out | apply below_alloc | apply pw_below_drewN | apply below_drew1) | exact HB.out)))); have n1_ := Aside0.mk (below_step (by repeat (first | (with_reducible first | exact HB.out | apply below_alloc | apply pw_below_drewN | apply below_drew1) | exact HB.out)) hb); clear HB; have HO148 := n0_; have HB := n1_; clear n0_ n1_; clear hb ho28; obtain ⟨Ao29, co29, eo29⟩ := Kd.R_slice HO148.out; subst eo29) | ((with_reducible refine gate_callee (f := 16) rfl ?_); refine goesL_ (some 22) rfl rfl Try.func16 (by kernel_rfl) rfl #[.slice Ao29 y146.length co29, .int .i64 0] rfl (by (try simp only [List.map_toArray, List.map_cons, List.map_nil]); first | done | rfl | (simp only [List.length_drop, List.length_take]; rfl)) ?_; (with_reducible refine (fdtab_Free.calls k _ _ y146 0 t149 true _ ?side1 ?side2 A1.out).mono ?_); (case side1 => repeat (first | exact (Kd.R_reads' HO148.out).2.2 | (with_reducible refine Kd.C_alloc ?_ _) | (with_reducible refine Kd.C_drewN ?_ _) | (with_reducible refine Kd.C_drew ?_))); (case side2 => exact (Kd.R_reads' HO148.out).2.1); rintro e w30 ⟨rfl, hb⟩; refine ⟨_, rfl, ?_⟩; have n0_ := Aside0.mk (Kd.R_below (by (with_reducible repeat (first | apply Kd.R_alloc | apply Kd.R_drewN | apply Kd.R_drew)); exact HO148.out) hb); have n1_ := Aside0.mk (below_step (by repeat (first | (with_reducible first | exact HB.out | apply below_alloc | apply pw_below_drewN | apply below_drew1) | exact HB.out)) hb); clear HO148; clear HB; have HO148 := n0_; have HB := n1_; clear n0_ n1_; (try clear hb); (try clear hb2); (try clear hk); (try clear hi)) | ((with_reducible refine gate_callee (f := 16) rfl ?_); refine goesL_ (some 27) rfl rfl Try.func16 (by kernel_rfl) rfl #[.slice Ao29 y146.length co29, .int .i64 10] rfl (by (try simp only [List.map_toArray, List.map_cons, List.map_nil]); first | done | rfl | (simp only [List.length_drop, List.length_take]; rfl)) ?_; (with_reducible refine (fdtab_Free.calls k _ _ y146 10 t151 true _ ?side1 ?side2 A2.out).mono ?_); (case side1 => repeat (first | exact (Kd.R_reads' HO148.out).2.2 | (with_reducible refine Kd.C_alloc ?_ _) | (with_reducible refine Kd.C_drewN ?_ _) | (with_reducible refine Kd.C_drew ?_))); (case side2 => exact (Kd.R_reads' HO148.out).2.1); rintro e w31 ⟨rfl, hb⟩; refine ⟨_, rfl, ?_⟩; have n0_ := Aside0.mk (Kd.R_below (by (with_reducible repeat (first | apply Kd.R_alloc | apply Kd.R_drewN | apply Kd.R_drew)); exact HO148.out) hb); have n1_ := Aside0.mk (below_step (by repeat (first | (with_reducible first | exact HB.out | apply below_alloc | apply pw_below_drewN | apply below_drew1) | exact HB.out)) hb); clear HO148; clear HB; have HO148 := n0_; have HB := n1_; clear n0_ n1_; (try clear hb); (try clear hb2); (try clear hk); (try clear hi)) | ((with_reducible refine gate_callee (f := 16) rfl ?_); refine goesL_ (some 32) rfl rfl Try.func16 (by kernel_rfl) rfl #[.slice Ao29 y146.length co29, .int .i64 32] rfl (by (try simp only [List.map_toArray, List.map_cons, List.map_nil]); first | done | rfl | (simp only [List.length_drop, List.length_take]; rfl)) ?_; (with_reducible refine (fdtab_Free.calls k _ _ y146 32 t153 false _ ?side1 ?side2 A3.out).mono ?_); (case side1 => repeat (first | exact (Kd.R_reads' HO148.out).2.2 | (with_reducible refine Kd.C_alloc ?_ _) | (with_reducible refine Kd.C_drewN ?_ _) | (with_reducible refine Kd.C_drew ?_))); (case side2 => exact (Kd.R_reads' HO148.out).2.1); rintro e w32 ⟨rfl, hb⟩; refine ⟨_, rfl, ?_⟩; have n0_ := Aside0.mk (Kd.R_below (by (with_reducible repeat (first | apply Kd.R_alloc | apply Kd.R_drewN | apply Kd.R_drew)); exact HO148.out) hb); have n1_ := Aside0.mk (below_step (by repeat (first | (with_reducible first | exact HB.out | apply below_alloc | apply pw_below_drewN | apply below_drew1) | exact HB.out)) hb); clear HO148; clear HB; have HO148 := n0_; have HB := n1_; clear n0_ n1_; (try clear hb); (try clear hb2); (try clear hk); (try clear hi)) | ((with_reducible refine gate_dst (N := 39) rfl ?_); (try (refine gate_guard (by rfl) ?_; dsimp only)); refine Kd.R_lit k36 _ 36 ?hg (N := 39) ?hd (xs := ([(⟨0, 0, false⟩ : S36), (⟨3, 5, true⟩ : S36), (⟨4, 5, true⟩ : S36)] : List (S36))) (inner := [.int .i64 0, .int .i64 0, .bool false, .int .i64 3, .int .i64 5, .bool true, .int .i64 4, .int .i64 5, .bool true]) (ok := fun _ => True) (okp := fun _ => True) ?hr ?hp (fun _ hk => hk) trivial (Below.refl _ _) (Nat.le_refl _) (by simp) ?_; (case hd => rfl); (case hg => rfl); (case hr => first | (go_simp; done) | (go_simp; rfl)); (case hp => exact (Reps.c3 (show Kd.M k36 _ _ _ (⟨0, 0, false⟩ : S36) [.int .i64 0, .int .i64 0, .bool false] from (k36_mkM _ _ _ (⟨0, 0, false⟩ : S36) )) (Reps.c3 (show Kd.M k36 _ _ _ (⟨3, 5, true⟩ : S36) [.int .i64 3, .int .i64 5, .bool true] from (k36_mkM _ _ _ (⟨3, 5, true⟩ : S36) )) (Reps.c3 (show Kd.M k36 _ _ _ (⟨4, 5, true⟩ : S36) [.int .i64 4, .int .i64 5, .bool true] from (k36_mkM _ _ _ (⟨4, 5, true⟩ : S36) )) (Reps.none _ _))))); intro v156 w33 ho34 hb hg_ hnew_; clear hg_ hnew_; (first | rw [← Ny155.out] at ho34 | (simp only [Int.reduceToNat] at ho34; rw [← Ny155.out] at ho34)); have n0_ := Aside0.mk (Kd.R_elder' (by (with_reducible repeat (first | apply Kd.R_alloc | apply Kd.R_drewN | apply Kd.R_drew)); exact HO148.out) (Kd.R_base ho34) hb); have n1_ := Aside0.mk (Kd.R_lower (Kd.R_new' ho34 (Kd.R_lt (by (with_reducible repeat (first | apply Kd.R_alloc | apply Kd.R_drewN | apply Kd.R_drew)); exact HO148.out))) (below_size (by repeat (first | (with_reducible first | exact HB.out | apply below_alloc | apply pw_below_drewN | apply below_drew1) | exact HB.out)))); have n2_ := Aside0.mk (below_step (by repeat (first | (with_reducible first | exact HB.out | apply below_alloc | apply pw_below_drewN | apply below_drew1) | exact HB.out)) hb); clear HO148; clear HB; have HO148 := n0_; have HO157 := n1_; have HB := n2_; clear n0_ n1_ n2_; clear hb ho34; obtain ⟨Ao35, co35, eo35⟩ := Kd.R_slice HO157.out; subst eo35) | ((with_reducible refine gate_callee (f := 28) rfl ?_); refine goesL_ (some 40) rfl rfl Try.func28 (by kernel_rfl) rfl #[.slice Ao35 y155.length co35] rfl (by (try simp only [List.map_toArray, List.map_cons, List.map_nil]); first | done | rfl | (simp only [List.length_drop, List.length_take]; rfl)) ?_; (with_reducible refine (fdtab_Exec.calls k _ _ y155 t158 t159 _ ?side1 ?side2 A4.out).mono ?_); (case side1 => repeat (first | exact (Kd.R_reads' HO157.out).2.2 | (with_reducible refine Kd.C_alloc ?_ _) | (with_reducible refine Kd.C_drewN ?_ _) | (with_reducible refine Kd.C_drew ?_))); (case side2 => exact (Kd.R_reads' HO157.out).2.1); rintro e w36 ⟨v160, v162, rfl, ho0, ho1, hb⟩; refine ⟨_, rfl, ?_⟩; have n0_ := Aside0.mk (Kd.R_elder' (by (with_reducible repeat (first | apply Kd.R_alloc | apply Kd.R_drewN | apply Kd.R_drew)); exact HO148.out) (Kd.R_base ho0) hb); have n1_ := Aside0.mk (Kd.R_elder' (by (with_reducible repeat (first | apply Kd.R_alloc | apply Kd.R_drewN | apply Kd.R_drew)); exact HO157.out) (Kd.R_base ho0) hb); have n2_ := Aside0.mk (Kd.R_lower (Kd.R_new' (Kd.R_new' ho0 (Kd.R_lt (by (with_reducible repeat (first | apply Kd.R_alloc | apply Kd.R_drewN | apply Kd.R_drew)); exact HO148.out))) (Kd.R_lt (by (with_reducible repeat (first | apply Kd.R_alloc | apply Kd.R_drewN | apply Kd.R_drew)); exact HO157.out))) (below_size (by repeat (first | (with_reducible first | exact HB.out | apply below_alloc | apply pw_below_drewN | apply below_drew1) | exact HB.out)))); have n3_ := Aside0.mk (Kd.R_lower ho1 (below_size (by repeat (first | (with_reducible first | exact HB.out | apply below_alloc | apply pw_below_drewN | apply below_drew1) | exact HB.out)))); have n4_ := Aside0.mk (below_step (by repeat (first | (with_reducible first | exact HB.out | apply below_alloc | apply pw_below_drewN | apply below_drew1) | exact HB.out)) hb); clear HO148; clear HO157; clear HB; have HO148 := n0_; have HO157 := n1_; have HO161 := n2_; have HO163 := n3_; have HB := n4_; clear n0_ n1_ n2_ n3_ n4_; (try clear hb); (try clear hb2); (try clear hk); (try clear hi); (try clear ho0); (try clear ho1)) | ((with_reducible refine gate_callee (f := 11) rfl ?_); refine goesL_ (some 45) rfl rfl Try.func11 (by kernel_rfl) rfl #[.slice none 0 0, .agg #[.int .i64 5, .int .i64 0, .int .i64 0, .int .i64 0, .int .i64 1, .string (⟨#[]⟩ : ByteArray)]] rfl (by (try simp only [List.map_toArray, List.map_cons, List.map_nil]); first | done | rfl | (simp only [List.length_drop, List.length_take]; rfl)) ?_; (refine (fdtab_Add.calls k (fun k_ => False) _ _ ([] : List (S24)) 5 0 0 0 1 (⟨#[]⟩ : ByteArray) t164 t167 t168 _ ?side1 A5.out).mono ?_); (case side1 => exact Kd.V_nil _ _ _ _ _); rintro e w37 ⟨v165, rfl, ho0, hb⟩; refine ⟨_, rfl, ?_⟩; have n0_ := Aside0.mk (Kd.R_below (by (with_reducible repeat (first | apply Kd.R_alloc | apply Kd.R_drewN | apply Kd.R_drew)); exact HO148.out) hb); have n1_ := Aside0.mk (Kd.R_below (by (with_reducible repeat (first | apply Kd.R_alloc | apply Kd.R_drewN | apply Kd.R_drew)); exact HO157.out) hb); have n2_ := Aside0.mk (Kd.R_below (by (with_reducible repeat (first | apply Kd.R_alloc | apply Kd.R_drewN | apply Kd.R_drew)); exact HO161.out) hb); have n3_ := Aside0.mk (Kd.R_below (by (with_reducible repeat (first | apply Kd.R_alloc | apply Kd.R_drewN | apply Kd.R_drew)); exact HO163.out) hb); have n4_ := Aside0.mk (Kd.V_lower (Kd.V_mono (ok' := fun k_ => some k_ ≠ (.slice Ao29 y146.length co29 : Value).ownBlock ∧ some k_ ≠ (.slice Ao35 y155.length co35 : Value).ownBlock ∧ some k_ ≠ (v160 : Value).ownBlock ∧ some k_ ≠ (v162 : Value).ownBlock) ho0 (fun k_ hk_ => ⟨Or.elim hk_ (fun hs_ => (hs_).elim) (fun hn_ => (Kd.fresh' (Kd.R_lt (by (with_reducible repeat (first | apply Kd.R_alloc | apply Kd.R_drewN | apply Kd.R_drew)); exact HO148.out)) k_ hn_)), Or.elim hk_ (fun hs_ => (hs_).elim) (fun hn_ => (Kd.fresh' (Kd.R_lt (by (with_reducible repeat (first | apply Kd.R_alloc | apply Kd.R_drewN | apply Kd.R_drew)); exact HO157.out)) k_ hn_)), Or.elim hk_ (fun hs_ => (hs_).elim) (fun hn_ => (Kd.fresh' (Kd.R_lt (by (with_reducible repeat (first | apply Kd.R_alloc | apply Kd.R_drewN | apply Kd.R_drew)); exact HO161.out)) k_ hn_)), Or.elim hk_ (fun hs_ => (hs_).elim) (fun hn_ => (Kd.fresh' (Kd.R_lt (by (with_reducible repeat (first | apply Kd.R_alloc | apply Kd.R_drewN | apply Kd.R_drew)); exact HO163.out)) k_ hn_))⟩)) (below_size (by repeat (first | (with_reducible first | exact HB.out | apply below_alloc | apply pw_below_drewN | apply below_drew1) | exact HB.out)))); have n5_ := Aside0.mk (below_step (by repeat (first | (with_reducible first | exact HB.out | apply below_alloc | apply pw_below_drewN | apply below_drew1) | exact HB.out)) hb); clear HO148; clear HO157; clear HO161; clear HO163; clear HB; have HO148 := n0_; have HO157 := n1_; have HO161 := n2_; have HO163 := n3_; have HO166 := n4_; have HB := n5_; clear n0_ n1_ n2_ n3_ n4_ n5_; (try clear hb); (try clear hb2); (try clear hk); (try clear hi); (try clear ho0); obtain ⟨Ao38, co38, eo38⟩ := Kd.V_slice HO166.out; subst eo38) | ((with_reducible refine gate_callee (f := 22) rfl ?_); refine goesL_ (some 51) rfl rfl Try.func22 (by kernel_rfl) rfl #[.slice Ao38 t164.length co38, .int .i64 0] rfl (by (try simp only [List.map_toArray, List.map_cons, List.map_nil]); first | done | rfl | (simp only [List.length_drop, List.length_take]; rfl)) ?_; (with_reducible refine (fdtab_Release.calls k (fun k_ => (some k_ ≠ (.slice Ao29 y146.length co29 : Value).ownBlock ∧ (some k_ ≠ (.slice Ao35 y155.length co35 : Value).ownBlock ∧ (some k_ ≠ (v160 : Value).ownBlock ∧ some k_ ≠ (v162 : Value).ownBlock)))) _ _ t164 0 t169 true t173 _ ?side1 A6.out).mono ?_); (case side1 => exact HO166.out); rintro e w39 ⟨v170, rfl, ho0, hb⟩; refine ⟨_, rfl, ?_⟩; have n0_ := Aside0.mk (Kd.R_below (by (with_reducible repeat (first | apply Kd.R_alloc | apply Kd.R_drewN | apply Kd.R_drew)); exact HO148.out) hb); have n1_ := Aside0.mk (Kd.R_below (by (with_reducible repeat (first | apply Kd.R_alloc | apply Kd.R_drewN | apply Kd.R_drew)); exact HO157.out) hb); have n2_ := Aside0.mk (Kd.R_below (by (with_reducible repeat (first | apply Kd.R_alloc | apply Kd.R_drewN | apply Kd.R_drew)); exact HO161.out) hb); have n3_ := Aside0.mk (Kd.R_below (by (with_reducible repeat (first | apply Kd.R_alloc | apply Kd.R_drewN | apply Kd.R_drew)); exact HO163.out) hb); have n4_ := Aside0.mk (Kd.V_below (by (with_reducible repeat (first | apply Kd.V_alloc | apply Kd.V_drewN | apply Kd.V_drew)); exact HO166.out) hb); have n5_ := Aside0.mk (Kd.V_lower (Kd.V_mono (ok' := fun k_ => some k_ ≠ (.slice Ao29 y146.length co29 : Value).ownBlock ∧ some k_ ≠ (.slice Ao35 y155.length co35 : Value).ownBlock ∧ some k_ ≠ (v160 : Value).ownBlock ∧ some k_ ≠ (v162 : Value).ownBlock) ho0 (fun k_ hk_ => ⟨Or.elim hk_ (fun hs_ => hs_.1) (fun hn_ => (Kd.fresh' (Kd.R_lt (by (with_reducible repeat (first | apply Kd.R_alloc | apply Kd.R_drewN | apply Kd.R_drew)); exact HO148.out)) k_ hn_)), Or.elim hk_ (fun hs_ => hs_.2.1) (fun hn_ => (Kd.fresh' (Kd.R_lt (by (with_reducible repeat (first | apply Kd.R_alloc | apply Kd.R_drewN | apply Kd.R_drew)); exact HO157.out)) k_ hn_)), Or.elim hk_ (fun hs_ => hs_.2.2.1) (fun hn_ => (Kd.fresh' (Kd.R_lt (by (with_reducible repeat (first | apply Kd.R_alloc | apply Kd.R_drewN | apply Kd.R_drew)); exact HO161.out)) k_ hn_)), Or.elim hk_ (fun hs_ => hs_.2.2.2) (fun hn_ => (Kd.fresh' (Kd.R_lt (by (with_reducible repeat (first | apply Kd.R_alloc | apply Kd.R_drewN | apply Kd.R_drew)); exact HO163.out)) k_ hn_))⟩)) (below_size (by repeat (first | (with_reducible first | exact HB.out | apply below_alloc | apply pw_below_drewN | apply below_drew1) | exact HB.out)))); have n6_ := Aside0.mk (below_step (by repeat (first | (with_reducible first | exact HB.out | apply below_alloc | apply pw_below_drewN | apply below_drew1) | exact HB.out)) hb); clear HO148; clear HO157; clear HO161; clear HO163; clear HO166; clear HB; have HO148 := n0_; have HO157 := n1_; have HO161 := n2_; have HO163 := n3_; have HO166 := n4_; have HO171 := n5_; have HB := n6_; clear n0_ n1_ n2_ n3_ n4_ n5_ n6_; (try clear hb); (try clear hb2); (try clear hk); (try clear hi); (try clear ho0); obtain ⟨Ao40, co40, eo40⟩ := Kd.R_slice HO161.out; subst eo40; obtain ⟨Ao41, co41, eo41⟩ := Kd.R_slice HO163.out; subst eo41; have p174 : 0 ≤ (0 : Int) := (by omega); have q174 : 0 < (t159.length : Int) := of_decide_eq_true (by first | (with_reducible assumption) | assumption); obtain ⟨ad174, e174, hx174_0⟩ := Kd.at_int (Kd.R_reads' HO163.out).2.2 0 p174 q174; cases e174; have qi174 : (0 < t159.length) = True := eq_true (by omega); (try rw [show ((0 : Int)).toNat = 0 from rfl] at hx174_0); (try rw [Addr.add_zero'] at hx174_0); replace p174 := eq_true p174; replace q174 := eq_true q174; have p175 : 0 ≤ (1 : Int) := (by omega); have q175 : 1 < (t159.length : Int) := of_decide_eq_true (by first | (with_reducible assumption) | assumption); obtain ⟨ad175, e175, hx175_0⟩ := Kd.at_int (Kd.R_reads' HO163.out).2.2 1 p175 q175; obtain rfl : ad174 = ad175 := (by injection e175); (try simp only [show (1 : Int).toNat = 1 from rfl, Nat.reduceMul, Nat.reduceEqDiff, Go.Addr.add, ↓reduceIte] at hx175_0); have qi175 : (1 < t159.length) = True := eq_true (by omega); (try rw [show ((1 : Int)).toNat = 1 from rfl] at hx175_0); replace p175 := eq_true p175; replace q175 := eq_true q175; obtain ⟨Ao42, co42, eo42⟩ := Kd.V_slice HO171.out; subst eo42; have p176 : 0 ≤ (0 : Int) := (by omega); have q176 : 0 < (t169.length : Int) := of_decide_eq_true (by first | (with_reducible assumption) | assumption); obtain ⟨ad176, e176, hx176_0, hx176_1, hx176_2, hx176_3, hx176_4, hx176_5⟩ := at_T24 (Kd.V_reads' HO171.out).2.2 0 p176 q176; cases e176; have qi176 : (0 < t169.length) = True := eq_true (by omega); (try rw [show ((0 : Int)).toNat = 0 from rfl] at hx176_0); (try rw [show 0 * 6 = 0 from rfl] at hx176_0); (try rw [Addr.add_zero'] at hx176_0); (try rw [show ((0 : Int)).toNat = 0 from rfl] at hx176_1); (try rw [show 0 * 6 = 0 from rfl] at hx176_1); (try rw [Addr.add_zero'] at hx176_1); (try rw [show ((0 : Int)).toNat = 0 from rfl] at hx176_2); (try rw [show 0 * 6 = 0 from rfl] at hx176_2); (try rw [Addr.add_zero'] at hx176_2); (try rw [show ((0 : Int)).toNat = 0 from rfl] at hx176_3); (try rw [show 0 * 6 = 0 from rfl] at hx176_3); (try rw [Addr.add_zero'] at hx176_3); (try rw [show ((0 : Int)).toNat = 0 from rfl] at hx176_4); (try rw [show 0 * 6 = 0 from rfl] at hx176_4); (try rw [Addr.add_zero'] at hx176_4); (try rw [show ((0 : Int)).toNat = 0 from rfl] at hx176_5); (try rw [show 0 * 6 = 0 from rfl] at hx176_5); (try rw [Addr.add_zero'] at hx176_5); replace p176 := eq_true p176; replace q176 := eq_true q176) | (go_at_call 18; (with_reducible refine (fdtab_Valid.calls k _ _ y146 t177 _ ?side1 ?side2 A26.out).mono ?_); (case side1 => repeat (first | exact (Kd.R_reads' HO148.out).2.2 | (with_reducible refine Kd.C_alloc ?_ _) | (with_reducible refine Kd.C_drewN ?_ _) | (with_reducible refine Kd.C_drew ?_))); (case side2 => exact (Kd.R_reads' HO148.out).2.1); rintro e w43 ⟨rfl, hb⟩; have n0_ := Aside0.mk (Kd.R_below (by (with_reducible repeat (first | apply Kd.R_alloc | apply Kd.R_drewN | apply Kd.R_drew)); exact HO148.out) hb); have n1_ := Aside0.mk (Kd.R_below (by (with_reducible repeat (first | apply Kd.R_alloc | apply Kd.R_drewN | apply Kd.R_drew)); exact HO157.out) hb); have n2_ := Aside0.mk (Kd.R_below (by (with_reducible repeat (first | apply Kd.R_alloc | apply Kd.R_drewN | apply Kd.R_drew)); exact HO161.out) hb); have n3_ := Aside0.mk (Kd.R_below (by (with_reducible repeat (first | apply Kd.R_alloc | apply Kd.R_drewN | apply Kd.R_drew)); exact HO163.out) hb); have n4_ := Aside0.mk (Kd.V_below (by (with_reducible repeat (first | apply Kd.V_alloc | apply Kd.V_drewN | apply Kd.V_drew)); exact HO166.out) hb); have n5_ := Aside0.mk (Kd.V_below (by (with_reducible repeat (first | apply Kd.V_alloc | apply Kd.V_drewN | apply Kd.V_drew)); exact HO171.out) hb); have n6_ := Aside0.mk (below_step (by repeat (first | (with_reducible first | exact HB.out | apply below_alloc | apply pw_below_drewN | apply below_drew1) | exact HB.out)) hb); clear HO148; clear HO157; clear HO161; clear HO163; clear HO166; clear HO171; clear HB; have HO148 := n0_; have HO157 := n1_; have HO161 := n2_; have HO163 := n3_; have HO166 := n4_; have HO171 := n5_; have HB := n6_; clear n0_ n1_ n2_ n3_ n4_ n5_ n6_; (try clear hb); (try clear hb2); (try clear hk); (try clear hi)))
                                        go_ret
                                        exact ⟨by first | rfl | (simp [errW_none, errW_some] <;> rfl) | (simp [*, errW_none, errW_some] <;> rfl), by repeat (first | (with_reducible first | exact HB.out | apply below_alloc | apply pw_below_drewN | apply below_drew1) | exact HB.out)⟩
                                      · rw [if_neg c25] at H
                                        exact absurd H (by simp)
                                    · rw [if_neg c24] at H
                                      exact absurd H (by simp)
                                  · rw [if_neg c23] at H
                                    exact absurd H (by simp)
                                · replace c22 := Bool.eq_false_iff.mpr c22
                                  subst c22
                                  have H1 : (none) = some r := by rw [if_neg (show ¬ (false = true) by decide)] at H; exact H
                                  clear H
                                  have H := H1
                                  clear H1
                                  exact absurd H (by simp)
                              · rw [if_neg c21] at H
                                exact absurd H (by simp)
                            · rw [if_neg c20] at H
                              exact absurd H (by simp)
                          · rw [if_neg c19] at H
                            exact absurd H (by simp)
                        · rw [if_neg c18] at H
                          exact absurd H (by simp)
                      · rw [if_neg c17] at H
                        exact absurd H (by simp)
                    · rw [if_neg c16] at H
                      exact absurd H (by simp)
                  · rw [if_neg c15] at H
                    exact absurd H (by simp)
                · rw [if_neg c14] at H
                  exact absurd H (by simp)
              · rw [if_neg c13] at H
                exact absurd H (by simp)
            · rw [if_neg c12] at H
              exact absurd H (by simp)
        · replace c10 := Bool.eq_false_iff.mpr c10
          subst c10
          have H1 : (none) = some r := by rw [if_neg (show ¬ (false = true) by decide)] at H; exact H
          clear H
          have H := H1
          clear H1
          exact absurd H (by simp)
      · rw [if_neg c9] at H
        exact absurd H (by simp)
    · replace c8 := Bool.eq_false_iff.mpr c8
      subst c8
      have H1 : (none) = some r := by rw [if_neg (show ¬ (false = true) by decide)] at H; exact H
      clear H
      have H := H1
      clear H1
      exact absurd H (by simp)
  · rw [if_neg c7] at H
    exact absurd H (by simp)

end Go.Proofs.Ytpljggoogodhlaa.Q
