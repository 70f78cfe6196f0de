-- Written by wip/tool/myprint.py, a program of this repo that drives the kit's print over hand-written contracts; Lean checks it.
import Derived.Test.YtpljggoogodhlaaQ0
import Derived.Test.YtpljggoogodhlaaQ1
import Derived.Test.YtpljggoogodhlaaQ3
import Derived.Test.YtpljggoogodhlaaQ4
namespace Go.Proofs.Ytpljggoogodhlaa.Q
open Go.RowKit Go.Proofs.YtpljggoogodhlaaW.PrintWords Go.Proofs.YtpljggoogodhlaaW.PrintLast Go.Proofs.YtpljggoogodhlaaW.PrintMore Go.Proofs.YtpljggoogodhlaaM
attribute [local go_sem] max2_int min2_int max_two min_two max_three min_three max_four min_four   -- for this text's walks alone
set_option linter.unusedVariables false
set_option linter.unusedSimpArgs false

attribute [local go_sem high] eqA24
/-! ### jobshelllaw23_awake: function 10 -/
def jobshelllaw23_awake.f (k : Nat)  : Option (Bool) := (some (([(⟨0, 0, false⟩ : S36), (⟨1, 1, false⟩ : S36), (⟨2, 1, false⟩ : S36)] : List (S36)) : List (S36))).bind fun y146 => ((fdtab_Free.f k y146 0).bind fun bt149 => ((fdtab_Free.f k y146 10).bind fun bt151 => ((fdtab_Free.f k y146 32).bind fun bt153 => ((fdtab_Exec.f k (([(⟨0, 0, false⟩ : S36), (⟨3, 5, true⟩ : S36), (⟨4, 5, true⟩ : S36)] : List (S36)))).bind fun bt158 => ((fdtab_Add.f k ([] : List (S24)) 5 0 0 0 1 (⟨#[]⟩ : ByteArray)).bind fun bt164 => ((fdtab_Release.f k bt164.1 0).bind fun bt169 => (if bt149.1 = 3 then (if bt149.2 = true then (if bt151.1 = 10 then (if bt151.2 = true then (if bt153.2 = true then (none) else (if (bt158.1.length : Int) = 1 then (if (bt158.2.length : Int) = 2 then (if 0 < (bt158.2.length : Int) then (if (rd bt158.2 0) = 5 then (if 1 < (bt158.2.length : Int) then (if (rd bt158.2 1) = 5 then (if bt164.2.2 = 0 then (if bt164.2.1 = 0 then (if (bt164.1.length : Int) = 1 then (if bt169.2.2 = 0 then (if bt169.2.1 = true then (if (bt169.1.length : Int) = 1 then (if 0 < (bt169.1.length : Int) then (if (((rd_T24 bt169.1 0).f0) == 0 && (((rd_T24 bt169.1 0).f1) == 0 && (((rd_T24 bt169.1 0).f2) == 0 && (((rd_T24 bt169.1 0).f3) == 0 && (((rd_T24 bt169.1 0).f4) == 0 && ((((rd_T24 bt169.1 0).f5).toList) == ([] : List UInt8))))))) = true then ((fdtab_Valid.f k y146).bind fun t177 => (some (t177 == 0))) else (none)) else (none)) else (none)) else (none)) else (none)) else (none)) else (none)) else (none)) else (none)) else (none)) else (none)) else (none)) else (none)) else (none))) else (none)) else (none)) else (none)) else (none))))))))
theorem jobshelllaw23_awake.mono : ∀ k, LeO (jobshelllaw23_awake.f k ) (jobshelllaw23_awake.f (k + 1) ) := by
  intro  k
  unfold jobshelllaw23_awake.f
  repeat' first
      | (with_reducible exact fdtab_Add.mono _ _ _ _ _ _ _ _)
      | (with_reducible exact fdtab_Exec.mono _ _)
      | (with_reducible exact fdtab_Free.mono _ _ _)
      | (with_reducible exact fdtab_Release.mono _ _ _)
      | (with_reducible exact fdtab_Valid.mono _ _)
      | (with_reducible exact LeO.refl _)
      | (with_reducible exact LeO.none _)
      | (with_reducible refine LeO.ite ?_ ?_)
      | (with_reducible refine LeO.bind ?_ (fun _ => ?_))
      | exact fdtab_Add.mono _ _ _ _ _ _ _ _
      | exact fdtab_Exec.mono _ _
      | exact fdtab_Free.mono _ _ _
      | exact fdtab_Release.mono _ _ _
      | exact fdtab_Valid.mono _ _
      | exact LeO.none _
      | refine LeO.ite ?_ ?_
      | refine LeO.bind ?_ (fun _ => ?_)
set_option maxHeartbeats 8000000 in
set_option maxRecDepth 10000000 in
theorem jobshelllaw23_awake.calls (k : Nat)  (r : Bool) (w : World) (h : jobshelllaw23_awake.f k  = some r) :
    Calls Try.prog 10 #[] w fun e w' => e = .returned (.bool r) ∧ Below w.heap.size w w' := by
  have hu36 := Try.underlying36
  have hu24 := Try.underlying24
  have HB := Aside0.mk (Below.refl w.heap.size w)
  have H : ((some (([(⟨0, 0, false⟩ : S36), (⟨1, 1, false⟩ : S36), (⟨2, 1, false⟩ : S36)] : List (S36)) : List (S36))).bind fun y146 => ((fdtab_Free.f k y146 0).bind fun bt149 => ((fdtab_Free.f k y146 10).bind fun bt151 => ((fdtab_Free.f k y146 32).bind fun bt153 => ((fdtab_Exec.f k (([(⟨0, 0, false⟩ : S36), (⟨3, 5, true⟩ : S36), (⟨4, 5, true⟩ : S36)] : List (S36)))).bind fun bt158 => ((fdtab_Add.f k ([] : List (S24)) 5 0 0 0 1 (⟨#[]⟩ : ByteArray)).bind fun bt164 => ((fdtab_Release.f k bt164.1 0).bind fun bt169 => (if bt149.1 = 3 then (if bt149.2 = true then (if bt151.1 = 10 then (if bt151.2 = true then (if bt153.2 = true then (none) else (if (bt158.1.length : Int) = 1 then (if (bt158.2.length : Int) = 2 then (if 0 < (bt158.2.length : Int) then (if (rd bt158.2 0) = 5 then (if 1 < (bt158.2.length : Int) then (if (rd bt158.2 1) = 5 then (if bt164.2.2 = 0 then (if bt164.2.1 = 0 then (if (bt164.1.length : Int) = 1 then (if bt169.2.2 = 0 then (if bt169.2.1 = true then (if (bt169.1.length : Int) = 1 then (if 0 < (bt169.1.length : Int) then (if (((rd_T24 bt169.1 0).f0) == 0 && (((rd_T24 bt169.1 0).f1) == 0 && (((rd_T24 bt169.1 0).f2) == 0 && (((rd_T24 bt169.1 0).f3) == 0 && (((rd_T24 bt169.1 0).f4) == 0 && ((((rd_T24 bt169.1 0).f5).toList) == ([] : List UInt8))))))) = true then ((fdtab_Valid.f k y146).bind fun t177 => (some (t177 == 0))) else (none)) else (none)) else (none)) else (none)) else (none)) else (none)) else (none)) else (none)) else (none)) else (none)) else (none)) else (none)) else (none)) else (none))) else (none)) else (none)) else (none)) else (none))))))))) = some r := h
  clear h
  obtain ⟨y146, hy146⟩ : ∃ y_ : List (S36), y_ = (([(⟨0, 0, false⟩ : S36), (⟨1, 1, false⟩ : S36), (⟨2, 1, false⟩ : S36)] : List (S36))) := ⟨_, rfl⟩
  replace H : ((fdtab_Free.f k y146 0).bind fun bt149 => ((fdtab_Free.f k y146 10).bind fun bt151 => ((fdtab_Free.f k y146 32).bind fun bt153 => ((fdtab_Exec.f k (([(⟨0, 0, false⟩ : S36), (⟨3, 5, true⟩ : S36), (⟨4, 5, true⟩ : S36)] : List (S36)))).bind fun bt158 => ((fdtab_Add.f k ([] : List (S24)) 5 0 0 0 1 (⟨#[]⟩ : ByteArray)).bind fun bt164 => ((fdtab_Release.f k bt164.1 0).bind fun bt169 => (if bt149.1 = 3 then (if bt149.2 = true then (if bt151.1 = 10 then (if bt151.2 = true then (if bt153.2 = true then (none) else (if (bt158.1.length : Int) = 1 then (if (bt158.2.length : Int) = 2 then (if 0 < (bt158.2.length : Int) then (if (rd bt158.2 0) = 5 then (if 1 < (bt158.2.length : Int) then (if (rd bt158.2 1) = 5 then (if bt164.2.2 = 0 then (if bt164.2.1 = 0 then (if (bt164.1.length : Int) = 1 then (if bt169.2.2 = 0 then (if bt169.2.1 = true then (if (bt169.1.length : Int) = 1 then (if 0 < (bt169.1.length : Int) then (if (((rd_T24 bt169.1 0).f0) == 0 && (((rd_T24 bt169.1 0).f1) == 0 && (((rd_T24 bt169.1 0).f2) == 0 && (((rd_T24 bt169.1 0).f3) == 0 && (((rd_T24 bt169.1 0).f4) == 0 && ((((rd_T24 bt169.1 0).f5).toList) == ([] : List UInt8))))))) = true then ((fdtab_Valid.f k y146).bind fun t177 => (some (t177 == 0))) else (none)) else (none)) else (none)) else (none)) else (none)) else (none)) else (none)) else (none)) else (none)) else (none)) else (none)) else (none)) else (none)) else (none))) else (none)) else (none)) else (none)) else (none)))))))) = some r := by first | (rw [hy146]; with_reducible exact H) | (have H2_ := (Option.bind_some _ _).symm.trans H; rw [hy146]; with_reducible exact H2_) | (have H2_ := (Option.bind_some _ _).symm.trans H; with_reducible exact H2_) | with_reducible exact H | (rw [hy146]; exact H) | exact H
  have Ny146 := Aside0.mk hy146
  clear hy146
  replace H := Option.bind_eq_some_iff.mp H
  obtain ⟨⟨t149, t150⟩, A10, H⟩ := H
  replace H : ((fdtab_Free.f k y146 10).bind fun bt151 => ((fdtab_Free.f k y146 32).bind fun bt153 => ((fdtab_Exec.f k (([(⟨0, 0, false⟩ : S36), (⟨3, 5, true⟩ : S36), (⟨4, 5, true⟩ : S36)] : List (S36)))).bind fun bt158 => ((fdtab_Add.f k ([] : List (S24)) 5 0 0 0 1 (⟨#[]⟩ : ByteArray)).bind fun bt164 => ((fdtab_Release.f k bt164.1 0).bind fun bt169 => (if t149 = 3 then (if t150 = true then (if bt151.1 = 10 then (if bt151.2 = true then (if bt153.2 = true then (none) else (if (bt158.1.length : Int) = 1 then (if (bt158.2.length : Int) = 2 then (if 0 < (bt158.2.length : Int) then (if (rd bt158.2 0) = 5 then (if 1 < (bt158.2.length : Int) then (if (rd bt158.2 1) = 5 then (if bt164.2.2 = 0 then (if bt164.2.1 = 0 then (if (bt164.1.length : Int) = 1 then (if bt169.2.2 = 0 then (if bt169.2.1 = true then (if (bt169.1.length : Int) = 1 then (if 0 < (bt169.1.length : Int) then (if (((rd_T24 bt169.1 0).f0) == 0 && (((rd_T24 bt169.1 0).f1) == 0 && (((rd_T24 bt169.1 0).f2) == 0 && (((rd_T24 bt169.1 0).f3) == 0 && (((rd_T24 bt169.1 0).f4) == 0 && ((((rd_T24 bt169.1 0).f5).toList) == ([] : List UInt8))))))) = true then ((fdtab_Valid.f k y146).bind fun t177 => (some (t177 == 0))) else (none)) else (none)) else (none)) else (none)) else (none)) else (none)) else (none)) else (none)) else (none)) else (none)) else (none)) else (none)) else (none)) else (none))) else (none)) else (none)) else (none)) else (none))))))) = some r := H
  have A1 := Aside0.mk A10
  clear A10
  replace H := Option.bind_eq_some_iff.mp H
  obtain ⟨⟨t151, t152⟩, A20, H⟩ := H
  replace H : ((fdtab_Free.f k y146 32).bind fun bt153 => ((fdtab_Exec.f k (([(⟨0, 0, false⟩ : S36), (⟨3, 5, true⟩ : S36), (⟨4, 5, true⟩ : S36)] : List (S36)))).bind fun bt158 => ((fdtab_Add.f k ([] : List (S24)) 5 0 0 0 1 (⟨#[]⟩ : ByteArray)).bind fun bt164 => ((fdtab_Release.f k bt164.1 0).bind fun bt169 => (if t149 = 3 then (if t150 = true then (if t151 = 10 then (if t152 = true then (if bt153.2 = true then (none) else (if (bt158.1.length : Int) = 1 then (if (bt158.2.length : Int) = 2 then (if 0 < (bt158.2.length : Int) then (if (rd bt158.2 0) = 5 then (if 1 < (bt158.2.length : Int) then (if (rd bt158.2 1) = 5 then (if bt164.2.2 = 0 then (if bt164.2.1 = 0 then (if (bt164.1.length : Int) = 1 then (if bt169.2.2 = 0 then (if bt169.2.1 = true then (if (bt169.1.length : Int) = 1 then (if 0 < (bt169.1.length : Int) then (if (((rd_T24 bt169.1 0).f0) == 0 && (((rd_T24 bt169.1 0).f1) == 0 && (((rd_T24 bt169.1 0).f2) == 0 && (((rd_T24 bt169.1 0).f3) == 0 && (((rd_T24 bt169.1 0).f4) == 0 && ((((rd_T24 bt169.1 0).f5).toList) == ([] : List UInt8))))))) = true then ((fdtab_Valid.f k y146).bind fun t177 => (some (t177 == 0))) else (none)) else (none)) else (none)) else (none)) else (none)) else (none)) else (none)) else (none)) else (none)) else (none)) else (none)) else (none)) else (none)) else (none))) else (none)) else (none)) else (none)) else (none)))))) = some r := H
  have A2 := Aside0.mk A20
  clear A20
  replace H := Option.bind_eq_some_iff.mp H
  obtain ⟨⟨t153, t154⟩, A30, H⟩ := H
  replace H : ((fdtab_Exec.f k (([(⟨0, 0, false⟩ : S36), (⟨3, 5, true⟩ : S36), (⟨4, 5, true⟩ : S36)] : List (S36)))).bind fun bt158 => ((fdtab_Add.f k ([] : List (S24)) 5 0 0 0 1 (⟨#[]⟩ : ByteArray)).bind fun bt164 => ((fdtab_Release.f k bt164.1 0).bind fun bt169 => (if t149 = 3 then (if t150 = true then (if t151 = 10 then (if t152 = true then (if t154 = true then (none) else (if (bt158.1.length : Int) = 1 then (if (bt158.2.length : Int) = 2 then (if 0 < (bt158.2.length : Int) then (if (rd bt158.2 0) = 5 then (if 1 < (bt158.2.length : Int) then (if (rd bt158.2 1) = 5 then (if bt164.2.2 = 0 then (if bt164.2.1 = 0 then (if (bt164.1.length : Int) = 1 then (if bt169.2.2 = 0 then (if bt169.2.1 = true then (if (bt169.1.length : Int) = 1 then (if 0 < (bt169.1.length : Int) then (if (((rd_T24 bt169.1 0).f0) == 0 && (((rd_T24 bt169.1 0).f1) == 0 && (((rd_T24 bt169.1 0).f2) == 0 && (((rd_T24 bt169.1 0).f3) == 0 && (((rd_T24 bt169.1 0).f4) == 0 && ((((rd_T24 bt169.1 0).f5).toList) == ([] : List UInt8))))))) = true then ((fdtab_Valid.f k y146).bind fun t177 => (some (t177 == 0))) else (none)) else (none)) else (none)) else (none)) else (none)) else (none)) else (none)) else (none)) else (none)) else (none)) else (none)) else (none)) else (none)) else (none))) else (none)) else (none)) else (none)) else (none))))) = some r := H
  have A3 := Aside0.mk A30
  clear A30
  obtain ⟨y155, hy155⟩ : ∃ y_ : List (S36), y_ = (([(⟨0, 0, false⟩ : S36), (⟨3, 5, true⟩ : S36), (⟨4, 5, true⟩ : S36)] : List (S36))) := ⟨_, rfl⟩
  replace H : ((fdtab_Exec.f k y155).bind fun bt158 => ((fdtab_Add.f k ([] : List (S24)) 5 0 0 0 1 (⟨#[]⟩ : ByteArray)).bind fun bt164 => ((fdtab_Release.f k bt164.1 0).bind fun bt169 => (if t149 = 3 then (if t150 = true then (if t151 = 10 then (if t152 = true then (if t154 = true then (none) else (if (bt158.1.length : Int) = 1 then (if (bt158.2.length : Int) = 2 then (if 0 < (bt158.2.length : Int) then (if (rd bt158.2 0) = 5 then (if 1 < (bt158.2.length : Int) then (if (rd bt158.2 1) = 5 then (if bt164.2.2 = 0 then (if bt164.2.1 = 0 then (if (bt164.1.length : Int) = 1 then (if bt169.2.2 = 0 then (if bt169.2.1 = true then (if (bt169.1.length : Int) = 1 then (if 0 < (bt169.1.length : Int) then (if (((rd_T24 bt169.1 0).f0) == 0 && (((rd_T24 bt169.1 0).f1) == 0 && (((rd_T24 bt169.1 0).f2) == 0 && (((rd_T24 bt169.1 0).f3) == 0 && (((rd_T24 bt169.1 0).f4) == 0 && ((((rd_T24 bt169.1 0).f5).toList) == ([] : List UInt8))))))) = true then ((fdtab_Valid.f k y146).bind fun t177 => (some (t177 == 0))) else (none)) else (none)) else (none)) else (none)) else (none)) else (none)) else (none)) else (none)) else (none)) else (none)) else (none)) else (none)) else (none)) else (none))) else (none)) else (none)) else (none)) else (none))))) = some r := by first | (rw [hy155]; with_reducible exact H) | (have H2_ := (Option.bind_some _ _).symm.trans H; rw [hy155]; with_reducible exact H2_) | (have H2_ := (Option.bind_some _ _).symm.trans H; with_reducible exact H2_) | with_reducible exact H | (rw [hy155]; exact H) | exact H
  have Ny155 := Aside0.mk hy155
  clear hy155
  replace H := Option.bind_eq_some_iff.mp H
  obtain ⟨⟨t158, t159⟩, A40, H⟩ := H
  replace H : ((fdtab_Add.f k ([] : List (S24)) 5 0 0 0 1 (⟨#[]⟩ : ByteArray)).bind fun bt164 => ((fdtab_Release.f k bt164.1 0).bind fun bt169 => (if t149 = 3 then (if t150 = true then (if t151 = 10 then (if t152 = true then (if t154 = true then (none) else (if (t158.length : Int) = 1 then (if (t159.length : Int) = 2 then (if 0 < (t159.length : Int) then (if (rd t159 0) = 5 then (if 1 < (t159.length : Int) then (if (rd t159 1) = 5 then (if bt164.2.2 = 0 then (if bt164.2.1 = 0 then (if (bt164.1.length : Int) = 1 then (if bt169.2.2 = 0 then (if bt169.2.1 = true then (if (bt169.1.length : Int) = 1 then (if 0 < (bt169.1.length : Int) then (if (((rd_T24 bt169.1 0).f0) == 0 && (((rd_T24 bt169.1 0).f1) == 0 && (((rd_T24 bt169.1 0).f2) == 0 && (((rd_T24 bt169.1 0).f3) == 0 && (((rd_T24 bt169.1 0).f4) == 0 && ((((rd_T24 bt169.1 0).f5).toList) == ([] : List UInt8))))))) = true then ((fdtab_Valid.f k y146).bind fun t177 => (some (t177 == 0))) else (none)) else (none)) else (none)) else (none)) else (none)) else (none)) else (none)) else (none)) else (none)) else (none)) else (none)) else (none)) else (none)) else (none))) else (none)) else (none)) else (none)) else (none)))) = some r := H
  have A4 := Aside0.mk A40
  clear A40
  replace H := Option.bind_eq_some_iff.mp H
  obtain ⟨⟨t164, t167, t168⟩, A50, H⟩ := H
  replace H : ((fdtab_Release.f k t164 0).bind fun bt169 => (if t149 = 3 then (if t150 = true then (if t151 = 10 then (if t152 = true then (if t154 = true then (none) else (if (t158.length : Int) = 1 then (if (t159.length : Int) = 2 then (if 0 < (t159.length : Int) then (if (rd t159 0) = 5 then (if 1 < (t159.length : Int) then (if (rd t159 1) = 5 then (if t168 = 0 then (if t167 = 0 then (if (t164.length : Int) = 1 then (if bt169.2.2 = 0 then (if bt169.2.1 = true then (if (bt169.1.length : Int) = 1 then (if 0 < (bt169.1.length : Int) then (if (((rd_T24 bt169.1 0).f0) == 0 && (((rd_T24 bt169.1 0).f1) == 0 && (((rd_T24 bt169.1 0).f2) == 0 && (((rd_T24 bt169.1 0).f3) == 0 && (((rd_T24 bt169.1 0).f4) == 0 && ((((rd_T24 bt169.1 0).f5).toList) == ([] : List UInt8))))))) = true then ((fdtab_Valid.f k y146).bind fun t177 => (some (t177 == 0))) else (none)) else (none)) else (none)) else (none)) else (none)) else (none)) else (none)) else (none)) else (none)) else (none)) else (none)) else (none)) else (none)) else (none))) else (none)) else (none)) else (none)) else (none))) = some r := H
  have A5 := Aside0.mk A50
  clear A50
  replace H := Option.bind_eq_some_iff.mp H
  obtain ⟨⟨t169, t172, t173⟩, A60, H⟩ := H
  replace H : (if t149 = 3 then (if t150 = true then (if t151 = 10 then (if t152 = true then (if t154 = true then (none) else (if (t158.length : Int) = 1 then (if (t159.length : Int) = 2 then (if 0 < (t159.length : Int) then (if (rd t159 0) = 5 then (if 1 < (t159.length : Int) then (if (rd t159 1) = 5 then (if t168 = 0 then (if t167 = 0 then (if (t164.length : Int) = 1 then (if t173 = 0 then (if t172 = true then (if (t169.length : Int) = 1 then (if 0 < (t169.length : Int) then (if (((rd_T24 t169 0).f0) == 0 && (((rd_T24 t169 0).f1) == 0 && (((rd_T24 t169 0).f2) == 0 && (((rd_T24 t169 0).f3) == 0 && (((rd_T24 t169 0).f4) == 0 && ((((rd_T24 t169 0).f5).toList) == ([] : List UInt8))))))) = true then ((fdtab_Valid.f k y146).bind fun t177 => (some (t177 == 0))) else (none)) else (none)) else (none)) else (none)) else (none)) else (none)) else (none)) else (none)) else (none)) else (none)) else (none)) else (none)) else (none)) else (none))) else (none)) else (none)) else (none)) else (none)) = some r := H
  have A6 := Aside0.mk A60
  clear A60
  by_cases c7 : t149 = 3
  · rw [if_pos c7] at H
    have c7b0 : (t149 == 3) = true := beq_iff_eq.mpr c7
    have c7b1 : (t149 != 3) = false := bne_eq_false_iff_eq.mpr c7
    clear c7
    by_cases c8 : t150 = true
    · subst c8
      have H1 : (if t151 = 10 then (if t152 = true then (if t154 = true then (none) else (if (t158.length : Int) = 1 then (if (t159.length : Int) = 2 then (if 0 < (t159.length : Int) then (if (rd t159 0) = 5 then (if 1 < (t159.length : Int) then (if (rd t159 1) = 5 then (if t168 = 0 then (if t167 = 0 then (if (t164.length : Int) = 1 then (if t173 = 0 then (if t172 = true then (if (t169.length : Int) = 1 then (if 0 < (t169.length : Int) then (if (((rd_T24 t169 0).f0) == 0 && (((rd_T24 t169 0).f1) == 0 && (((rd_T24 t169 0).f2) == 0 && (((rd_T24 t169 0).f3) == 0 && (((rd_T24 t169 0).f4) == 0 && ((((rd_T24 t169 0).f5).toList) == ([] : List UInt8))))))) = true then ((fdtab_Valid.f k y146).bind fun t177 => (some (t177 == 0))) else (none)) else (none)) else (none)) else (none)) else (none)) else (none)) else (none)) else (none)) else (none)) else (none)) else (none)) else (none)) else (none)) else (none))) else (none)) else (none)) = some r := by rw [if_pos rfl] at H; exact H
      clear H
      have H := H1
      clear H1
      by_cases c9 : t151 = 10
      · rw [if_pos c9] at H
        have c9b0 : (t151 == 10) = true := beq_iff_eq.mpr c9
        have c9b1 : (t151 != 10) = false := bne_eq_false_iff_eq.mpr c9
        clear c9
        by_cases c10 : t152 = true
        · subst c10
          have H1 : (if t154 = true then (none) else (if (t158.length : Int) = 1 then (if (t159.length : Int) = 2 then (if 0 < (t159.length : Int) then (if (rd t159 0) = 5 then (if 1 < (t159.length : Int) then (if (rd t159 1) = 5 then (if t168 = 0 then (if t167 = 0 then (if (t164.length : Int) = 1 then (if t173 = 0 then (if t172 = true then (if (t169.length : Int) = 1 then (if 0 < (t169.length : Int) then (if (((rd_T24 t169 0).f0) == 0 && (((rd_T24 t169 0).f1) == 0 && (((rd_T24 t169 0).f2) == 0 && (((rd_T24 t169 0).f3) == 0 && (((rd_T24 t169 0).f4) == 0 && ((((rd_T24 t169 0).f5).toList) == ([] : List UInt8))))))) = true then ((fdtab_Valid.f k y146).bind fun t177 => (some (t177 == 0))) else (none)) else (none)) else (none)) else (none)) else (none)) else (none)) else (none)) else (none)) else (none)) else (none)) else (none)) else (none)) else (none)) else (none))) = some r := by rw [if_pos rfl] at H; exact H
          clear H
          have H := H1
          clear H1
          by_cases c11 : t154 = true
          · subst c11
            have H1 : (none) = some r := by rw [if_pos rfl] at H; exact H
            clear H
            have H := H1
            clear H1
            exact absurd H (by simp)
          · replace c11 := Bool.eq_false_iff.mpr c11
            subst c11
            have H1 : (if (t158.length : Int) = 1 then (if (t159.length : Int) = 2 then (if 0 < (t159.length : Int) then (if (rd t159 0) = 5 then (if 1 < (t159.length : Int) then (if (rd t159 1) = 5 then (if t168 = 0 then (if t167 = 0 then (if (t164.length : Int) = 1 then (if t173 = 0 then (if t172 = true then (if (t169.length : Int) = 1 then (if 0 < (t169.length : Int) then (if (((rd_T24 t169 0).f0) == 0 && (((rd_T24 t169 0).f1) == 0 && (((rd_T24 t169 0).f2) == 0 && (((rd_T24 t169 0).f3) == 0 && (((rd_T24 t169 0).f4) == 0 && ((((rd_T24 t169 0).f5).toList) == ([] : List UInt8))))))) = true then ((fdtab_Valid.f k y146).bind fun t177 => (some (t177 == 0))) else (none)) else (none)) else (none)) else (none)) else (none)) else (none)) else (none)) else (none)) else (none)) else (none)) else (none)) else (none)) else (none)) else (none)) = some r := by rw [if_neg (show ¬ (false = true) by decide)] at H; exact H
            clear H
            have H := H1
            clear H1
            by_cases c12 : (t158.length : Int) = 1
            · rw [if_pos c12] at H
              have c12b0 : ((t158.length : Int) == 1) = true := beq_iff_eq.mpr c12
              have c12b1 : ((t158.length : Int) != 1) = false := bne_eq_false_iff_eq.mpr c12
              clear c12
              by_cases c13 : (t159.length : Int) = 2
              · rw [if_pos c13] at H
                have c13b0 : ((t159.length : Int) == 2) = true := beq_iff_eq.mpr c13
                have c13b1 : ((t159.length : Int) != 2) = false := bne_eq_false_iff_eq.mpr c13
                clear c13
                by_cases c14 : 0 < (t159.length : Int)
                · rw [if_pos c14] at H
                  have c14b0 : decide (0 < (t159.length : Int)) = true := decide_eq_true c14
                  have c14b1 : decide (0 < t159.length) = true := decide_eq_true (by omega)
                  clear c14
                  by_cases c15 : (rd t159 0) = 5
                  · rw [if_pos c15] at H
                    have c15b0 : ((rd t159 0) == 5) = true := beq_iff_eq.mpr c15
                    have c15b1 : ((rd t159 0) != 5) = false := bne_eq_false_iff_eq.mpr c15
                    clear c15
                    by_cases c16 : 1 < (t159.length : Int)
                    · rw [if_pos c16] at H
                      have c16b0 : decide (1 < (t159.length : Int)) = true := decide_eq_true c16
                      have c16b1 : decide (1 < t159.length) = true := decide_eq_true (by omega)
                      clear c16
                      by_cases c17 : (rd t159 1) = 5
                      · rw [if_pos c17] at H
                        have c17b0 : ((rd t159 1) == 5) = true := beq_iff_eq.mpr c17
                        have c17b1 : ((rd t159 1) != 5) = false := bne_eq_false_iff_eq.mpr c17
                        clear c17
                        by_cases c18 : t168 = 0
                        · rw [if_pos c18] at H
                          have c18b0 : (t168 == 0) = true := beq_iff_eq.mpr c18
                          have c18b1 : (t168 != 0) = false := bne_eq_false_iff_eq.mpr c18
                          clear c18
                          by_cases c19 : t167 = 0
                          · rw [if_pos c19] at H
                            have c19b0 : (t167 == 0) = true := beq_iff_eq.mpr c19
                            have c19b1 : (t167 != 0) = false := bne_eq_false_iff_eq.mpr c19
                            clear c19
                            by_cases c20 : (t164.length : Int) = 1
                            · rw [if_pos c20] at H
                              have c20b0 : ((t164.length : Int) == 1) = true := beq_iff_eq.mpr c20
                              have c20b1 : ((t164.length : Int) != 1) = false := bne_eq_false_iff_eq.mpr c20
                              clear c20
                              by_cases c21 : t173 = 0
                              · rw [if_pos c21] at H
                                have c21b0 : (t173 == 0) = true := beq_iff_eq.mpr c21
                                have c21b1 : (t173 != 0) = false := bne_eq_false_iff_eq.mpr c21
                                clear c21
                                by_cases c22 : t172 = true
                                · subst c22
                                  have H1 : (if (t169.length : Int) = 1 then (if 0 < (t169.length : Int) then (if (((rd_T24 t169 0).f0) == 0 && (((rd_T24 t169 0).f1) == 0 && (((rd_T24 t169 0).f2) == 0 && (((rd_T24 t169 0).f3) == 0 && (((rd_T24 t169 0).f4) == 0 && ((((rd_T24 t169 0).f5).toList) == ([] : List UInt8))))))) = true then ((fdtab_Valid.f k y146).bind fun t177 => (some (t177 == 0))) else (none)) else (none)) else (none)) = some r := by rw [if_pos rfl] at H; exact H
                                  clear H
                                  have H := H1
                                  clear H1
                                  by_cases c23 : (t169.length : Int) = 1
                                  · rw [if_pos c23] at H
                                    have c23b0 : ((t169.length : Int) == 1) = true := beq_iff_eq.mpr c23
                                    have c23b1 : ((t169.length : Int) != 1) = false := bne_eq_false_iff_eq.mpr c23
                                    clear c23
                                    by_cases c24 : 0 < (t169.length : Int)
                                    · rw [if_pos c24] at H
                                      have c24b0 : decide (0 < (t169.length : Int)) = true := decide_eq_true c24
                                      have c24b1 : decide (0 < t169.length) = true := decide_eq_true (by omega)
                                      clear c24
                                      by_cases c25 : (((rd_T24 t169 0).f0) == 0 && (((rd_T24 t169 0).f1) == 0 && (((rd_T24 t169 0).f2) == 0 && (((rd_T24 t169 0).f3) == 0 && (((rd_T24 t169 0).f4) == 0 && ((((rd_T24 t169 0).f5).toList) == ([] : List UInt8))))))) = true
                                      · rw [if_pos c25] at H
                                        have c25b0 : (((rd_T24 t169 0).f0) == 0 && (((rd_T24 t169 0).f1) == 0 && (((rd_T24 t169 0).f2) == 0 && (((rd_T24 t169 0).f3) == 0 && (((rd_T24 t169 0).f4) == 0 && ((((rd_T24 t169 0).f5).toList) == ([] : List UInt8))))))) = true := c25
                                        (try (have c25bQ := c25b0; simp only [Bool.and_eq_true, beq_iff_eq] at c25bQ; have c25bP := eq_true c25bQ; clear c25bQ))
                                        (try (have c25b1 : decide (((rd_T24 t169 0).f0) = 0 && (((rd_T24 t169 0).f1) == 0 && (((rd_T24 t169 0).f2) == 0 && (((rd_T24 t169 0).f3) == 0 && (((rd_T24 t169 0).f4) == 0 && ((((rd_T24 t169 0).f5).toList) == ([] : List UInt8))))))) = true := by simpa using c25))
                                        (try (have c25b2 : (((rd_T24 t169 0).f0) == 0 && (((rd_T24 t169 0).f1) == 0 && (((rd_T24 t169 0).f2) == 0 && (((rd_T24 t169 0).f3) == 0 && (((rd_T24 t169 0).f4) == 0 && ((((rd_T24 t169 0).f5).toList) == ([] : List UInt8))))))) = true := by simpa using c25))
                                        clear c25
                                        replace H := Option.bind_eq_some_iff.mp H
                                        obtain ⟨t177, A260, H⟩ := H
                                        replace H : (some (t177 == 0)) = some r := H
                                        have A26 := Aside0.mk A260
                                        clear A260
                                        obtain rfl := Option.some.inj H
                                        go_enter Try.func10, Try.ntmps10
                                        go_wp2_with (first | ((with_reducible refine gate_dst (N := 19) rfl ?_); (try (refine gate_guard (by rfl) ?_; dsimp only)); refine Kd.R_lit k36 _ 36 ?hg (N := 19) ?hd (xs := ([(⟨0, 0, false⟩ : S36), (⟨1, 1, false⟩ : S36), (⟨2, 1, false⟩ : S36)] : List (S36))) (inner := [.int .i64 0, .int .i64 0, .bool false, .int .i64 1, .int .i64 1, .bool false, .int .i64 2, .int .i64 1, .bool false]) (ok := fun _ => True) (okp := fun _ => True) ?hr ?hp (fun _ hk => hk) trivial (Below.refl _ _) (Nat.le_refl _) (by simp) ?_; (case hd => rfl); (case hg => rfl); (case hr => first | (go_simp; done) | (go_simp; rfl)); (case hp => exact (Reps.c3 (show Kd.M k36 _ _ _ (⟨0, 0, false⟩ : S36) [.int .i64 0, .int .i64 0, .bool false] from (k36_mkM _ _ _ (⟨0, 0, false⟩ : S36) )) (Reps.c3 (show Kd.M k36 _ _ _ (⟨1, 1, false⟩ : S36) [.int .i64 1, .int .i64 1, .bool false] from (k36_mkM _ _ _ (⟨1, 1, false⟩ : S36) )) (Reps.c3 (show Kd.M k36 _ _ _ (⟨2, 1, false⟩ : S36) [.int .i64 2, .int .i64 1, .bool false] from (k36_mkM _ _ _ (⟨2, 1, false⟩ : S36) )) (Reps.none _ _))))); intro v147 w27 ho28 hb hg_ hnew_; clear hg_ hnew_; (first | rw [← Ny146.out] at ho28 | (simp only [Int.reduceToNat] at ho28; rw [← Ny146.out] at ho28)); have n0_ := Aside0.mk (Kd.R_lower ho28 (below_size (by repeat (first | (with_reducible first | exact HB.out | apply below_alloc | apply pw_below_drewN | apply below_drew1) | exact HB.out)))); have n1_ := Aside0.mk (below_step (by repeat (first | (with_reducible first | exact HB.out | apply below_alloc | apply pw_below_drewN | apply below_drew1) | exact HB.out)) hb); clear HB; have HO148 := n0_; have HB := n1_; clear n0_ n1_; clear hb ho28; obtain ⟨Ao29, co29, eo29⟩ := Kd.R_slice HO148.out; subst eo29) | ((with_reducible refine gate_callee (f := 16) rfl ?_); refine goesL_ (some 22) rfl rfl Try.func16 (by kernel_rfl) rfl #[.slice Ao29 y146.length co29, .int .i64 0] rfl (by (try simp only [List.map_toArray, List.map_cons, List.map_nil]); first | done | rfl | (simp only [List.length_drop, List.length_take]; rfl)) ?_; (with_reducible refine (fdtab_Free.calls k _ _ y146 0 t149 true _ ?side1 ?side2 A1.out).mono ?_); (case side1 => repeat (first | exact (Kd.R_reads' HO148.out).2.2 | (with_reducible refine Kd.C_alloc ?_ _) | (with_reducible refine Kd.C_drewN ?_ _) | (with_reducible refine Kd.C_drew ?_))); (case side2 => exact (Kd.R_reads' HO148.out).2.1); rintro e w30 ⟨rfl, hb⟩; refine ⟨_, rfl, ?_⟩; have n0_ := Aside0.mk (Kd.R_below (by (with_reducible repeat (first | apply Kd.R_alloc | apply Kd.R_drewN | apply Kd.R_drew)); exact HO148.out) hb); have n1_ := Aside0.mk (below_step (by repeat (first | (with_reducible first | exact HB.out | apply below_alloc | apply pw_below_drewN | apply below_drew1) | exact HB.out)) hb); clear HO148; clear HB; have HO148 := n0_; have HB := n1_; clear n0_ n1_; (try clear hb); (try clear hb2); (try clear hk); (try clear hi)) | ((with_reducible refine gate_callee (f := 16) rfl ?_); refine goesL_ (some 27) rfl rfl Try.func16 (by kernel_rfl) rfl #[.slice Ao29 y146.length co29, .int .i64 10] rfl (by (try simp only [List.map_toArray, List.map_cons, List.map_nil]); first | done | rfl | (simp only [List.length_drop, List.length_take]; rfl)) ?_; (with_reducible refine (fdtab_Free.calls k _ _ y146 10 t151 true _ ?side1 ?side2 A2.out).mono ?_); (case side1 => repeat (first | exact (Kd.R_reads' HO148.out).2.2 | (with_reducible refine Kd.C_alloc ?_ _) | (with_reducible refine Kd.C_drewN ?_ _) | (with_reducible refine Kd.C_drew ?_))); (case side2 => exact (Kd.R_reads' HO148.out).2.1); rintro e w31 ⟨rfl, hb⟩; refine ⟨_, rfl, ?_⟩; have n0_ := Aside0.mk (Kd.R_below (by (with_reducible repeat (first | apply Kd.R_alloc | apply Kd.R_drewN | apply Kd.R_drew)); exact HO148.out) hb); have n1_ := Aside0.mk (below_step (by repeat (first | (with_reducible first | exact HB.out | apply below_alloc | apply pw_below_drewN | apply below_drew1) | exact HB.out)) hb); clear HO148; clear HB; have HO148 := n0_; have HB := n1_; clear n0_ n1_; (try clear hb); (try clear hb2); (try clear hk); (try clear hi)) | ((with_reducible refine gate_callee (f := 16) rfl ?_); refine goesL_ (some 32) rfl rfl Try.func16 (by kernel_rfl) rfl #[.slice Ao29 y146.length co29, .int .i64 32] rfl (by (try simp only [List.map_toArray, List.map_cons, List.map_nil]); first | done | rfl | (simp only [List.length_drop, List.length_take]; rfl)) ?_; (with_reducible refine (fdtab_Free.calls k _ _ y146 32 t153 false _ ?side1 ?side2 A3.out).mono ?_); (case side1 => repeat (first | exact (Kd.R_reads' HO148.out).2.2 | (with_reducible refine Kd.C_alloc ?_ _) | (with_reducible refine Kd.C_drewN ?_ _) | (with_reducible refine Kd.C_drew ?_))); (case side2 => exact (Kd.R_reads' HO148.out).2.1); rintro e w32 ⟨rfl, hb⟩; refine ⟨_, rfl, ?_⟩; have n0_ := Aside0.mk (Kd.R_below (by (with_reducible repeat (first | apply Kd.R_alloc | apply Kd.R_drewN | apply Kd.R_drew)); exact HO148.out) hb); have n1_ := Aside0.mk (below_step (by repeat (first | (with_reducible first | exact HB.out | apply below_alloc | apply pw_below_drewN | apply below_drew1) | exact HB.out)) hb); clear HO148; clear HB; have HO148 := n0_; have HB := n1_; clear n0_ n1_; (try clear hb); (try clear hb2); (try clear hk); (try clear hi)) | ((with_reducible refine gate_dst (N := 39) rfl ?_); (try (refine gate_guard (by rfl) ?_; dsimp only)); refine Kd.R_lit k36 _ 36 ?hg (N := 39) ?hd (xs := ([(⟨0, 0, false⟩ : S36), (⟨3, 5, true⟩ : S36), (⟨4, 5, true⟩ : S36)] : List (S36))) (inner := [.int .i64 0, .int .i64 0, .bool false, .int .i64 3, .int .i64 5, .bool true, .int .i64 4, .int .i64 5, .bool true]) (ok := fun _ => True) (okp := fun _ => True) ?hr ?hp (fun _ hk => hk) trivial (Below.refl _ _) (Nat.le_refl _) (by simp) ?_; (case hd => rfl); (case hg => rfl); (case hr => first | (go_simp; done) | (go_simp; rfl)); (case hp => exact (Reps.c3 (show Kd.M k36 _ _ _ (⟨0, 0, false⟩ : S36) [.int .i64 0, .int .i64 0, .bool false] from (k36_mkM _ _ _ (⟨0, 0, false⟩ : S36) )) (Reps.c3 (show Kd.M k36 _ _ _ (⟨3, 5, true⟩ : S36) [.int .i64 3, .int .i64 5, .bool true] from (k36_mkM _ _ _ (⟨3, 5, true⟩ : S36) )) (Reps.c3 (show Kd.M k36 _ _ _ (⟨4, 5, true⟩ : S36) [.int .i64 4, .int .i64 5, .bool true] from (k36_mkM _ _ _ (⟨4, 5, true⟩ : S36) )) (Reps.none _ _))))); intro v156 w33 ho34 hb hg_ hnew_; clear hg_ hnew_; (first | rw [← Ny155.out] at ho34 | (simp only [Int.reduceToNat] at ho34; rw [← Ny155.out] at ho34)); have n0_ := Aside0.mk (Kd.R_elder' (by (with_reducible repeat (first | apply Kd.R_alloc | apply Kd.R_drewN | apply Kd.R_drew)); exact HO148.out) (Kd.R_base ho34) hb); have n1_ := Aside0.mk (Kd.R_lower (Kd.R_new' ho34 (Kd.R_lt (by (with_reducible repeat (first | apply Kd.R_alloc | apply Kd.R_drewN | apply Kd.R_drew)); exact HO148.out))) (below_size (by repeat (first | (with_reducible first | exact HB.out | apply below_alloc | apply pw_below_drewN | apply below_drew1) | exact HB.out)))); have n2_ := Aside0.mk (below_step (by repeat (first | (with_reducible first | exact HB.out | apply below_alloc | apply pw_below_drewN | apply below_drew1) | exact HB.out)) hb); clear HO148; clear HB; have HO148 := n0_; have HO157 := n1_; have HB := n2_; clear n0_ n1_ n2_; clear hb ho34; obtain ⟨Ao35, co35, eo35⟩ := Kd.R_slice HO157.out; subst eo35) | ((with_reducible refine gate_callee (f := 28) rfl ?_); refine goesL_ (some 40) rfl rfl Try.func28 (by kernel_rfl) rfl #[.slice Ao35 y155.length co35] rfl (by (try simp only [List.map_toArray, List.map_cons, List.map_nil]); first | done | rfl | (simp only [List.length_drop, List.length_take]; rfl)) ?_; (with_reducible refine (fdtab_Exec.calls k _ _ y155 t158 t159 _ ?side1 ?side2 A4.out).mono ?_); (case side1 => repeat (first | exact (Kd.R_reads' HO157.out).2.2 | (with_reducible refine Kd.C_alloc ?_ _) | (with_reducible refine Kd.C_drewN ?_ _) | (with_reducible refine Kd.C_drew ?_))); (case side2 => exact (Kd.R_reads' HO157.out).2.1); rintro e w36 ⟨v160, v162, rfl, ho0, ho1, hb⟩; refine ⟨_, rfl, ?_⟩; have n0_ := Aside0.mk (Kd.R_elder' (by (with_reducible repeat (first | apply Kd.R_alloc | apply Kd.R_drewN | apply Kd.R_drew)); exact HO148.out) (Kd.R_base ho0) hb); have n1_ := Aside0.mk (Kd.R_elder' (by (with_reducible repeat (first | apply Kd.R_alloc | apply Kd.R_drewN | apply Kd.R_drew)); exact HO157.out) (Kd.R_base ho0) hb); have n2_ := Aside0.mk (Kd.R_lower (Kd.R_new' (Kd.R_new' ho0 (Kd.R_lt (by (with_reducible repeat (first | apply Kd.R_alloc | apply Kd.R_drewN | apply Kd.R_drew)); exact HO148.out))) (Kd.R_lt (by (with_reducible repeat (first | apply Kd.R_alloc | apply Kd.R_drewN | apply Kd.R_drew)); exact HO157.out))) (below_size (by repeat (first | (with_reducible first | exact HB.out | apply below_alloc | apply pw_below_drewN | apply below_drew1) | exact HB.out)))); have n3_ := Aside0.mk (Kd.R_lower ho1 (below_size (by repeat (first | (with_reducible first | exact HB.out | apply below_alloc | apply pw_below_drewN | apply below_drew1) | exact HB.out)))); have n4_ := Aside0.mk (below_step (by repeat (first | (with_reducible first | exact HB.out | apply below_alloc | apply pw_below_drewN | apply below_drew1) | exact HB.out)) hb); clear HO148; clear HO157; clear HB; have HO148 := n0_; have HO157 := n1_; have HO161 := n2_; have HO163 := n3_; have HB := n4_; clear n0_ n1_ n2_ n3_ n4_; (try clear hb); (try clear hb2); (try clear hk); (try clear hi); (try clear ho0); (try clear ho1)) | ((with_reducible refine gate_callee (f := 11) rfl ?_); refine goesL_ (some 45) rfl rfl Try.func11 (by kernel_rfl) rfl #[.slice none 0 0, .agg #[.int .i64 5, .int .i64 0, .int .i64 0, .int .i64 0, .int .i64 1, .string (⟨#[]⟩ : ByteArray)]] rfl (by (try simp only [List.map_toArray, List.map_cons, List.map_nil]); first | done | rfl | (simp only [List.length_drop, List.length_take]; rfl)) ?_; (refine (fdtab_Add.calls k (fun k_ => False) _ _ ([] : List (S24)) 5 0 0 0 1 (⟨#[]⟩ : ByteArray) t164 t167 t168 _ ?side1 A5.out).mono ?_); (case side1 => exact Kd.V_nil _ _ _ _ _); rintro e w37 ⟨v165, rfl, ho0, hb⟩; refine ⟨_, rfl, ?_⟩; have n0_ := Aside0.mk (Kd.R_below (by (with_reducible repeat (first | apply Kd.R_alloc | apply Kd.R_drewN | apply Kd.R_drew)); exact HO148.out) hb); have n1_ := Aside0.mk (Kd.R_below (by (with_reducible repeat (first | apply Kd.R_alloc | apply Kd.R_drewN | apply Kd.R_drew)); exact HO157.out) hb); have n2_ := Aside0.mk (Kd.R_below (by (with_reducible repeat (first | apply Kd.R_alloc | apply Kd.R_drewN | apply Kd.R_drew)); exact HO161.out) hb); have n3_ := Aside0.mk (Kd.R_below (by (with_reducible repeat (first | apply Kd.R_alloc | apply Kd.R_drewN | apply Kd.R_drew)); exact HO163.out) hb); have n4_ := Aside0.mk (Kd.V_lower (Kd.V_mono (ok' := fun k_ => some k_ ≠ (.slice Ao29 y146.length co29 : Value).ownBlock ∧ some k_ ≠ (.slice Ao35 y155.length co35 : Value).ownBlock ∧ some k_ ≠ (v160 : Value).ownBlock ∧ some k_ ≠ (v162 : Value).ownBlock) ho0 (fun k_ hk_ => ⟨Or.elim hk_ (fun hs_ => (hs_).elim) (fun hn_ => (Kd.fresh' (Kd.R_lt (by (with_reducible repeat (first | apply Kd.R_alloc | apply Kd.R_drewN | apply Kd.R_drew)); exact HO148.out)) k_ hn_)), Or.elim hk_ (fun hs_ => (hs_).elim) (fun hn_ => (Kd.fresh' (Kd.R_lt (by (with_reducible repeat (first | apply Kd.R_alloc | apply Kd.R_drewN | apply Kd.R_drew)); exact HO157.out)) k_ hn_)), Or.elim hk_ (fun hs_ => (hs_).elim) (fun hn_ => (Kd.fresh' (Kd.R_lt (by (with_reducible repeat (first | apply Kd.R_alloc | apply Kd.R_drewN | apply Kd.R_drew)); exact HO161.out)) k_ hn_)), Or.elim hk_ (fun hs_ => (hs_).elim) (fun hn_ => (Kd.fresh' (Kd.R_lt (by (with_reducible repeat (first | apply Kd.R_alloc | apply Kd.R_drewN | apply Kd.R_drew)); exact HO163.out)) k_ hn_))⟩)) (below_size (by repeat (first | (with_reducible first | exact HB.out | apply below_alloc | apply pw_below_drewN | apply below_drew1) | exact HB.out)))); have n5_ := Aside0.mk (below_step (by repeat (first | (with_reducible first | exact HB.out | apply below_alloc | apply pw_below_drewN | apply below_drew1) | exact HB.out)) hb); clear HO148; clear HO157; clear HO161; clear HO163; clear HB; have HO148 := n0_; have HO157 := n1_; have HO161 := n2_; have HO163 := n3_; have HO166 := n4_; have HB := n5_; clear n0_ n1_ n2_ n3_ n4_ n5_; (try clear hb); (try clear hb2); (try clear hk); (try clear hi); (try clear ho0); obtain ⟨Ao38, co38, eo38⟩ := Kd.V_slice HO166.out; subst eo38) | ((with_reducible refine gate_callee (f := 22) rfl ?_); refine goesL_ (some 51) rfl rfl Try.func22 (by kernel_rfl) rfl #[.slice Ao38 t164.length co38, .int .i64 0] rfl (by (try simp only [List.map_toArray, List.map_cons, List.map_nil]); first | done | rfl | (simp only [List.length_drop, List.length_take]; rfl)) ?_; (with_reducible refine (fdtab_Release.calls k (fun k_ => (some k_ ≠ (.slice Ao29 y146.length co29 : Value).ownBlock ∧ (some k_ ≠ (.slice Ao35 y155.length co35 : Value).ownBlock ∧ (some k_ ≠ (v160 : Value).ownBlock ∧ some k_ ≠ (v162 : Value).ownBlock)))) _ _ t164 0 t169 true t173 _ ?side1 A6.out).mono ?_); (case side1 => exact HO166.out); rintro e w39 ⟨v170, rfl, ho0, hb⟩; refine ⟨_, rfl, ?_⟩; have n0_ := Aside0.mk (Kd.R_below (by (with_reducible repeat (first | apply Kd.R_alloc | apply Kd.R_drewN | apply Kd.R_drew)); exact HO148.out) hb); have n1_ := Aside0.mk (Kd.R_below (by (with_reducible repeat (first | apply Kd.R_alloc | apply Kd.R_drewN | apply Kd.R_drew)); exact HO157.out) hb); have n2_ := Aside0.mk (Kd.R_below (by (with_reducible repeat (first | apply Kd.R_alloc | apply Kd.R_drewN | apply Kd.R_drew)); exact HO161.out) hb); have n3_ := Aside0.mk (Kd.R_below (by (with_reducible repeat (first | apply Kd.R_alloc | apply Kd.R_drewN | apply Kd.R_drew)); exact HO163.out) hb); have n4_ := Aside0.mk (Kd.V_below (by (with_reducible repeat (first | apply Kd.V_alloc | apply Kd.V_drewN | apply Kd.V_drew)); exact HO166.out) hb); have n5_ := Aside0.mk (Kd.V_lower (Kd.V_mono (ok' := fun k_ => some k_ ≠ (.slice Ao29 y146.length co29 : Value).ownBlock ∧ some k_ ≠ (.slice Ao35 y155.length co35 : Value).ownBlock ∧ some k_ ≠ (v160 : Value).ownBlock ∧ some k_ ≠ (v162 : Value).ownBlock) ho0 (fun k_ hk_ => ⟨Or.elim hk_ (fun hs_ => hs_.1) (fun hn_ => (Kd.fresh' (Kd.R_lt (by (with_reducible repeat (first | apply Kd.R_alloc | apply Kd.R_drewN | apply Kd.R_drew)); exact HO148.out)) k_ hn_)), Or.elim hk_ (fun hs_ => hs_.2.1) (fun hn_ => (Kd.fresh' (Kd.R_lt (by (with_reducible repeat (first | apply Kd.R_alloc | apply Kd.R_drewN | apply Kd.R_drew)); exact HO157.out)) k_ hn_)), Or.elim hk_ (fun hs_ => hs_.2.2.1) (fun hn_ => (Kd.fresh' (Kd.R_lt (by (with_reducible repeat (first | apply Kd.R_alloc | apply Kd.R_drewN | apply Kd.R_drew)); exact HO161.out)) k_ hn_)), Or.elim hk_ (fun hs_ => hs_.2.2.2) (fun hn_ => (Kd.fresh' (Kd.R_lt (by (with_reducible repeat (first | apply Kd.R_alloc | apply Kd.R_drewN | apply Kd.R_drew)); exact HO163.out)) k_ hn_))⟩)) (below_size (by repeat (first | (with_reducible first | exact HB.out | apply below_alloc | apply pw_below_drewN | apply below_drew1) | exact HB.out)))); have n6_ := Aside0.mk (below_step (by repeat (first | (with_reducible first | exact HB.out | apply below_alloc | apply pw_below_drewN | apply below_drew1) | exact HB.out)) hb); clear HO148; clear HO157; clear HO161; clear HO163; clear HO166; clear HB; have HO148 := n0_; have HO157 := n1_; have HO161 := n2_; have HO163 := n3_; have HO166 := n4_; have HO171 := n5_; have HB := n6_; clear n0_ n1_ n2_ n3_ n4_ n5_ n6_; (try clear hb); (try clear hb2); (try clear hk); (try clear hi); (try clear ho0); obtain ⟨Ao40, co40, eo40⟩ := Kd.R_slice HO161.out; subst eo40; obtain ⟨Ao41, co41, eo41⟩ := Kd.R_slice HO163.out; subst eo41; have p174 : 0 ≤ (0 : Int) := (by omega); have q174 : 0 < (t159.length : Int) := of_decide_eq_true (by first | (with_reducible assumption) | assumption); obtain ⟨ad174, e174, hx174_0⟩ := Kd.at_int (Kd.R_reads' HO163.out).2.2 0 p174 q174; cases e174; have qi174 : (0 < t159.length) = True := eq_true (by omega); (try rw [show ((0 : Int)).toNat = 0 from rfl] at hx174_0); (try rw [Addr.add_zero'] at hx174_0); replace p174 := eq_true p174; replace q174 := eq_true q174; have p175 : 0 ≤ (1 : Int) := (by omega); have q175 : 1 < (t159.length : Int) := of_decide_eq_true (by first | (with_reducible assumption) | assumption); obtain ⟨ad175, e175, hx175_0⟩ := Kd.at_int (Kd.R_reads' HO163.out).2.2 1 p175 q175; obtain rfl : ad174 = ad175 := (by injection e175); (try simp only [show (1 : Int).toNat = 1 from rfl, Nat.reduceMul, Nat.reduceEqDiff, Go.Addr.add, ↓reduceIte] at hx175_0); have qi175 : (1 < t159.length) = True := eq_true (by omega); (try rw [show ((1 : Int)).toNat = 1 from rfl] at hx175_0); replace p175 := eq_true p175; replace q175 := eq_true q175; obtain ⟨Ao42, co42, eo42⟩ := Kd.V_slice HO171.out; subst eo42; have p176 : 0 ≤ (0 : Int) := (by omega); have q176 : 0 < (t169.length : Int) := of_decide_eq_true (by first | (with_reducible assumption) | assumption); obtain ⟨ad176, e176, hx176_0, hx176_1, hx176_2, hx176_3, hx176_4, hx176_5⟩ := at_T24 (Kd.V_reads' HO171.out).2.2 0 p176 q176; cases e176; have qi176 : (0 < t169.length) = True := eq_true (by omega); (try rw [show ((0 : Int)).toNat = 0 from rfl] at hx176_0); (try rw [show 0 * 6 = 0 from rfl] at hx176_0); (try rw [Addr.add_zero'] at hx176_0); (try rw [show ((0 : Int)).toNat = 0 from rfl] at hx176_1); (try rw [show 0 * 6 = 0 from rfl] at hx176_1); (try rw [Addr.add_zero'] at hx176_1); (try rw [show ((0 : Int)).toNat = 0 from rfl] at hx176_2); (try rw [show 0 * 6 = 0 from rfl] at hx176_2); (try rw [Addr.add_zero'] at hx176_2); (try rw [show ((0 : Int)).toNat = 0 from rfl] at hx176_3); (try rw [show 0 * 6 = 0 from rfl] at hx176_3); (try rw [Addr.add_zero'] at hx176_3); (try rw [show ((0 : Int)).toNat = 0 from rfl] at hx176_4); (try rw [show 0 * 6 = 0 from rfl] at hx176_4); (try rw [Addr.add_zero'] at hx176_4); (try rw [show ((0 : Int)).toNat = 0 from rfl] at hx176_5); (try rw [show 0 * 6 = 0 from rfl] at hx176_5); (try rw [Addr.add_zero'] at hx176_5); replace p176 := eq_true p176; replace q176 := eq_true q176) | (go_at_call 18; (with_reducible refine (fdtab_Valid.calls k _ _ y146 t177 _ ?side1 ?side2 A26.out).mono ?_); (case side1 => repeat (first | exact (Kd.R_reads' HO148.out).2.2 | (with_reducible refine Kd.C_alloc ?_ _) | (with_reducible refine Kd.C_drewN ?_ _) | (with_reducible refine Kd.C_drew ?_))); (case side2 => exact (Kd.R_reads' HO148.out).2.1); rintro e w43 ⟨rfl, hb⟩; have n0_ := Aside0.mk (Kd.R_below (by (with_reducible repeat (first | apply Kd.R_alloc | apply Kd.R_drewN | apply Kd.R_drew)); exact HO148.out) hb); have n1_ := Aside0.mk (Kd.R_below (by (with_reducible repeat (first | apply Kd.R_alloc | apply Kd.R_drewN | apply Kd.R_drew)); exact HO157.out) hb); have n2_ := Aside0.mk (Kd.R_below (by (with_reducible repeat (first | apply Kd.R_alloc | apply Kd.R_drewN | apply Kd.R_drew)); exact HO161.out) hb); have n3_ := Aside0.mk (Kd.R_below (by (with_reducible repeat (first | apply Kd.R_alloc | apply Kd.R_drewN | apply Kd.R_drew)); exact HO163.out) hb); have n4_ := Aside0.mk (Kd.V_below (by (with_reducible repeat (first | apply Kd.V_alloc | apply Kd.V_drewN | apply Kd.V_drew)); exact HO166.out) hb); have n5_ := Aside0.mk (Kd.V_below (by (with_reducible repeat (first | apply Kd.V_alloc | apply Kd.V_drewN | apply Kd.V_drew)); exact HO171.out) hb); have n6_ := Aside0.mk (below_step (by repeat (first | (with_reducible first | exact HB.out | apply below_alloc | apply pw_below_drewN | apply below_drew1) | exact HB.out)) hb); clear HO148; clear HO157; clear HO161; clear HO163; clear HO166; clear HO171; clear HB; have HO148 := n0_; have HO157 := n1_; have HO161 := n2_; have HO163 := n3_; have HO166 := n4_; have HO171 := n5_; have HB := n6_; clear n0_ n1_ n2_ n3_ n4_ n5_ n6_; (try clear hb); (try clear hb2); (try clear hk); (try clear hi)))
                                        go_ret
                                        exact ⟨by first | rfl | (simp [errW_none, errW_some] <;> rfl) | (simp [*, errW_none, errW_some] <;> rfl), by repeat (first | (with_reducible first | exact HB.out | apply below_alloc | apply pw_below_drewN | apply below_drew1) | exact HB.out)⟩
                                      · rw [if_neg c25] at H
                                        exact absurd H (by simp)
                                    · rw [if_neg c24] at H
                                      exact absurd H (by simp)
                                  · rw [if_neg c23] at H
                                    exact absurd H (by simp)
                                · replace c22 := Bool.eq_false_iff.mpr c22
                                  subst c22
                                  have H1 : (none) = some r := by rw [if_neg (show ¬ (false = true) by decide)] at H; exact H
                                  clear H
                                  have H := H1
                                  clear H1
                                  exact absurd H (by simp)
                              · rw [if_neg c21] at H
                                exact absurd H (by simp)
                            · rw [if_neg c20] at H
                              exact absurd H (by simp)
                          · rw [if_neg c19] at H
                            exact absurd H (by simp)
                        · rw [if_neg c18] at H
                          exact absurd H (by simp)
                      · rw [if_neg c17] at H
                        exact absurd H (by simp)
                    · rw [if_neg c16] at H
                      exact absurd H (by simp)
                  · rw [if_neg c15] at H
                    exact absurd H (by simp)
                · rw [if_neg c14] at H
                  exact absurd H (by simp)
              · rw [if_neg c13] at H
                exact absurd H (by simp)
            · rw [if_neg c12] at H
              exact absurd H (by simp)
        · replace c10 := Bool.eq_false_iff.mpr c10
          subst c10
          have H1 : (none) = some r := by rw [if_neg (show ¬ (false = true) by decide)] at H; exact H
          clear H
          have H := H1
          clear H1
          exact absurd H (by simp)
      · rw [if_neg c9] at H
        exact absurd H (by simp)
    · replace c8 := Bool.eq_false_iff.mpr c8
      subst c8
      have H1 : (none) = some r := by rw [if_neg (show ¬ (false = true) by decide)] at H; exact H
      clear H
      have H := H1
      clear H1
      exact absurd H (by simp)
  · rw [if_neg c7] at H
    exact absurd H (by simp)

/-! ### jobshellref23_changed: function 33 -/
def jobshellref23_changed.l0 : Nat → List (S24) → Int → List (S24) → Int → Int → Int → Int → Int → Int → ByteArray → Option ((List (S24)))
  | 0, _, _, _, _, _, _, _, _, _, _ => none
  | k + 1, x0, x1, x7, x8, x179000, x179001, x179002, x179003, x179004, x179005 => if x8 < (x0.length : Int) then (if x8 = x1 then (if x7.length < 2513169434916 then (jobshellref23_changed.l0 k x0 x1 (x7 ++ [(⟨x179000, x179001, x179002, x179003, x179004, x179005⟩ : S24)]) (wrap64 (x8 + 1)) x179000 x179001 x179002 x179003 x179004 x179005) else (none)) else (if 0 ≤ x8 then (if x7.length < 2513169434916 then (jobshellref23_changed.l0 k x0 x1 (x7 ++ [(⟨(rd_T24 x0 x8).f0, (rd_T24 x0 x8).f1, (rd_T24 x0 x8).f2, (rd_T24 x0 x8).f3, (rd_T24 x0 x8).f4, (rd_T24 x0 x8).f5⟩ : S24)]) (wrap64 (x8 + 1)) x179000 x179001 x179002 x179003 x179004 x179005) else (none)) else (none))) else (some x7)
def jobshellref23_changed.f (k : Nat) (l0 : List (S24)) (a1 : Int) (a2_0 : Int) (a2_1 : Int) (a2_2 : Int) (a2_3 : Int) (a2_4 : Int) (a2_5 : ByteArray) : Option ((List (S24))) := jobshellref23_changed.l0 k l0 a1 ([] : List (S24)) 0 a2_0 a2_1 a2_2 a2_3 a2_4 a2_5
theorem jobshellref23_changed.mono_l : ∀ k, (∀ y0 y1 y2 y3 y4 y5 y6 y7 y8 y9, LeO (jobshellref23_changed.l0 k y0 y1 y2 y3 y4 y5 y6 y7 y8 y9) (jobshellref23_changed.l0 (k + 1) y0 y1 y2 y3 y4 y5 y6 y7 y8 y9))
  | 0 => fun _ _ _ _ _ _ _ _ _ _ r h => by simp [jobshellref23_changed.l0] at h
  | k + 1 => by
    have ih0 := jobshellref23_changed.mono_l k
    · intro y0 y1 y2 y3 y4 y5 y6 y7 y8 y9
      unfold jobshellref23_changed.l0
      repeat' first
      | (with_reducible exact ih0 _ _ _ _ _ _ _ _ _ _)
      | (with_reducible exact LeO.refl _)
      | (with_reducible exact LeO.none _)
      | (with_reducible refine LeO.ite ?_ ?_)
      | (with_reducible refine LeO.bind ?_ (fun _ => ?_))
      | exact ih0 _ _ _ _ _ _ _ _ _ _
      | exact LeO.none _
      | refine LeO.ite ?_ ?_
      | refine LeO.bind ?_ (fun _ => ?_)
theorem jobshellref23_changed.mono : ∀ a0 a1 a2 a3 a4 a5 a6 a7 k, LeO (jobshellref23_changed.f k a0 a1 a2 a3 a4 a5 a6 a7) (jobshellref23_changed.f (k + 1) a0 a1 a2 a3 a4 a5 a6 a7) := by
  intro a0 a1 a2 a3 a4 a5 a6 a7 k
  have ih0 := jobshellref23_changed.mono_l k
  unfold jobshellref23_changed.f
  repeat' first
      | (with_reducible exact ih0 _ _ _ _ _ _ _ _ _ _)
      | (with_reducible exact LeO.refl _)
      | (with_reducible exact LeO.none _)
      | (with_reducible refine LeO.ite ?_ ?_)
      | (with_reducible refine LeO.bind ?_ (fun _ => ?_))
      | exact ih0 _ _ _ _ _ _ _ _ _ _
      | exact LeO.none _
      | refine LeO.ite ?_ ?_
      | refine LeO.bind ?_ (fun _ => ?_)
set_option maxHeartbeats 8000000 in
set_option maxRecDepth 10000000 in
theorem jobshellref23_changed.calls (k : Nat) (A0 : Option Addr) (c0 : Nat) (l0 : List (S24)) (a1 : Int) (a2_0 : Int) (a2_1 : Int) (a2_2 : Int) (a2_3 : Int) (a2_4 : Int) (a2_5 : ByteArray) (r : List (S24)) (w : World) (hr0 : Kd.C k24 w A0 l0.length l0) (hc0 : l0.length ≤ c0) (h : jobshellref23_changed.f k l0 a1 a2_0 a2_1 a2_2 a2_3 a2_4 a2_5 = some r) :
    Calls Try.prog 33 #[.slice A0 l0.length c0, .int .i64 a1, .agg #[.int .i64 a2_0, .int .i64 a2_1, .int .i64 a2_2, .int .i64 a2_3, .int .i64 a2_4, .string a2_5]] w fun e w' => ∃ v0_ : Value, e = .returned (v0_) ∧ Kd.R k24 24 w' w.heap.size (fun _ => True) v0_ r ∧ Below w.heap.size w w' := by
  have hu24 := Try.underlying24
  have HR0 := Aside0.mk hr0
  have HC0 := Aside0.mk hc0
  clear hr0 hc0
  have HB := Aside0.mk (Below.refl w.heap.size w)
  have H : (jobshellref23_changed.l0 k l0 a1 ([] : List (S24)) 0 a2_0 a2_1 a2_2 a2_3 a2_4 a2_5) = some r := h
  clear h
  have H' := Aside0.mk H
  clear H
  go_enter Try.func33, Try.ntmps33
  go_wp2_with (first | ((with_reducible refine gate_dst (N := 5) rfl ?_); refine box_event ?hg (N := 5) ?hd (cs := #[.int .i64 a2_0, .int .i64 a2_1, .int .i64 a2_2, .int .i64 a2_3, .int .i64 a2_4, .string a2_5]) (t := 24) ?hr ?_; (case hd => rfl); (case hg => rfl); (case hr => first | (go_simp; done) | (go_simp; rfl)); intro gb178 hg w4 hbox hb; have n0_ := Aside0.mk (below_step (by repeat (first | (with_reducible first | exact HB.out | apply below_alloc | apply pw_below_drewN | apply below_drew1) | exact HB.out)) hb); have n1_ := Aside0.mk (hbox); have n2_ := Aside0.mk ((by rw [hg]; exact (below_size (by repeat (first | (with_reducible first | exact HB.out | apply below_alloc | apply pw_below_drewN | apply below_drew1) | exact HB.out))) : w.heap.size ≤ gb178)); have n3_ := Aside0.mk ((by rw [hg]; exact (below_size (by repeat (first | (with_reducible first | exact HB.out | apply below_alloc | apply pw_below_drewN | apply below_drew1) | exact HB.out))) : w.heap.size ≤ gb178)); clear HB; have HB := n0_; have BK178 := n1_; have GW178 := n2_; have GE178 := n3_; clear n0_ n1_ n2_ n3_; clear hb hbox hg))
  go_loopg [7, 8] k (fun kq v7 v8 w' => ∃ (x7_1 : List (S24)) (x8_1 : Int), v8 = .int .i64 x8_1 ∧ Aside0 (jobshellref23_changed.l0 kq l0 a1 x7_1 x8_1 a2_0 a2_1 a2_2 a2_3 a2_4 a2_5 = some r) ∧ Aside0 (kq ≤ k) ∧ Aside0 (Kd.R k24 24 w' w.heap.size (fun k_ => k_ ≠ gb178) v7 x7_1) ∧ Aside0 (w'.heap[gb178]? = some (.cells #[.int .i64 a2_0, .int .i64 a2_1, .int .i64 a2_2, .int .i64 a2_3, .int .i64 a2_4, .string a2_5] 24 (0, 0))) ∧ Aside0 (Below w.heap.size w w'))
  case atStart => exact ⟨(([] : List (S24))), (0), (by first | rfl | (simp; done) | (simp [*]; done) | (generalize ByteArray.toList _ = l_; cases l_ <;> rfl)), H', ⟨Nat.le_refl _⟩, ⟨by first | exact Kd.R_nil _ _ _ _ _ | exact Kd.N_nil _ _ _ _ _ | exact Kd.V_nil _ _ _ _ _ | exact Kd.Q_nil _ _ _ _ _ | exact Kd.S_nil _ _ _ _ _⟩, ⟨by (with_reducible repeat (first | refine blk_drewN ?_ _ | refine blk_drew ?_ | refine blk_alloc ?_ _)); exact BK178.out⟩, ⟨by repeat (first | (with_reducible first | exact HB.out | apply below_alloc | apply pw_below_drewN | apply below_drew1 | refine below_set ?_ GE178.out) | exact HB.out)⟩⟩
  case round =>
    clear H'
    try clear p2
    try clear c3
    obtain ⟨x7_1, x8_1, rfl, HA, HK1, HO_7, BK178, HB⟩ := hrel
    cases gk with
    | zero => exact absurd HA.out (by simp [jobshellref23_changed.l0])
    | succ k1 =>
      have H := HA.out
      clear HA
      simp only [jobshellref23_changed.l0] at H
      by_cases c5 : x8_1 < (l0.length : Int)
      · rw [if_pos c5] at H
        have c5b0 : decide (x8_1 < (l0.length : Int)) = true := decide_eq_true c5
        clear c5
        by_cases c6 : x8_1 = a1
        · rw [if_pos c6] at H
          have c6b0 : (x8_1 == a1) = true := beq_iff_eq.mpr c6
          have c6b1 : (x8_1 != a1) = false := bne_eq_false_iff_eq.mpr c6
          clear c6
          by_cases c7 : x7_1.length < 2513169434916
          · rw [if_pos c7] at H
            have LMc7 := Aside0.mk c7
            clear c7
            obtain ⟨y179, hy179⟩ : ∃ y_ : List (S24), y_ = (x7_1 ++ [(⟨a2_0, a2_1, a2_2, a2_3, a2_4, a2_5⟩ : S24)]) := ⟨_, rfl⟩
            replace H : (jobshellref23_changed.l0 k1 l0 a1 y179 (wrap64 (x8_1 + 1)) a2_0 a2_1 a2_2 a2_3 a2_4 a2_5) = some r := by first | (rw [hy179]; with_reducible exact H) | (have H2_ := (Option.bind_some _ _).symm.trans H; rw [hy179]; with_reducible exact H2_) | (have H2_ := (Option.bind_some _ _).symm.trans H; with_reducible exact H2_) | with_reducible exact H | (rw [hy179]; exact H) | exact H
            have Ny179 := Aside0.mk hy179
            clear hy179
            have H' := Aside0.mk H
            clear H
            have hcz8_0 : wr.cell? ⟨gb178, 0, none⟩ = some (.int .i64 a2_0) := (blk_cell BK178.out 0).trans rfl
            have hcz8_1 : wr.cell? ⟨gb178, 1, none⟩ = some (.int .i64 a2_1) := (blk_cell BK178.out 1).trans rfl
            have hcz8_2 : wr.cell? ⟨gb178, 2, none⟩ = some (.int .i64 a2_2) := (blk_cell BK178.out 2).trans rfl
            have hcz8_3 : wr.cell? ⟨gb178, 3, none⟩ = some (.int .i64 a2_3) := (blk_cell BK178.out 3).trans rfl
            have hcz8_4 : wr.cell? ⟨gb178, 4, none⟩ = some (.int .i64 a2_4) := (blk_cell BK178.out 4).trans rfl
            have hcz8_5 : wr.cell? ⟨gb178, 5, none⟩ = some (.string a2_5) := (blk_cell BK178.out 5).trans rfl
            have hfz8_0 := blk_frozen BK178.out 0
            have hfz8_1 := blk_frozen BK178.out 1
            have hfz8_2 := blk_frozen BK178.out 2
            have hfz8_3 := blk_frozen BK178.out 3
            have hfz8_4 := blk_frozen BK178.out 4
            have hfz8_5 := blk_frozen BK178.out 5
            go_wp2_with (first | ((with_reducible refine gate_builtin (b := .append) (xs := #[.tmp 18, .tmp 20]) rfl ?_); at_builtin; refine Kd.R_append k24 (w0 := w) w.heap.size rfl (.tmp 18) (.tmp 20) 22 24 (.agg #[(.int .i64 0), (.int .i64 0), (.int .i64 0), (.int .i64 0), (.int .i64 0), (.string ⟨#[]⟩)]) 56 rfl Try.underlying22 info24 rfl (by decide) (by omega) u7 x7_1 (⟨a2_0, a2_1, a2_2, a2_3, a2_4, a2_5⟩ : S24) [.int .i64 a2_0, .int .i64 a2_1, .int .i64 a2_2, .int .i64 a2_3, .int .i64 a2_4, .string a2_5] (fun k_ => k_ ≠ gb178) (fun _ => False) rfl rfl ?aP (fun _ hk => hk.elim) ?aF ?aO ?aB ?aS ?aL ?_; (case aP => exact k24_mkM _ _ _ (⟨a2_0, a2_1, a2_2, a2_3, a2_4, a2_5⟩ : S24)); (case aB => exact (by repeat (first | (with_reducible first | exact HB.out | apply below_alloc | apply pw_below_drewN | apply below_drew1 | refine below_set ?_ GE178.out) | exact HB.out))); (case aF => exact (fun k_ hk => Kd.freshB (g := gb178) (o := .cells #[.int .i64 a2_0, .int .i64 a2_1, .int .i64 a2_2, .int .i64 a2_3, .int .i64 a2_4, .string a2_5] 24 (0, 0)) (by (with_reducible repeat (first | refine blk_drewN ?_ _ | refine blk_drew ?_ | refine blk_alloc ?_ _)); exact BK178.out) k_ hk)); (case aO => exact (by (with_reducible repeat (first | apply Kd.R_alloc | apply Kd.R_drewN | apply Kd.R_drew)); exact HO_7.out)); (case aS => exact (below_size (by repeat (first | (with_reducible first | exact HB.out | apply below_alloc | apply pw_below_drewN | apply below_drew1 | refine below_set ?_ GE178.out) | exact HB.out)))); (case aL => have := LMc7.out; omega); intro v180 w9 ho hb hg hat; rw [← Ny179.out] at ho; have n0_ := Aside0.mk (blk_grown (g := gb178) (o := .cells #[.int .i64 a2_0, .int .i64 a2_1, .int .i64 a2_2, .int .i64 a2_3, .int .i64 a2_4, .string a2_5] 24 (0, 0)) (by (with_reducible repeat (first | refine blk_drewN ?_ _ | refine blk_drew ?_ | refine blk_alloc ?_ _)); exact BK178.out) hg (Kd.R_away HO_7.out (fun _ hk => hk))); have n1_ := Aside0.mk (hb); have n2_ := Aside0.mk (ho); clear BK178; clear HB; clear HO_7; have BK178 := n0_; have HB := n1_; have HO181 := n2_; clear n0_ n1_ n2_; clear ho hb hg hat))
            go_roundg k1
            case measure => have := HK1.out; omega
            case rel => exact ⟨(y179), (wrap64 (x8_1 + 1)), (by first | rfl | (simp; done) | (simp [*]; done) | (generalize ByteArray.toList _ = l_; cases l_ <;> rfl)), H', ⟨by have := HK1.out; omega⟩, ⟨by (with_reducible repeat (first | apply Kd.R_alloc | apply Kd.R_drewN | apply Kd.R_drew)); exact HO181.out⟩, ⟨by (with_reducible repeat (first | refine blk_drewN ?_ _ | refine blk_drew ?_ | refine blk_alloc ?_ _)); exact BK178.out⟩, ⟨by repeat (first | (with_reducible first | exact HB.out | apply below_alloc | apply pw_below_drewN | apply below_drew1 | refine below_set ?_ GE178.out) | exact HB.out)⟩⟩
          · rw [if_neg c7] at H
            exact absurd H (by simp)
        · rw [if_neg c6] at H
          have c6b0 : (x8_1 == a1) = false := beq_eq_false_iff_ne.mpr c6
          have c6b1 : (x8_1 != a1) = true := bne_iff_ne.mpr c6
          by_cases c10 : 0 ≤ x8_1
          · rw [if_pos c10] at H
            have c10b0 : decide (0 ≤ x8_1) = true := decide_eq_true c10
            clear c10
            by_cases c11 : x7_1.length < 2513169434916
            · rw [if_pos c11] at H
              have LMc11 := Aside0.mk c11
              clear c11
              obtain ⟨y183, hy183⟩ : ∃ y_ : List (S24), y_ = (x7_1 ++ [(⟨(rd_T24 l0 x8_1).f0, (rd_T24 l0 x8_1).f1, (rd_T24 l0 x8_1).f2, (rd_T24 l0 x8_1).f3, (rd_T24 l0 x8_1).f4, (rd_T24 l0 x8_1).f5⟩ : S24)]) := ⟨_, rfl⟩
              replace H : (jobshellref23_changed.l0 k1 l0 a1 y183 (wrap64 (x8_1 + 1)) a2_0 a2_1 a2_2 a2_3 a2_4 a2_5) = some r := by first | (rw [hy183]; with_reducible exact H) | (have H2_ := (Option.bind_some _ _).symm.trans H; rw [hy183]; with_reducible exact H2_) | (have H2_ := (Option.bind_some _ _).symm.trans H; with_reducible exact H2_) | with_reducible exact H | (rw [hy183]; exact H) | exact H
              have Ny183 := Aside0.mk hy183
              clear hy183
              have H' := Aside0.mk H
              clear H
              have p182 : 0 ≤ (x8_1 : Int) := of_decide_eq_true (by first | (with_reducible assumption) | assumption)
              have q182 : x8_1 < (l0.length : Int) := of_decide_eq_true (by first | (with_reducible assumption) | assumption)
              obtain ⟨ad182, e182, hx182_0, hx182_1, hx182_2, hx182_3, hx182_4, hx182_5⟩ := at_T24 HR0.out x8_1 p182 q182
              cases e182
              replace hx182_0 := (HB.out.cell (World.block_lt_of_cell? w _ hx182_0)).trans hx182_0
              replace hx182_1 := (HB.out.cell (World.block_lt_of_cell? w _ hx182_1)).trans hx182_1
              replace hx182_2 := (HB.out.cell (World.block_lt_of_cell? w _ hx182_2)).trans hx182_2
              replace hx182_3 := (HB.out.cell (World.block_lt_of_cell? w _ hx182_3)).trans hx182_3
              replace hx182_4 := (HB.out.cell (World.block_lt_of_cell? w _ hx182_4)).trans hx182_4
              replace hx182_5 := (HB.out.cell (World.block_lt_of_cell? w _ hx182_5)).trans hx182_5
              replace p182 := eq_true p182
              replace q182 := eq_true q182
              go_wp2_with (first | ((with_reducible refine gate_builtin (b := .append) (xs := #[.tmp 22, .tmp 27]) rfl ?_); at_builtin; refine Kd.R_append k24 (w0 := w) w.heap.size rfl (.tmp 22) (.tmp 27) 22 24 (.agg #[(.int .i64 0), (.int .i64 0), (.int .i64 0), (.int .i64 0), (.int .i64 0), (.string ⟨#[]⟩)]) 56 rfl Try.underlying22 info24 rfl (by decide) (by omega) u7 x7_1 (⟨(rd_T24 l0 x8_1).f0, (rd_T24 l0 x8_1).f1, (rd_T24 l0 x8_1).f2, (rd_T24 l0 x8_1).f3, (rd_T24 l0 x8_1).f4, (rd_T24 l0 x8_1).f5⟩ : S24) [.int .i64 ((rd_T24 l0 x8_1).f0), .int .i64 ((rd_T24 l0 x8_1).f1), .int .i64 ((rd_T24 l0 x8_1).f2), .int .i64 ((rd_T24 l0 x8_1).f3), .int .i64 ((rd_T24 l0 x8_1).f4), .string ((rd_T24 l0 x8_1).f5)] (fun k_ => k_ ≠ gb178) (fun _ => False) rfl rfl ?aP (fun _ hk => hk.elim) ?aF ?aO ?aB ?aS ?aL ?_; (case aP => exact k24_mkM _ _ _ (⟨(rd_T24 l0 x8_1).f0, (rd_T24 l0 x8_1).f1, (rd_T24 l0 x8_1).f2, (rd_T24 l0 x8_1).f3, (rd_T24 l0 x8_1).f4, (rd_T24 l0 x8_1).f5⟩ : S24)); (case aB => exact (by repeat (first | (with_reducible first | exact HB.out | apply below_alloc | apply pw_below_drewN | apply below_drew1 | refine below_set ?_ GE178.out) | exact HB.out))); (case aF => exact (fun k_ hk => Kd.freshB (g := gb178) (o := .cells #[.int .i64 a2_0, .int .i64 a2_1, .int .i64 a2_2, .int .i64 a2_3, .int .i64 a2_4, .string a2_5] 24 (0, 0)) (by (with_reducible repeat (first | refine blk_drewN ?_ _ | refine blk_drew ?_ | refine blk_alloc ?_ _)); exact BK178.out) k_ hk)); (case aO => exact (by (with_reducible repeat (first | apply Kd.R_alloc | apply Kd.R_drewN | apply Kd.R_drew)); exact HO_7.out)); (case aS => exact (below_size (by repeat (first | (with_reducible first | exact HB.out | apply below_alloc | apply pw_below_drewN | apply below_drew1 | refine below_set ?_ GE178.out) | exact HB.out)))); (case aL => have := LMc11.out; omega); intro v184 w12 ho hb hg hat; rw [← Ny183.out] at ho; have n0_ := Aside0.mk (blk_grown (g := gb178) (o := .cells #[.int .i64 a2_0, .int .i64 a2_1, .int .i64 a2_2, .int .i64 a2_3, .int .i64 a2_4, .string a2_5] 24 (0, 0)) (by (with_reducible repeat (first | refine blk_drewN ?_ _ | refine blk_drew ?_ | refine blk_alloc ?_ _)); exact BK178.out) hg (Kd.R_away HO_7.out (fun _ hk => hk))); have n1_ := Aside0.mk (hb); have n2_ := Aside0.mk (ho); clear BK178; clear HB; clear HO_7; have BK178 := n0_; have HB := n1_; have HO185 := n2_; clear n0_ n1_ n2_; clear ho hb hg hat))
              go_roundg k1
              case measure => have := HK1.out; omega
              case rel => exact ⟨(y183), (wrap64 (x8_1 + 1)), (by first | rfl | (simp; done) | (simp [*]; done) | (generalize ByteArray.toList _ = l_; cases l_ <;> rfl)), H', ⟨by have := HK1.out; omega⟩, ⟨by (with_reducible repeat (first | apply Kd.R_alloc | apply Kd.R_drewN | apply Kd.R_drew)); exact HO185.out⟩, ⟨by (with_reducible repeat (first | refine blk_drewN ?_ _ | refine blk_drew ?_ | refine blk_alloc ?_ _)); exact BK178.out⟩, ⟨by repeat (first | (with_reducible first | exact HB.out | apply below_alloc | apply pw_below_drewN | apply below_drew1 | refine below_set ?_ GE178.out) | exact HB.out)⟩⟩
            · rw [if_neg c11] at H
              exact absurd H (by simp)
          · rw [if_neg c10] at H
            exact absurd H (by simp)
      · rw [if_neg c5] at H
        have c5b0 : decide (x8_1 < (l0.length : Int)) = false := decide_eq_false c5
        clear c5
        obtain rfl := Option.some.inj H
        go_wp2
        go_ret
        exact ⟨_, by first | rfl | (simp [errW_none, errW_some] <;> rfl) | (simp [*, errW_none, errW_some] <;> rfl), by (with_reducible repeat (first | apply Kd.R_alloc | apply Kd.R_drewN | apply Kd.R_drew)); exact Kd.R_mono HO_7.out (fun _ hk => trivial), by repeat (first | (with_reducible first | exact HB.out | apply below_alloc | apply pw_below_drewN | apply below_drew1 | refine below_set ?_ GE178.out) | exact HB.out)⟩

/-! ### jobshellref23_Add: function 12 -/
mutual
def jobshellref23_Add.j0 : Nat → List (S24) → Bool → Int → Int → Int → Int → Int → ByteArray → Option ((List (S24)) × Int × Int)
  | 0, _, _, _, _, _, _, _, _ => none
  | k + 1, x0, x16, x187000, x187001, x187002, x187003, x187004, x187005 => if x16 = true then (some (x0, 0, 1)) else (jobshellref23_Add.l0 k x0 0 x187000 x187001 x187002 x187003 x187004 x187005)
def jobshellref23_Add.l0 : Nat → List (S24) → Int → Int → Int → Int → Int → Int → ByteArray → Option ((List (S24)) × Int × Int)
  | 0, _, _, _, _, _, _, _, _ => none
  | k + 1, x0, x7, x187000, x187001, x187002, x187003, x187004, x187005 => if x7 < (x0.length : Int) then (if 0 ≤ x7 then (if ((rd_T24 x0 x7).f0) = 0 then ((jobshellref23_changed.f k x0 x7 x187000 x187001 x187002 x187003 x187004 x187005).bind fun t188 => (some (t188, x7, 0))) else (jobshellref23_Add.l0 k x0 (wrap64 (x7 + 1)) x187000 x187001 x187002 x187003 x187004 x187005)) else (none)) else (if (x0.length : Int) ≥ 128 then (some (x0, 0, 4)) else ((jobshellref23_changed.f k x0 (-1) x187000 x187001 x187002 x187003 x187004 x187005).bind fun t191 => (if t191.length < 2513169434916 then (some ((t191 ++ [(⟨x187000, x187001, x187002, x187003, x187004, x187005⟩ : S24)]), (x0.length : Int), 0)) else (none))))
end
def jobshellref23_Add.f (k : Nat) (l0 : List (S24)) (a1_0 : Int) (a1_1 : Int) (a1_2 : Int) (a1_3 : Int) (a1_4 : Int) (a1_5 : ByteArray) : Option ((List (S24)) × Int × Int) := if a1_0 < 1 then (jobshellref23_Add.j0 k l0 true a1_0 a1_1 a1_2 a1_3 a1_4 a1_5) else (jobshellref23_Add.j0 k l0 (decide (a1_0 > 7)) a1_0 a1_1 a1_2 a1_3 a1_4 a1_5)
theorem jobshellref23_Add.mono_l : ∀ k, (∀ y0 y1 y2 y3 y4 y5 y6 y7, LeO (jobshellref23_Add.j0 k y0 y1 y2 y3 y4 y5 y6 y7) (jobshellref23_Add.j0 (k + 1) y0 y1 y2 y3 y4 y5 y6 y7)) ∧ (∀ y0 y1 y2 y3 y4 y5 y6 y7, LeO (jobshellref23_Add.l0 k y0 y1 y2 y3 y4 y5 y6 y7) (jobshellref23_Add.l0 (k + 1) y0 y1 y2 y3 y4 y5 y6 y7))
  | 0 => ⟨fun _ _ _ _ _ _ _ _ r h => by simp [jobshellref23_Add.j0] at h, fun _ _ _ _ _ _ _ _ r h => by simp [jobshellref23_Add.l0] at h⟩
  | k + 1 => by
    obtain ⟨ih0, ih1⟩ := jobshellref23_Add.mono_l k
    refine ⟨?_, ?_⟩
    · intro y0 y1 y2 y3 y4 y5 y6 y7
      unfold jobshellref23_Add.j0
      repeat' first
      | (with_reducible exact ih0 _ _ _ _ _ _ _ _)
      | (with_reducible exact ih1 _ _ _ _ _ _ _ _)
      | (with_reducible exact jobshellref23_changed.mono _ _ _ _ _ _ _ _ _)
      | (with_reducible exact LeO.refl _)
      | (with_reducible exact LeO.none _)
      | (with_reducible refine LeO.ite ?_ ?_)
      | (with_reducible refine LeO.bind ?_ (fun _ => ?_))
      | exact ih0 _ _ _ _ _ _ _ _
      | exact ih1 _ _ _ _ _ _ _ _
      | exact jobshellref23_changed.mono _ _ _ _ _ _ _ _ _
      | exact LeO.none _
      | refine LeO.ite ?_ ?_
      | refine LeO.bind ?_ (fun _ => ?_)
    · intro y0 y1 y2 y3 y4 y5 y6 y7
      unfold jobshellref23_Add.l0
      repeat' first
      | (with_reducible exact ih0 _ _ _ _ _ _ _ _)
      | (with_reducible exact ih1 _ _ _ _ _ _ _ _)
      | (with_reducible exact jobshellref23_changed.mono _ _ _ _ _ _ _ _ _)
      | (with_reducible exact LeO.refl _)
      | (with_reducible exact LeO.none _)
      | (with_reducible refine LeO.ite ?_ ?_)
      | (with_reducible refine LeO.bind ?_ (fun _ => ?_))
      | exact ih0 _ _ _ _ _ _ _ _
      | exact ih1 _ _ _ _ _ _ _ _
      | exact jobshellref23_changed.mono _ _ _ _ _ _ _ _ _
      | exact LeO.none _
      | refine LeO.ite ?_ ?_
      | refine LeO.bind ?_ (fun _ => ?_)
theorem jobshellref23_Add.mono : ∀ a0 a1 a2 a3 a4 a5 a6 k, LeO (jobshellref23_Add.f k a0 a1 a2 a3 a4 a5 a6) (jobshellref23_Add.f (k + 1) a0 a1 a2 a3 a4 a5 a6) := by
  intro a0 a1 a2 a3 a4 a5 a6 k
  obtain ⟨ih0, ih1⟩ := jobshellref23_Add.mono_l k
  unfold jobshellref23_Add.f
  repeat' first
      | (with_reducible exact ih0 _ _ _ _ _ _ _ _)
      | (with_reducible exact ih1 _ _ _ _ _ _ _ _)
      | (with_reducible exact jobshellref23_changed.mono _ _ _ _ _ _ _ _ _)
      | (with_reducible exact LeO.refl _)
      | (with_reducible exact LeO.none _)
      | (with_reducible refine LeO.ite ?_ ?_)
      | (with_reducible refine LeO.bind ?_ (fun _ => ?_))
      | exact ih0 _ _ _ _ _ _ _ _
      | exact ih1 _ _ _ _ _ _ _ _
      | exact jobshellref23_changed.mono _ _ _ _ _ _ _ _ _
      | exact LeO.none _
      | refine LeO.ite ?_ ?_
      | refine LeO.bind ?_ (fun _ => ?_)
set_option maxHeartbeats 8000000 in
set_option maxRecDepth 10000000 in
theorem jobshellref23_Add.calls (k : Nat) (P0_ : Nat → Prop) (A0 : Option Addr) (c0 : Nat) (l0 : List (S24)) (a1_0 : Int) (a1_1 : Int) (a1_2 : Int) (a1_3 : Int) (a1_4 : Int) (a1_5 : ByteArray) (r1 : List (S24)) (r2 : Int) (r3 : Int) (w : World) (hs0 : Kd.V k24 24 w w.heap.size (fun k_ => P0_ k_) (.slice A0 l0.length c0) l0) (h : jobshellref23_Add.f k l0 a1_0 a1_1 a1_2 a1_3 a1_4 a1_5 = some (r1, r2, r3)) :
    Calls Try.prog 12 #[.slice A0 l0.length c0, .agg #[.int .i64 a1_0, .int .i64 a1_1, .int .i64 a1_2, .int .i64 a1_3, .int .i64 a1_4, .string a1_5]] w fun e w' => ∃ v0_ : Value, e = .returned (.tuple #[v0_, .int .i64 r2, .int .i64 r3]) ∧ Kd.V k24 24 w' w.heap.size (fun k_ => (P0_ k_ ∨ w.heap.size ≤ k_)) v0_ r1 ∧ Below w.heap.size w w' := by
  have hu24 := Try.underlying24
  have HO0 := Aside0.mk (show Kd.V k24 24 w w.heap.size (fun k_ => (P0_ k_ ∨ w.heap.size ≤ k_)) (.slice A0 l0.length c0) l0 from Kd.V_mono hs0 (fun k_ hk => .inl hk))
  have HB := Aside0.mk (Below.refl w.heap.size w)
  have H : (if a1_0 < 1 then (jobshellref23_Add.j0 k l0 true a1_0 a1_1 a1_2 a1_3 a1_4 a1_5) else (jobshellref23_Add.j0 k l0 (decide (a1_0 > 7)) a1_0 a1_1 a1_2 a1_3 a1_4 a1_5)) = some (r1, r2, r3) := h
  clear h
  have HC3 := Aside0.mk H
  clear H
  go_enter Try.func12, Try.ntmps12
  go_upto_region 1 with (first | ((with_reducible refine gate_dst (N := 3) rfl ?_); refine box_event ?hg (N := 3) ?hd (cs := #[.int .i64 a1_0, .int .i64 a1_1, .int .i64 a1_2, .int .i64 a1_3, .int .i64 a1_4, .string a1_5]) (t := 24) ?hr ?_; (case hd => rfl); (case hg => rfl); (case hr => first | (go_simp; done) | (go_simp; rfl)); intro gb186 hg w4 hbox hb; have n0_ := Aside0.mk (Kd.V_below (Kd.V_elderB (by (with_reducible repeat (first | apply Kd.V_alloc | apply Kd.V_drewN | apply Kd.V_drew)); exact HO0.out) gb186 (Nat.le_of_eq hg.symm)) hb); have n1_ := Aside0.mk (below_step (by repeat (first | (with_reducible first | exact HB.out | apply below_alloc | apply pw_below_drewN | apply below_drew1) | exact HB.out)) hb); have n2_ := Aside0.mk (hbox); have n3_ := Aside0.mk ((by rw [hg]; exact (below_size (by repeat (first | (with_reducible first | exact HB.out | apply below_alloc | apply pw_below_drewN | apply below_drew1) | exact HB.out))) : w.heap.size ≤ gb186)); have n4_ := Aside0.mk ((by rw [hg]; exact (below_size (by repeat (first | (with_reducible first | exact HB.out | apply below_alloc | apply pw_below_drewN | apply below_drew1) | exact HB.out))) : w.heap.size ≤ gb186)); clear HO0; clear HB; have HO0 := n0_; have HB := n1_; have BK186 := n2_; have GW186 := n3_; have GE186 := n4_; clear n0_ n1_ n2_ n3_ n4_; clear hb hbox hg))
  (try simp only [Act.put, List.setIfInBounds_toArray, List.set_cons_zero, List.set_cons_succ])
  go_cut [16] (fun v16 wc => ∃ (kq : Nat) (x16_2 : Bool), v16 = .bool x16_2 ∧ Aside0 (jobshellref23_Add.j0 kq l0 x16_2 a1_0 a1_1 a1_2 a1_3 a1_4 a1_5 = some (r1, r2, r3)) ∧ Aside0 (kq ≤ k) ∧ Aside0 (Kd.V k24 24 wc w.heap.size (fun k_ => (P0_ k_ ∨ w.heap.size ≤ k_) ∧ k_ ≠ gb186) (.slice A0 l0.length c0) l0) ∧ Aside0 (wc.heap[gb186]? = some (.cells #[.int .i64 a1_0, .int .i64 a1_1, .int .i64 a1_2, .int .i64 a1_3, .int .i64 a1_4, .string a1_5] 24 (0, 0))) ∧ Aside0 (Below w.heap.size w wc))
  case first =>
    have H := HC3.out
    clear HC3
    by_cases c5 : a1_0 < 1
    · rw [if_pos c5] at H
      have c5b0 : decide (a1_0 < 1) = true := decide_eq_true c5
      clear c5
      (first | rw [c5b0] | (simp only [i64_w, i32_w]; rw [c5b0]) | skip)
      have H' := Aside0.mk H
      clear H
      have hcz6_0 : w4.cell? ⟨gb186, 0, none⟩ = some (.int .i64 a1_0) := (blk_cell BK186.out 0).trans rfl
      have hcz6_1 : w4.cell? ⟨gb186, 1, none⟩ = some (.int .i64 a1_1) := (blk_cell BK186.out 1).trans rfl
      have hcz6_2 : w4.cell? ⟨gb186, 2, none⟩ = some (.int .i64 a1_2) := (blk_cell BK186.out 2).trans rfl
      have hcz6_3 : w4.cell? ⟨gb186, 3, none⟩ = some (.int .i64 a1_3) := (blk_cell BK186.out 3).trans rfl
      have hcz6_4 : w4.cell? ⟨gb186, 4, none⟩ = some (.int .i64 a1_4) := (blk_cell BK186.out 4).trans rfl
      have hcz6_5 : w4.cell? ⟨gb186, 5, none⟩ = some (.string a1_5) := (blk_cell BK186.out 5).trans rfl
      have hfz6_0 := blk_frozen BK186.out 0
      have hfz6_1 := blk_frozen BK186.out 1
      have hfz6_2 := blk_frozen BK186.out 2
      have hfz6_3 := blk_frozen BK186.out 3
      have hfz6_4 := blk_frozen BK186.out 4
      have hfz6_5 := blk_frozen BK186.out 5
      go_wp2
      go_meet
      case rel => exact ⟨_, (true), (by first | rfl | (simp; done) | (simp [*]; done) | (generalize ByteArray.toList _ = l_; cases l_ <;> rfl)), H', ⟨by first | omega | exact Nat.le_refl _⟩, ⟨by (with_reducible repeat (first | apply Kd.V_alloc | apply Kd.V_drewN | apply Kd.V_drew)); exact HO0.out⟩, ⟨by (with_reducible repeat (first | refine blk_drewN ?_ _ | refine blk_drew ?_ | refine blk_alloc ?_ _)); exact BK186.out⟩, ⟨by repeat (first | (with_reducible first | exact HB.out | apply below_alloc | apply pw_below_drewN | apply below_drew1 | refine below_set ?_ GE186.out) | exact HB.out)⟩⟩
    · rw [if_neg c5] at H
      have c5b0 : decide (a1_0 < 1) = false := decide_eq_false c5
      clear c5
      (first | rw [c5b0] | (simp only [i64_w, i32_w]; rw [c5b0]) | skip)
      have H' := Aside0.mk H
      clear H
      have hcz7_0 : w4.cell? ⟨gb186, 0, none⟩ = some (.int .i64 a1_0) := (blk_cell BK186.out 0).trans rfl
      have hcz7_1 : w4.cell? ⟨gb186, 1, none⟩ = some (.int .i64 a1_1) := (blk_cell BK186.out 1).trans rfl
      have hcz7_2 : w4.cell? ⟨gb186, 2, none⟩ = some (.int .i64 a1_2) := (blk_cell BK186.out 2).trans rfl
      have hcz7_3 : w4.cell? ⟨gb186, 3, none⟩ = some (.int .i64 a1_3) := (blk_cell BK186.out 3).trans rfl
      have hcz7_4 : w4.cell? ⟨gb186, 4, none⟩ = some (.int .i64 a1_4) := (blk_cell BK186.out 4).trans rfl
      have hcz7_5 : w4.cell? ⟨gb186, 5, none⟩ = some (.string a1_5) := (blk_cell BK186.out 5).trans rfl
      have hfz7_0 := blk_frozen BK186.out 0
      have hfz7_1 := blk_frozen BK186.out 1
      have hfz7_2 := blk_frozen BK186.out 2
      have hfz7_3 := blk_frozen BK186.out 3
      have hfz7_4 := blk_frozen BK186.out 4
      have hfz7_5 := blk_frozen BK186.out 5
      go_wp2
      go_meet
      case rel => exact ⟨_, (decide (a1_0 > 7)), (by first | rfl | (simp; done) | (simp [*]; done) | (generalize ByteArray.toList _ = l_; cases l_ <;> rfl)), H', ⟨by first | omega | exact Nat.le_refl _⟩, ⟨by (with_reducible repeat (first | apply Kd.V_alloc | apply Kd.V_drewN | apply Kd.V_drew)); exact HO0.out⟩, ⟨by (with_reducible repeat (first | refine blk_drewN ?_ _ | refine blk_drew ?_ | refine blk_alloc ?_ _)); exact BK186.out⟩, ⟨by repeat (first | (with_reducible first | exact HB.out | apply below_alloc | apply pw_below_drewN | apply below_drew1 | refine below_set ?_ GE186.out) | exact HB.out)⟩⟩
  case rest =>
    clear HC3
    try clear c1
    try clear p2
    try clear c5
    try clear c5b0
    try clear hcz6_0
    try clear hcz6_1
    try clear hcz6_2
    try clear hcz6_3
    try clear hcz6_4
    try clear hcz6_5
    try clear hcz7_0
    try clear hcz7_1
    try clear hcz7_2
    try clear hcz7_3
    try clear hcz7_4
    try clear hcz7_5
    try clear hfz6_0
    try clear hfz6_1
    try clear hfz6_2
    try clear hfz6_3
    try clear hfz6_4
    try clear hfz6_5
    try clear hfz7_0
    try clear hfz7_1
    try clear hfz7_2
    try clear hfz7_3
    try clear hfz7_4
    try clear hfz7_5
    obtain ⟨kq, x16_2, rfl, HA, HJ2, HO_0, BK186, HB⟩ := hcut
    cases kq with
    | zero => exact absurd HA.out (by simp [jobshellref23_Add.j0])
    | succ kj2 =>
      have H := HA.out
      clear HA
      simp only [jobshellref23_Add.j0] at H
      by_cases c8 : x16_2 = true
      · subst c8
        have H1 : (some (l0, 0, 1)) = some (r1, r2, r3) := by rw [if_pos rfl] at H; exact H
        clear H
        have H := H1
        clear H1
        simp only [Option.some.injEq, Prod.mk.injEq] at H
        obtain ⟨rfl, rfl, rfl⟩ := H
        go_wp2
        go_ret3
        exact ⟨_, by first | rfl | (simp [errW_none, errW_some] <;> rfl) | (simp [*, errW_none, errW_some] <;> rfl), by (with_reducible repeat (first | apply Kd.V_alloc | apply Kd.V_drewN | apply Kd.V_drew)); exact Kd.V_mono HO_0.out (fun _ hk => hk.1), by repeat (first | (with_reducible first | exact HB.out | apply below_alloc | apply pw_below_drewN | apply below_drew1 | refine below_set ?_ GE186.out) | exact HB.out)⟩
      · replace c8 := Bool.eq_false_iff.mpr c8
        subst c8
        have H1 : (jobshellref23_Add.l0 kj2 l0 0 a1_0 a1_1 a1_2 a1_3 a1_4 a1_5) = some (r1, r2, r3) := by rw [if_neg (show ¬ (false = true) by decide)] at H; exact H
        clear H
        have H := H1
        clear H1
        have H' := Aside0.mk H
        clear H
        go_wp2
        go_loopg [7] kj2 (fun kq v7 w' => ∃ (x7_2 : Int), v7 = .int .i64 x7_2 ∧ Aside0 (jobshellref23_Add.l0 kq l0 x7_2 a1_0 a1_1 a1_2 a1_3 a1_4 a1_5 = some (r1, r2, r3)) ∧ Aside0 (kq ≤ kj2) ∧ Aside0 (Kd.V k24 24 w' w.heap.size (fun k_ => (P0_ k_ ∨ w.heap.size ≤ k_) ∧ k_ ≠ gb186) (.slice A0 l0.length c0) l0) ∧ Aside0 (w'.heap[gb186]? = some (.cells #[.int .i64 a1_0, .int .i64 a1_1, .int .i64 a1_2, .int .i64 a1_3, .int .i64 a1_4, .string a1_5] 24 (0, 0))) ∧ Aside0 (Below w.heap.size w w'))
        case atStart => exact ⟨(0), (by first | rfl | (simp; done) | (simp [*]; done) | (generalize ByteArray.toList _ = l_; cases l_ <;> rfl)), H', ⟨Nat.le_refl _⟩, ⟨by (with_reducible repeat (first | apply Kd.V_alloc | apply Kd.V_drewN | apply Kd.V_drew)); exact HO_0.out⟩, ⟨by (with_reducible repeat (first | refine blk_drewN ?_ _ | refine blk_drew ?_ | refine blk_alloc ?_ _)); exact BK186.out⟩, ⟨by repeat (first | (with_reducible first | exact HB.out | apply below_alloc | apply pw_below_drewN | apply below_drew1 | refine below_set ?_ GE186.out) | exact HB.out)⟩⟩
        case round =>
          clear H'
          try clear c1
          try clear p2
          try clear c5
          try clear c5b0
          try clear c8
          try clear hcz6_0
          try clear hcz6_1
          try clear hcz6_2
          try clear hcz6_3
          try clear hcz6_4
          try clear hcz6_5
          try clear hcz7_0
          try clear hcz7_1
          try clear hcz7_2
          try clear hcz7_3
          try clear hcz7_4
          try clear hcz7_5
          try clear hfz6_0
          try clear hfz6_1
          try clear hfz6_2
          try clear hfz6_3
          try clear hfz6_4
          try clear hfz6_5
          try clear hfz7_0
          try clear hfz7_1
          try clear hfz7_2
          try clear hfz7_3
          try clear hfz7_4
          try clear hfz7_5
          try clear p2
          obtain ⟨x7_2, rfl, HA, HK2, HO_0, BK186, HB⟩ := hrel
          cases gk with
          | zero => exact absurd HA.out (by simp [jobshellref23_Add.l0])
          | succ k2 =>
            have H := HA.out
            clear HA
            simp only [jobshellref23_Add.l0] at H
            by_cases c9 : x7_2 < (l0.length : Int)
            · rw [if_pos c9] at H
              have c9b0 : decide (x7_2 < (l0.length : Int)) = true := decide_eq_true c9
              clear c9
              by_cases c10 : 0 ≤ x7_2
              · rw [if_pos c10] at H
                have c10b0 : decide (0 ≤ x7_2) = true := decide_eq_true c10
                clear c10
                by_cases c11 : ((rd_T24 l0 x7_2).f0) = 0
                · rw [if_pos c11] at H
                  have c11b0 : (((rd_T24 l0 x7_2).f0) == 0) = true := beq_iff_eq.mpr c11
                  have c11b1 : (((rd_T24 l0 x7_2).f0) != 0) = false := bne_eq_false_iff_eq.mpr c11
                  clear c11
                  replace H := Option.bind_eq_some_iff.mp H
                  obtain ⟨t188, A120, H⟩ := H
                  replace H : (some (t188, x7_2, 0)) = some (r1, r2, r3) := H
                  have A12 := Aside0.mk A120
                  clear A120
                  simp only [Option.some.injEq, Prod.mk.injEq] at H
                  obtain ⟨rfl, rfl, rfl⟩ := H
                  have p187 : 0 ≤ (x7_2 : Int) := of_decide_eq_true (by first | (with_reducible assumption) | assumption)
                  have q187 : x7_2 < (l0.length : Int) := of_decide_eq_true (by first | (with_reducible assumption) | assumption)
                  obtain ⟨ad187, e187, hx187_0, hx187_1, hx187_2, hx187_3, hx187_4, hx187_5⟩ := at_T24 (Kd.V_reads' HO_0.out).2.2 x7_2 p187 q187
                  cases e187
                  replace p187 := eq_true p187
                  replace q187 := eq_true q187
                  have hcz13_0 : wr.cell? ⟨gb186, 0, none⟩ = some (.int .i64 a1_0) := (blk_cell BK186.out 0).trans rfl
                  have hcz13_1 : wr.cell? ⟨gb186, 1, none⟩ = some (.int .i64 a1_1) := (blk_cell BK186.out 1).trans rfl
                  have hcz13_2 : wr.cell? ⟨gb186, 2, none⟩ = some (.int .i64 a1_2) := (blk_cell BK186.out 2).trans rfl
                  have hcz13_3 : wr.cell? ⟨gb186, 3, none⟩ = some (.int .i64 a1_3) := (blk_cell BK186.out 3).trans rfl
                  have hcz13_4 : wr.cell? ⟨gb186, 4, none⟩ = some (.int .i64 a1_4) := (blk_cell BK186.out 4).trans rfl
                  have hcz13_5 : wr.cell? ⟨gb186, 5, none⟩ = some (.string a1_5) := (blk_cell BK186.out 5).trans rfl
                  have hfz13_0 := blk_frozen BK186.out 0
                  have hfz13_1 := blk_frozen BK186.out 1
                  have hfz13_2 := blk_frozen BK186.out 2
                  have hfz13_3 := blk_frozen BK186.out 3
                  have hfz13_4 := blk_frozen BK186.out 4
                  have hfz13_5 := blk_frozen BK186.out 5
                  go_wp2_with (first | ((with_reducible refine gate_callee (f := 33) rfl ?_); refine goesL_ (some 33) rfl rfl Try.func33 (by kernel_rfl) rfl #[.slice (some ad187) l0.length c0, .int .i64 x7_2, .agg #[.int .i64 a1_0, .int .i64 a1_1, .int .i64 a1_2, .int .i64 a1_3, .int .i64 a1_4, .string a1_5]] rfl (by (try simp only [List.map_toArray, List.map_cons, List.map_nil]); first | done | rfl | (simp only [List.length_drop, List.length_take]; rfl)) ?_; (with_reducible refine (jobshellref23_changed.calls k2 _ _ l0 x7_2 a1_0 a1_1 a1_2 a1_3 a1_4 a1_5 t188 _ ?side1 ?side2 A12.out).mono ?_); (case side1 => repeat (first | exact (Kd.V_reads' HO_0.out).2.2 | (with_reducible refine Kd.C_alloc ?_ _) | (with_reducible refine Kd.C_drewN ?_ _) | (with_reducible refine Kd.C_drew ?_))); (case side2 => exact (Kd.V_reads' HO_0.out).2.1); rintro e w14 ⟨v189, rfl, ho0, hb⟩; refine ⟨_, rfl, ?_⟩; have n0_ := Aside0.mk (Kd.V_elder' (by (with_reducible repeat (first | apply Kd.V_alloc | apply Kd.V_drewN | apply Kd.V_drew)); exact HO_0.out) (Kd.R_base ho0) hb); have n1_ := Aside0.mk (Kd.R_lower (Kd.R_newB (Kd.R_newM (M := fun k_ => (w.heap.size ≤ k_)) ho0 (below_size (by repeat (first | (with_reducible first | exact HB.out | apply below_alloc | apply pw_below_drewN | apply below_drew1 | refine below_set ?_ GE186.out) | exact HB.out))) (fun k_ h_ => h_)) (g := gb186) (o := .cells #[.int .i64 a1_0, .int .i64 a1_1, .int .i64 a1_2, .int .i64 a1_3, .int .i64 a1_4, .string a1_5] 24 (0, 0)) (by (with_reducible repeat (first | refine blk_drewN ?_ _ | refine blk_drew ?_ | refine blk_alloc ?_ _)); exact BK186.out)) (below_size (by repeat (first | (with_reducible first | exact HB.out | apply below_alloc | apply pw_below_drewN | apply below_drew1 | refine below_set ?_ GE186.out) | exact HB.out)))); have n2_ := Aside0.mk (blk_below (g := gb186) (o := .cells #[.int .i64 a1_0, .int .i64 a1_1, .int .i64 a1_2, .int .i64 a1_3, .int .i64 a1_4, .string a1_5] 24 (0, 0)) (by (with_reducible repeat (first | refine blk_drewN ?_ _ | refine blk_drew ?_ | refine blk_alloc ?_ _)); exact BK186.out) hb); have n3_ := Aside0.mk (below_step (by repeat (first | (with_reducible first | exact HB.out | apply below_alloc | apply pw_below_drewN | apply below_drew1 | refine below_set ?_ GE186.out) | exact HB.out)) hb); clear HO_0; clear BK186; clear HB; have HO_0 := n0_; have HO190 := n1_; have BK186 := n2_; have HB := n3_; clear n0_ n1_ n2_ n3_; (try clear hb); (try clear hb2); (try clear hk); (try clear hi); (try clear ho0)))
                  go_ret3
                  exact ⟨_, by first | rfl | (simp [errW_none, errW_some] <;> rfl) | (simp [*, errW_none, errW_some] <;> rfl), Kd.V_mono (Kd.R_V (by (with_reducible repeat (first | apply Kd.R_alloc | apply Kd.R_drewN | apply Kd.R_drew)); exact Kd.R_mono HO190.out (fun _ hk => hk.1.1))) (fun k_ hk => by first | exact ⟨(.inr (hk.1)), hk.2⟩ | exact (.inr (hk))), by repeat (first | (with_reducible first | exact HB.out | apply below_alloc | apply pw_below_drewN | apply below_drew1 | refine below_set ?_ GE186.out) | exact HB.out)⟩
                · rw [if_neg c11] at H
                  have c11b0 : (((rd_T24 l0 x7_2).f0) == 0) = false := beq_eq_false_iff_ne.mpr c11
                  have c11b1 : (((rd_T24 l0 x7_2).f0) != 0) = true := bne_iff_ne.mpr c11
                  have H' := Aside0.mk H
                  clear H
                  have p187 : 0 ≤ (x7_2 : Int) := of_decide_eq_true (by first | (with_reducible assumption) | assumption)
                  have q187 : x7_2 < (l0.length : Int) := of_decide_eq_true (by first | (with_reducible assumption) | assumption)
                  obtain ⟨ad187, e187, hx187_0, hx187_1, hx187_2, hx187_3, hx187_4, hx187_5⟩ := at_T24 (Kd.V_reads' HO_0.out).2.2 x7_2 p187 q187
                  cases e187
                  replace p187 := eq_true p187
                  replace q187 := eq_true q187
                  go_wp2
                  go_roundg k2
                  case measure => have := HJ2.out; have := HK2.out; omega
                  case rel => exact ⟨(wrap64 (x7_2 + 1)), (by first | rfl | (simp; done) | (simp [*]; done) | (generalize ByteArray.toList _ = l_; cases l_ <;> rfl)), H', ⟨by have := HJ2.out; have := HK2.out; omega⟩, ⟨by (with_reducible repeat (first | apply Kd.V_alloc | apply Kd.V_drewN | apply Kd.V_drew)); exact HO_0.out⟩, ⟨by (with_reducible repeat (first | refine blk_drewN ?_ _ | refine blk_drew ?_ | refine blk_alloc ?_ _)); exact BK186.out⟩, ⟨by repeat (first | (with_reducible first | exact HB.out | apply below_alloc | apply pw_below_drewN | apply below_drew1 | refine below_set ?_ GE186.out) | exact HB.out)⟩⟩
              · rw [if_neg c10] at H
                exact absurd H (by simp)
            · rw [if_neg c9] at H
              have c9b0 : decide (x7_2 < (l0.length : Int)) = false := decide_eq_false c9
              clear c9
              by_cases c15 : (l0.length : Int) ≥ 128
              · rw [if_pos c15] at H
                have c15b0 : decide (128 ≤ (l0.length : Int)) = true := decide_eq_true c15
                have c15b1 : decide (128 ≤ l0.length) = true := decide_eq_true (by omega)
                clear c15
                simp only [Option.some.injEq, Prod.mk.injEq] at H
                obtain ⟨rfl, rfl, rfl⟩ := H
                go_wp2
                go_ret3
                exact ⟨_, by first | rfl | (simp [errW_none, errW_some] <;> rfl) | (simp [*, errW_none, errW_some] <;> rfl), by (with_reducible repeat (first | apply Kd.V_alloc | apply Kd.V_drewN | apply Kd.V_drew)); exact Kd.V_mono HO_0.out (fun _ hk => hk.1), by repeat (first | (with_reducible first | exact HB.out | apply below_alloc | apply pw_below_drewN | apply below_drew1 | refine below_set ?_ GE186.out) | exact HB.out)⟩
              · rw [if_neg c15] at H
                have c15b0 : decide (128 ≤ (l0.length : Int)) = false := decide_eq_false c15
                have c15b1 : decide (128 ≤ l0.length) = false := decide_eq_false (by omega)
                clear c15
                replace H := Option.bind_eq_some_iff.mp H
                obtain ⟨t191, A160, H⟩ := H
                replace H : (if t191.length < 2513169434916 then (some ((t191 ++ [(⟨a1_0, a1_1, a1_2, a1_3, a1_4, a1_5⟩ : S24)]), (l0.length : Int), 0)) else (none)) = some (r1, r2, r3) := H
                have A16 := Aside0.mk A160
                clear A160
                by_cases c17 : t191.length < 2513169434916
                · rw [if_pos c17] at H
                  have LMc17 := Aside0.mk c17
                  clear c17
                  obtain ⟨y194, hy194⟩ : ∃ y_ : List (S24), y_ = (t191 ++ [(⟨a1_0, a1_1, a1_2, a1_3, a1_4, a1_5⟩ : S24)]) := ⟨_, rfl⟩
                  replace H : (some (y194, (l0.length : Int), 0)) = some (r1, r2, r3) := by first | (rw [hy194]; with_reducible exact H) | (have H2_ := (Option.bind_some _ _).symm.trans H; rw [hy194]; with_reducible exact H2_) | (have H2_ := (Option.bind_some _ _).symm.trans H; with_reducible exact H2_) | with_reducible exact H | (rw [hy194]; exact H) | exact H
                  have Ny194 := Aside0.mk hy194
                  clear hy194
                  simp only [Option.some.injEq, Prod.mk.injEq] at H
                  obtain ⟨rfl, rfl, rfl⟩ := H
                  have hcz18_0 : wr.cell? ⟨gb186, 0, none⟩ = some (.int .i64 a1_0) := (blk_cell BK186.out 0).trans rfl
                  have hcz18_1 : wr.cell? ⟨gb186, 1, none⟩ = some (.int .i64 a1_1) := (blk_cell BK186.out 1).trans rfl
                  have hcz18_2 : wr.cell? ⟨gb186, 2, none⟩ = some (.int .i64 a1_2) := (blk_cell BK186.out 2).trans rfl
                  have hcz18_3 : wr.cell? ⟨gb186, 3, none⟩ = some (.int .i64 a1_3) := (blk_cell BK186.out 3).trans rfl
                  have hcz18_4 : wr.cell? ⟨gb186, 4, none⟩ = some (.int .i64 a1_4) := (blk_cell BK186.out 4).trans rfl
                  have hcz18_5 : wr.cell? ⟨gb186, 5, none⟩ = some (.string a1_5) := (blk_cell BK186.out 5).trans rfl
                  have hfz18_0 := blk_frozen BK186.out 0
                  have hfz18_1 := blk_frozen BK186.out 1
                  have hfz18_2 := blk_frozen BK186.out 2
                  have hfz18_3 := blk_frozen BK186.out 3
                  have hfz18_4 := blk_frozen BK186.out 4
                  have hfz18_5 := blk_frozen BK186.out 5
                  go_wp2_with (first | ((with_reducible refine gate_callee (f := 33) rfl ?_); refine goesL_ (some 41) rfl rfl Try.func33 (by kernel_rfl) rfl #[.slice A0 l0.length c0, .int .i64 (-1), .agg #[.int .i64 a1_0, .int .i64 a1_1, .int .i64 a1_2, .int .i64 a1_3, .int .i64 a1_4, .string a1_5]] rfl (by (try simp only [List.map_toArray, List.map_cons, List.map_nil]); first | done | rfl | (simp only [List.length_drop, List.length_take]; rfl)) ?_; (with_reducible refine (jobshellref23_changed.calls k2 _ _ l0 (-1) a1_0 a1_1 a1_2 a1_3 a1_4 a1_5 t191 _ ?side1 ?side2 A16.out).mono ?_); (case side1 => repeat (first | exact (Kd.V_reads' HO_0.out).2.2 | (with_reducible refine Kd.C_alloc ?_ _) | (with_reducible refine Kd.C_drewN ?_ _) | (with_reducible refine Kd.C_drew ?_))); (case side2 => exact (Kd.V_reads' HO_0.out).2.1); rintro e w19 ⟨v192, rfl, ho0, hb⟩; refine ⟨_, rfl, ?_⟩; have n0_ := Aside0.mk (Kd.V_elder' (by (with_reducible repeat (first | apply Kd.V_alloc | apply Kd.V_drewN | apply Kd.V_drew)); exact HO_0.out) (Kd.R_base ho0) hb); have n1_ := Aside0.mk (Kd.R_lower (Kd.R_newB (Kd.R_newM (M := fun k_ => (w.heap.size ≤ k_)) ho0 (below_size (by repeat (first | (with_reducible first | exact HB.out | apply below_alloc | apply pw_below_drewN | apply below_drew1 | refine below_set ?_ GE186.out) | exact HB.out))) (fun k_ h_ => h_)) (g := gb186) (o := .cells #[.int .i64 a1_0, .int .i64 a1_1, .int .i64 a1_2, .int .i64 a1_3, .int .i64 a1_4, .string a1_5] 24 (0, 0)) (by (with_reducible repeat (first | refine blk_drewN ?_ _ | refine blk_drew ?_ | refine blk_alloc ?_ _)); exact BK186.out)) (below_size (by repeat (first | (with_reducible first | exact HB.out | apply below_alloc | apply pw_below_drewN | apply below_drew1 | refine below_set ?_ GE186.out) | exact HB.out)))); have n2_ := Aside0.mk (blk_below (g := gb186) (o := .cells #[.int .i64 a1_0, .int .i64 a1_1, .int .i64 a1_2, .int .i64 a1_3, .int .i64 a1_4, .string a1_5] 24 (0, 0)) (by (with_reducible repeat (first | refine blk_drewN ?_ _ | refine blk_drew ?_ | refine blk_alloc ?_ _)); exact BK186.out) hb); have n3_ := Aside0.mk (below_step (by repeat (first | (with_reducible first | exact HB.out | apply below_alloc | apply pw_below_drewN | apply below_drew1 | refine below_set ?_ GE186.out) | exact HB.out)) hb); clear HO_0; clear BK186; clear HB; have HO_0 := n0_; have HO193 := n1_; have BK186 := n2_; have HB := n3_; clear n0_ n1_ n2_ n3_; (try clear hb); (try clear hb2); (try clear hk); (try clear hi); (try clear ho0); have hcz20_0 : w19.cell? ⟨gb186, 0, none⟩ = some (.int .i64 a1_0) := (blk_cell BK186.out 0).trans rfl; have hcz20_1 : w19.cell? ⟨gb186, 1, none⟩ = some (.int .i64 a1_1) := (blk_cell BK186.out 1).trans rfl; have hcz20_2 : w19.cell? ⟨gb186, 2, none⟩ = some (.int .i64 a1_2) := (blk_cell BK186.out 2).trans rfl; have hcz20_3 : w19.cell? ⟨gb186, 3, none⟩ = some (.int .i64 a1_3) := (blk_cell BK186.out 3).trans rfl; have hcz20_4 : w19.cell? ⟨gb186, 4, none⟩ = some (.int .i64 a1_4) := (blk_cell BK186.out 4).trans rfl; have hcz20_5 : w19.cell? ⟨gb186, 5, none⟩ = some (.string a1_5) := (blk_cell BK186.out 5).trans rfl; have hfz20_0 := blk_frozen BK186.out 0; have hfz20_1 := blk_frozen BK186.out 1; have hfz20_2 := blk_frozen BK186.out 2; have hfz20_3 := blk_frozen BK186.out 3; have hfz20_4 := blk_frozen BK186.out 4; have hfz20_5 := blk_frozen BK186.out 5) | ((with_reducible refine gate_builtin (b := .append) (xs := #[.tmp 42, .tmp 44]) rfl ?_); at_builtin; refine Kd.R_append k24 (w0 := w) w.heap.size rfl (.tmp 42) (.tmp 44) 22 24 (.agg #[(.int .i64 0), (.int .i64 0), (.int .i64 0), (.int .i64 0), (.int .i64 0), (.string ⟨#[]⟩)]) 56 rfl Try.underlying22 info24 rfl (by decide) (by omega) v192 t191 (⟨a1_0, a1_1, a1_2, a1_3, a1_4, a1_5⟩ : S24) [.int .i64 a1_0, .int .i64 a1_1, .int .i64 a1_2, .int .i64 a1_3, .int .i64 a1_4, .string a1_5] (fun k_ => (w.heap.size ≤ k_) ∧ k_ ≠ gb186) (fun _ => False) rfl rfl ?aP (fun _ hk => hk.elim) ?aF ?aO ?aB ?aS ?aL ?_; (case aP => exact k24_mkM _ _ _ (⟨a1_0, a1_1, a1_2, a1_3, a1_4, a1_5⟩ : S24)); (case aB => exact (by repeat (first | (with_reducible first | exact HB.out | apply below_alloc | apply pw_below_drewN | apply below_drew1 | refine below_set ?_ GE186.out) | exact HB.out))); (case aF => exact (fun k_ hk => ⟨(Nat.le_trans (below_size (by repeat (first | (with_reducible first | exact HB.out | apply below_alloc | apply pw_below_drewN | apply below_drew1 | refine below_set ?_ GE186.out) | exact HB.out))) hk), Kd.freshB (g := gb186) (o := .cells #[.int .i64 a1_0, .int .i64 a1_1, .int .i64 a1_2, .int .i64 a1_3, .int .i64 a1_4, .string a1_5] 24 (0, 0)) (by (with_reducible repeat (first | refine blk_drewN ?_ _ | refine blk_drew ?_ | refine blk_alloc ?_ _)); exact BK186.out) k_ hk⟩)); (case aO => exact (by (with_reducible repeat (first | apply Kd.R_alloc | apply Kd.R_drewN | apply Kd.R_drew)); exact Kd.R_mono HO193.out (fun _ hk => ⟨hk.1.1, hk.2⟩))); (case aS => exact (below_size (by repeat (first | (with_reducible first | exact HB.out | apply below_alloc | apply pw_below_drewN | apply below_drew1 | refine below_set ?_ GE186.out) | exact HB.out)))); (case aL => have := LMc17.out; omega); intro v195 w21 ho hb hg hat; rw [← Ny194.out] at ho; have n0_ := Aside0.mk (Kd.V_afterv (ok := (fun k_ => (P0_ k_ ∨ w.heap.size ≤ k_) ∧ k_ ≠ gb186)) (by (with_reducible repeat (first | apply Kd.V_alloc | apply Kd.V_drewN | apply Kd.V_drew)); exact HO_0.out) hg hat); have n1_ := Aside0.mk (blk_grown (g := gb186) (o := .cells #[.int .i64 a1_0, .int .i64 a1_1, .int .i64 a1_2, .int .i64 a1_3, .int .i64 a1_4, .string a1_5] 24 (0, 0)) (by (with_reducible repeat (first | refine blk_drewN ?_ _ | refine blk_drew ?_ | refine blk_alloc ?_ _)); exact BK186.out) hg (Kd.R_away HO193.out (fun _ hk => hk.2))); have n2_ := Aside0.mk (hb); have n3_ := Aside0.mk (ho); clear HO_0; clear BK186; clear HB; clear HO193; have HO_0 := n0_; have BK186 := n1_; have HB := n2_; have HO196 := n3_; clear n0_ n1_ n2_ n3_; clear ho hb hg hat))
                  go_ret3
                  exact ⟨_, by first | rfl | (simp [errW_none, errW_some] <;> rfl) | (simp [*, errW_none, errW_some] <;> rfl), Kd.V_mono (Kd.R_V (by (with_reducible repeat (first | apply Kd.R_alloc | apply Kd.R_drewN | apply Kd.R_drew)); exact Kd.R_mono HO196.out (fun _ hk => hk.1))) (fun k_ hk => by first | exact ⟨(.inr (hk.1)), hk.2⟩ | exact (.inr (hk))), by repeat (first | (with_reducible first | exact HB.out | apply below_alloc | apply pw_below_drewN | apply below_drew1 | refine below_set ?_ GE186.out) | exact HB.out)⟩
                · rw [if_neg c17] at H
                  exact absurd H (by simp)

/-! ### jobshellref23_SameDescs: function 13 -/
def jobshellref23_SameDescs.l0 : Nat → List (S24) → List (S24) → Int → Option (Bool)
  | 0, _, _, _ => none
  | k + 1, x0, x1, x5 => if x5 < (x0.length : Int) then (if 0 ≤ x5 then (if x5 < (x1.length : Int) then (if (!(((rd_T24 x0 x5).f0) == ((rd_T24 x1 x5).f0)) || (!(((rd_T24 x0 x5).f1) == ((rd_T24 x1 x5).f1)) || (!(((rd_T24 x0 x5).f2) == ((rd_T24 x1 x5).f2)) || (!(((rd_T24 x0 x5).f3) == ((rd_T24 x1 x5).f3)) || (!(((rd_T24 x0 x5).f4) == ((rd_T24 x1 x5).f4)) || (!((((rd_T24 x0 x5).f5).toList) == (((rd_T24 x1 x5).f5).toList)))))))) = true then (some false) else (jobshellref23_SameDescs.l0 k x0 x1 (wrap64 (x5 + 1)))) else (none)) else (none)) else (some true)
def jobshellref23_SameDescs.f (k : Nat) (l0 : List (S24)) (l1 : List (S24)) : Option (Bool) := if (l0.length : Int) = (l1.length : Int) then (jobshellref23_SameDescs.l0 k l0 l1 0) else (some false)
theorem jobshellref23_SameDescs.mono_l : ∀ k, (∀ y0 y1 y2, LeO (jobshellref23_SameDescs.l0 k y0 y1 y2) (jobshellref23_SameDescs.l0 (k + 1) y0 y1 y2))
  | 0 => fun _ _ _ r h => by simp [jobshellref23_SameDescs.l0] at h
  | k + 1 => by
    have ih0 := jobshellref23_SameDescs.mono_l k
    · intro y0 y1 y2
      unfold jobshellref23_SameDescs.l0
      repeat' first
      | (with_reducible exact ih0 _ _ _)
      | (with_reducible exact LeO.refl _)
      | (with_reducible exact LeO.none _)
      | (with_reducible refine LeO.ite ?_ ?_)
      | (with_reducible refine LeO.bind ?_ (fun _ => ?_))
      | exact ih0 _ _ _
      | exact LeO.none _
      | refine LeO.ite ?_ ?_
      | refine LeO.bind ?_ (fun _ => ?_)
theorem jobshellref23_SameDescs.mono : ∀ a0 a1 k, LeO (jobshellref23_SameDescs.f k a0 a1) (jobshellref23_SameDescs.f (k + 1) a0 a1) := by
  intro a0 a1 k
  have ih0 := jobshellref23_SameDescs.mono_l k
  unfold jobshellref23_SameDescs.f
  repeat' first
      | (with_reducible exact ih0 _ _ _)
      | (with_reducible exact LeO.refl _)
      | (with_reducible exact LeO.none _)
      | (with_reducible refine LeO.ite ?_ ?_)
      | (with_reducible refine LeO.bind ?_ (fun _ => ?_))
      | exact ih0 _ _ _
      | exact LeO.none _
      | refine LeO.ite ?_ ?_
      | refine LeO.bind ?_ (fun _ => ?_)
set_option maxHeartbeats 8000000 in
set_option maxRecDepth 10000000 in
theorem jobshellref23_SameDescs.calls (k : Nat) (A0 : Option Addr) (c0 : Nat) (l0 : List (S24)) (A1 : Option Addr) (c1 : Nat) (l1 : List (S24)) (r : Bool) (w : World) (hr0 : Kd.C k24 w A0 l0.length l0) (hc0 : l0.length ≤ c0) (hr1 : Kd.C k24 w A1 l1.length l1) (hc1 : l1.length ≤ c1) (h : jobshellref23_SameDescs.f k l0 l1 = some r) :
    Calls Try.prog 13 #[.slice A0 l0.length c0, .slice A1 l1.length c1] w fun e w' => e = .returned (.bool r) ∧ Drawn0 w w' := by
  have hu24 := Try.underlying24
  have HR0 := Aside0.mk hr0
  have HC0 := Aside0.mk hc0
  clear hr0 hc0
  have HR1 := Aside0.mk hr1
  have HC1 := Aside0.mk hc1
  clear hr1 hc1
  have H : (if (l0.length : Int) = (l1.length : Int) then (jobshellref23_SameDescs.l0 k l0 l1 0) else (some false)) = some r := h
  clear h
  by_cases c3 : (l0.length : Int) = (l1.length : Int)
  · rw [if_pos c3] at H
    have c3b0 : ((l0.length : Int) == (l1.length : Int)) = true := beq_iff_eq.mpr c3
    have c3b1 : ((l0.length : Int) != (l1.length : Int)) = false := bne_eq_false_iff_eq.mpr c3
    have c3b2 : (l0.length == l1.length) = true := by first | simpa using c3 | (simp at c3 ⊢; omega)
    clear c3
    have H' := Aside0.mk H
    clear H
    go_enter Try.func13, Try.ntmps13
    go_wp2
    repeat (go_quiet (fail); try go_wp2)
    go_loopg [5] k (fun kq v5 w' => ∃ (x5_1 : Int), v5 = .int .i64 x5_1 ∧ Aside0 (jobshellref23_SameDescs.l0 kq l0 l1 x5_1 = some r) ∧ Aside0 (kq ≤ k) ∧ Drawn0 w w')
    case atStart => exact ⟨(0), (by first | rfl | (simp; done) | (simp [*]; done) | (generalize ByteArray.toList _ = l_; cases l_ <;> rfl)), H', ⟨Nat.le_refl _⟩, by repeat (first | exact Drawn0.refl _ | apply Drawn0.step)⟩
    case round =>
      clear H'
      try clear c1
      try clear p2
      try clear c3
      try clear c3b0
      try clear c3b1
      try clear c3b2
      obtain ⟨x5_1, rfl, HA, HK1, ⟨m1, rfl⟩⟩ := hrel
      cases gk with
      | zero => exact absurd HA.out (by simp [jobshellref23_SameDescs.l0])
      | succ k1 =>
        have H := HA.out
        clear HA
        simp only [jobshellref23_SameDescs.l0] at H
        by_cases c4 : x5_1 < (l0.length : Int)
        · rw [if_pos c4] at H
          have c4b0 : decide (x5_1 < (l0.length : Int)) = true := decide_eq_true c4
          clear c4
          by_cases c5 : 0 ≤ x5_1
          · rw [if_pos c5] at H
            have c5b0 : decide (0 ≤ x5_1) = true := decide_eq_true c5
            clear c5
            by_cases c6 : x5_1 < (l1.length : Int)
            · rw [if_pos c6] at H
              have c6b0 : decide (x5_1 < (l1.length : Int)) = true := decide_eq_true c6
              clear c6
              by_cases c7 : (!(((rd_T24 l0 x5_1).f0) == ((rd_T24 l1 x5_1).f0)) || (!(((rd_T24 l0 x5_1).f1) == ((rd_T24 l1 x5_1).f1)) || (!(((rd_T24 l0 x5_1).f2) == ((rd_T24 l1 x5_1).f2)) || (!(((rd_T24 l0 x5_1).f3) == ((rd_T24 l1 x5_1).f3)) || (!(((rd_T24 l0 x5_1).f4) == ((rd_T24 l1 x5_1).f4)) || (!((((rd_T24 l0 x5_1).f5).toList) == (((rd_T24 l1 x5_1).f5).toList)))))))) = true
              · rw [if_pos c7] at H
                have c7b0 : (!(((rd_T24 l0 x5_1).f0) == ((rd_T24 l1 x5_1).f0)) || (!(((rd_T24 l0 x5_1).f1) == ((rd_T24 l1 x5_1).f1)) || (!(((rd_T24 l0 x5_1).f2) == ((rd_T24 l1 x5_1).f2)) || (!(((rd_T24 l0 x5_1).f3) == ((rd_T24 l1 x5_1).f3)) || (!(((rd_T24 l0 x5_1).f4) == ((rd_T24 l1 x5_1).f4)) || (!((((rd_T24 l0 x5_1).f5).toList) == (((rd_T24 l1 x5_1).f5).toList)))))))) = true := c7
                clear c7
                obtain rfl := Option.some.inj H
                have p197 : 0 ≤ (x5_1 : Int) := of_decide_eq_true (by first | (with_reducible assumption) | assumption)
                have q197 : x5_1 < (l0.length : Int) := of_decide_eq_true (by first | (with_reducible assumption) | assumption)
                obtain ⟨ad197, e197, hx197_0, hx197_1, hx197_2, hx197_3, hx197_4, hx197_5⟩ := at_T24 HR0.out x5_1 p197 q197
                cases e197
                replace p197 := eq_true p197
                replace q197 := eq_true q197
                have p198 : 0 ≤ (x5_1 : Int) := of_decide_eq_true (by first | (with_reducible assumption) | assumption)
                have q198 : x5_1 < (l1.length : Int) := of_decide_eq_true (by first | (with_reducible assumption) | assumption)
                obtain ⟨ad198, e198, hx198_0, hx198_1, hx198_2, hx198_3, hx198_4, hx198_5⟩ := at_T24 HR1.out x5_1 p198 q198
                cases e198
                replace p198 := eq_true p198
                replace q198 := eq_true q198
                go_wp2
                repeat (go_quiet (fail); try go_wp2)
                go_ret
                exact ⟨by first | rfl | (simp; done) | (simp [*]; done), by repeat (first | exact Drawn0.refl _ | apply Drawn0.step)⟩
              · rw [if_neg c7] at H
                have c7b0 : (!(((rd_T24 l0 x5_1).f0) == ((rd_T24 l1 x5_1).f0)) || (!(((rd_T24 l0 x5_1).f1) == ((rd_T24 l1 x5_1).f1)) || (!(((rd_T24 l0 x5_1).f2) == ((rd_T24 l1 x5_1).f2)) || (!(((rd_T24 l0 x5_1).f3) == ((rd_T24 l1 x5_1).f3)) || (!(((rd_T24 l0 x5_1).f4) == ((rd_T24 l1 x5_1).f4)) || (!((((rd_T24 l0 x5_1).f5).toList) == (((rd_T24 l1 x5_1).f5).toList)))))))) = false := by simpa using c7
                clear c7
                have H' := Aside0.mk H
                clear H
                have p197 : 0 ≤ (x5_1 : Int) := of_decide_eq_true (by first | (with_reducible assumption) | assumption)
                have q197 : x5_1 < (l0.length : Int) := of_decide_eq_true (by first | (with_reducible assumption) | assumption)
                obtain ⟨ad197, e197, hx197_0, hx197_1, hx197_2, hx197_3, hx197_4, hx197_5⟩ := at_T24 HR0.out x5_1 p197 q197
                cases e197
                replace p197 := eq_true p197
                replace q197 := eq_true q197
                have p198 : 0 ≤ (x5_1 : Int) := of_decide_eq_true (by first | (with_reducible assumption) | assumption)
                have q198 : x5_1 < (l1.length : Int) := of_decide_eq_true (by first | (with_reducible assumption) | assumption)
                obtain ⟨ad198, e198, hx198_0, hx198_1, hx198_2, hx198_3, hx198_4, hx198_5⟩ := at_T24 HR1.out x5_1 p198 q198
                cases e198
                replace p198 := eq_true p198
                replace q198 := eq_true q198
                go_wp2
                repeat (go_quiet (fail); try go_wp2)
                go_roundg k1
                case measure => have := HK1.out; omega
                case rel => exact ⟨(wrap64 (x5_1 + 1)), (by first | rfl | (simp; done) | (simp [*]; done) | (generalize ByteArray.toList _ = l_; cases l_ <;> rfl)), H', ⟨by have := HK1.out; omega⟩, by repeat (first | exact Drawn0.refl _ | apply Drawn0.step)⟩
            · rw [if_neg c6] at H
              exact absurd H (by simp)
          · rw [if_neg c5] at H
            exact absurd H (by simp)
        · rw [if_neg c4] at H
          have c4b0 : decide (x5_1 < (l0.length : Int)) = false := decide_eq_false c4
          clear c4
          obtain rfl := Option.some.inj H
          go_wp2
          repeat (go_quiet (fail); try go_wp2)
          go_ret
          exact ⟨by first | rfl | (simp; done) | (simp [*]; done), by repeat (first | exact Drawn0.refl _ | apply Drawn0.step)⟩
  · rw [if_neg c3] at H
    have c3b0 : ((l0.length : Int) == (l1.length : Int)) = false := beq_eq_false_iff_ne.mpr c3
    have c3b1 : ((l0.length : Int) != (l1.length : Int)) = true := bne_iff_ne.mpr c3
    have c3b2 : (l0.length == l1.length) = false := by first | simpa using c3 | (simp at c3 ⊢; omega)
    obtain rfl := Option.some.inj H
    go_enter Try.func13, Try.ntmps13
    go_wp2
    repeat (go_quiet (fail); try go_wp2)
    go_ret
    exact ⟨by first | rfl | (simp; done) | (simp [*]; done), by repeat (first | exact Drawn0.refl _ | apply Drawn0.step)⟩

end Go.Proofs.Ytpljggoogodhlaa.Q
