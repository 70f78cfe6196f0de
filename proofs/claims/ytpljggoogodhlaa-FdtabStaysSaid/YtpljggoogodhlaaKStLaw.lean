/- FdtabStays: for every descriptor and every table of at most 60 descriptors that the reference finds valid, what Put leaves is valid, holds the descriptor and all others as they were, Drop undoes it, and Free answers as the statement says; for other tables, and behind the comparisons, the chapter's examples hold. -/
import Derived.Test.YtpljggoogodhlaaKStE
import Derived.Test.YtpljggoogodhlaaRows
import Derived.WalkKit
import Derived.ProofKit
import Derived.OpenShut
import Derived.ShutString
import Derived.ChangeOld
import Derived.Below
import Derived.SizedLaws
-- Written by wip/tool/myprint.py, a program of this repo that drives the kit's print over hand-written contracts; Lean checks it.
namespace Go.Proofs.Ytpljggoogodhlaa.fdtabStays
open Go.ChangeShapes Go.WideShapes Go.ChangeAt Go.RowKit Go.Proofs.YtpljggoogodhlaaM Go.Proofs.Ytpljggoogodhlaa.Q Go.Proofs.YtpljggoogodhlaaW.PrintWords Go.Proofs.YtpljggoogodhlaaW.PrintLast Go.Proofs.Ytpljggoogodhlaa.StFdtabStays
open Go.ChangeMaps (open_string shut_string)
set_option linter.unusedVariables false
theorem own : ownKnob Try.prog.godebug = none := by kernel_rfl
theorem laidOut : laidOutB Try.prog = true := by kernel_rfl
set_option maxRecDepth 10000000 in
theorem lifted (os : Os) (started : os.Started) (H : Type) (enc : TypeId × Value → H) :
    ReturnsInHanded {} Try.checked os 8 .any (Rows.fdtabStaysSpec.pre6 enc Try.prog Try.f8 Rows.fdtabStaysRow.domain false) (Rows.fdtabStaysSpec.post enc Try.prog Try.f8 false true false false) := by
  refine returnsInHanded_of_change_sized (C := Try.checked) own started (by kernel_rfl) Try.func8
    (ChangeSpec.witness6 (enc := enc) (C := Try.checked) false ⟨#[], #[.slice none 0 0, .agg #[.int .i64 0, .int .i64 0, .bool false]], []⟩ 8 (by kernel_rfl) (by kernel_rfl) (by kernel_rfl) (by kernel_rfl)) ?_
  intro W base args ds gs before hval0 hW hcnd hsz0 _
  have hsz : (DataW.weightsEach Try.prog (Try.f8.params.toList ++ Rows.fdtabStaysSpec.plain.varTypes Try.prog) (ds ++ gs)).all (· ≤ reachBytes) = true := hsz0
  have hval : ∀ (j : Nat) t v, Try.f8.params[j]? = some t → args[j]? = some v → Value.okWide Try.prog W .any base t v := hval0
  have hW' := hW
  obtain ⟨p, q, hA0, hV, rfl, hfz, hnd⟩ := hW
  have hA : DataW.TrodAll enc Try.prog W 0 (fun _ => true) true Try.f8.params.toList args.toList ds p := hA0
  rw [Try.params8] at hA hval hsz
  obtain ⟨v0, vs0, d0, ds0, p0, q0, hargs, rfl, rfl, h0, r0⟩ := trodAll_cons hA
  obtain ⟨v1, vs1, d1, ds1, p1, q1, rfl, rfl, rfl, h1, r1⟩ := trodAll_cons r0
  obtain ⟨rfl, rfl, rfl⟩ := trodAll_nil r1
  obtain rfl : args = #[v0, v1] := by cases args; simp_all
  obtain ⟨rfl, rfl⟩ := trodVars_none hV
  have k0 := h0
  have lt0 : ∀ x ∈ p0, x.block < W.heap.size := by obtain ⟨m, hm⟩ := k0; exact DataW.trod_lt m _ _ _ hm
  obtain ⟨b0, len0, cap0, rfl⟩ := okWide_slice Try.underlying34 (hval 0 34 v0 rfl rfl)
  obtain ⟨l0, ⟨A0, c0, e0, hc0, hr0⟩, g0⟩ := Opens.arg (opens_slice Try.underlying34 (show Opens Try.prog k36 36 Ok36 from (Opens.imp (Opens.iso (Opens.struct (n := 3) Try.underlying36 (by kernel_rfl) (OpensF.next (opens_int Try.underlying3) rfl 1 (by kernel_rfl) (OpensF.next (opens_int Try.underlying3) rfl 2 (by kernel_rfl) (OpensF.last (opens_bool Try.underlying4) rfl (by kernel_rfl))))) (fun x : S36 => (x.f0, x.f1, x.f2)) (fun y => ⟨y.1, y.2.1, y.2.2⟩) (fun _ => rfl)) (fun x h => ⟨h.1, h.2.1⟩))) (by kernel_rfl)) h0 hsz (j := 0) rfl rfl
  injection e0 with e0 _
  injection e0 with e0_1 e0_2 e0_3
  subst e0_1 e0_2 e0_3
  have k1 := h1
  have lt1 : ∀ x ∈ p1, x.block < W.heap.size := by obtain ⟨m, hm⟩ := k1; exact DataW.trod_lt m _ _ _ hm
  obtain ⟨cs1, rfl, hcs1⟩ := okWide_struct Try.underlying36 (hval 1 36 v1 rfl rfl)
  obtain ⟨⟨a1_0, a1_1, a1_2⟩, ⟨_, _, e1_0, k1_0, _, _, e1_1, k1_1, k1_2⟩, g1⟩ := Opens.arg (Opens.struct (n := 3) Try.underlying36 (by kernel_rfl) (OpensF.next (opens_int Try.underlying3) rfl 1 (by kernel_rfl) (OpensF.next (opens_int Try.underlying3) rfl 2 (by kernel_rfl) (OpensF.last (opens_bool Try.underlying4) rfl (by kernel_rfl))))) h1 hsz (j := 1) rfl rfl
  have y1_0 := k1_0
  have y1_1 := k1_1
  have y1_2 := k1_2
  obtain rfl : cs1 = #[.int .i64 a1_0, .int .i64 a1_1, .bool a1_2] := by
    have e_ : cs1.toList = [.int .i64 a1_0, .int .i64 a1_1, .bool a1_2] := by
      have e0_ : cs1.toList = _ := e1_0
      rw [e0_, y1_0, e1_1, y1_1, y1_2]
      rfl
    exact Array.ext' e_
  have hP := Pure.FdtabStays l0 a1_0 a1_1 a1_2 (g0.2.1) (g0.1) (fun x hx => (fun h_ => h_) (g0.2.2 x hx)) g1.1 g1.2.1
  clear hA0 hval0 hsz0 hsz
  obtain ⟨k, hk⟩ := hP
  refine (jobshelllaw23_FdtabStays.calls k _ _ l0 a1_0 a1_1 a1_2 true W hr0 hc0 hk).mono fun e W' ⟨he, bel0⟩ => ?_
  have bel : Below W.heap.size W W' := bel0
  subst he
  exact ⟨_, rfl, _, _, _, [], _, [], hW', trodAll_mk1 (shut_bool Try.underlying4 _), (trodAll_cons_mk (Below.trod laidOut (by kernel_rfl) (of_decide_eq_true (by kernel_rfl)) k0 bel lt0) (trodAll_cons_mk (Below.trod laidOut (by kernel_rfl) (of_decide_eq_true (by kernel_rfl)) k1 bel lt1) trodAll_mk0)), rfl, bel.frame _, fun h => by cases h⟩
theorem over : Rows.fdtabStaysRow.holds Try.pinned (OpenSpec.ofChange Rows.fdtabStaysSpec) :=
  OpenClaim.holds_of_wide 8 Try.f8 rfl rfl rfl rfl rfl rfl rfl ⟨rfl, rfl, rfl, rfl, rfl⟩ rfl rfl rfl rfl rfl (by kernel_rfl) Try.func8 (by kernel_rfl)
    (of_decide_eq_true (by kernel_rfl)) (by unfold Func.isWrapper; first | (rw [if_pos (by decide +kernel)]; kernel_rfl) | (rw [if_neg (by decide +kernel)]; exact ⟨rfl, rfl⟩))
    (fun os started H enc _ => lifted os started H enc)
theorem proved : Rows.FdtabStaysSaid := over
#print axioms proved
end Go.Proofs.Ytpljggoogodhlaa.fdtabStays
namespace Go.Proofs.Ytpljggoogodhlaa
/-- The row, under a short name, for the claim. -/
theorem fdtabStays_holds : Rows.FdtabStaysSaid := fdtabStays.proved
end Go.Proofs.Ytpljggoogodhlaa
