-- Written by wip/tool/myprint.py, a program of this repo that drives the kit's print over hand-written contracts; Lean checks it. (halved)
import Derived.Test.YtoecolllimgbgaaRows
import Derived.Test.YtoecolllimgbgaaQ29
import Derived.Test.YtoecolllimgbgaaPureTtyStays
import Derived.Test.YtoecolllimgbgaaMRow
import Derived.WalkKit
import Derived.ProofKit
import Derived.OpenShut
import Derived.ShutString
import Derived.ChangeOld
import Derived.Below
import Derived.SizedLaws
namespace Go.Proofs.Ytoecolllimgbgaa.ttyStays
open Go.ChangeShapes Go.WideShapes Go.ChangeAt Go.RowKit Go.Proofs.YtoecolllimgbgaaM Go.Proofs.Ytoecolllimgbgaa.Q Go.Proofs.YtoecolllimgbgaaW.PrintWords Go.Proofs.YtoecolllimgbgaaW.PrintLast Go.Proofs.Ytoecolllimgbgaa.StTtyStays
open Go.ChangeMaps (open_string shut_string)
set_option linter.unusedVariables false
theorem own : ownKnob Try.prog.godebug = none := by kernel_rfl
theorem laidOut : laidOutB Try.prog = true := by kernel_rfl
set_option maxRecDepth 10000000 in
theorem lifted (os : Os) (started : os.Started) (H : Type) (enc : TypeId × Value → H) :
  ReturnsInHanded {} Try.checked os 8 .any (Rows.ttyStaysSpec.pre6 enc Try.prog Try.f8 Rows.ttyStaysRow.domain false) (Rows.ttyStaysSpec.post enc Try.prog Try.f8 false true false false) := by
 refine returnsInHanded_of_change_sized (C := Try.checked) own started (by kernel_rfl) Try.func8
  (ChangeSpec.witness6 (enc := enc) (C := Try.checked) false ⟨#[], #[.slice none 0 0], []⟩ 8 (by kernel_rfl) (by kernel_rfl) (by kernel_rfl) (by kernel_rfl)) ?_
 intro W base args ds gs before hval0 hW hcnd hsz0 _
 have hsz : (DataW.weightsEach Try.prog (Try.f8.params.toList ++ Rows.ttyStaysSpec.plain.varTypes Try.prog) (ds ++ gs)).all (· ≤ reachBytes) = true := hsz0
 have hval : ∀ (j : Nat) t v, Try.f8.params[j]? = some t → args[j]? = some v → Value.okWide Try.prog W .any base t v := hval0
 have hW' := hW
 obtain ⟨p, q, hA0, hV, rfl, hfz, hnd⟩ := hW
 have hA : DataW.TrodAll enc Try.prog W 0 (fun _ => true) true Try.f8.params.toList args.toList ds p := hA0
 rw [Try.params8] at hA hval hsz
 obtain ⟨v0, vs0, d0, ds0, p0, q0, hargs, rfl, rfl, h0, r0⟩ := trodAll_cons hA
 obtain ⟨rfl, rfl, rfl⟩ := trodAll_nil r0
 obtain rfl : args = #[v0] := by cases args; simp_all
 obtain ⟨rfl, rfl⟩ := trodVars_none hV
 have k0 := h0
 have lt0 : ∀ x ∈ p0, x.block < W.heap.size := by obtain ⟨m, hm⟩ := k0; exact DataW.trod_lt m _ _ _ hm
 obtain ⟨b0, len0, cap0, rfl⟩ := okWide_slice Try.underlying45 (hval 0 45 v0 rfl rfl)
 obtain ⟨l0, ⟨A0, c0, e0, hc0, hr0⟩, g0⟩ := Opens.arg (opens_slice Try.underlying45 (show Opens Try.prog k47 47 Ok47 from (Opens.imp (Opens.iso (Opens.struct (n := 3) Try.underlying47 (by kernel_rfl) (OpensF.next (opens_int Try.underlying3) rfl 1 (by kernel_rfl) (OpensF.next (opens_int Try.underlying3) rfl 2 (by kernel_rfl) (OpensF.last (opens_string Try.underlying9) rfl (by kernel_rfl))))) (fun x : S47 => (x.f0, x.f1, x.f2)) (fun y => ⟨y.1, y.2.1, y.2.2⟩) (fun _ => rfl)) (fun x h => ⟨h.1, h.2.1, h.2.2⟩))) (by kernel_rfl)) h0 hsz (j := 0) rfl rfl
 injection e0 with e0 _
 injection e0 with e0_1 e0_2 e0_3
 subst e0_1 e0_2 e0_3
 have hP := Pure.TtyStays l0 (g0.2.1) (g0.1) (fun x hx => (fun h_ => h_) (g0.2.2 x hx))
 clear hA0 hval0 hsz0 hsz
 obtain ⟨k, hk⟩ := hP
 refine (jobshelllaw26_TtyStays.calls k _ _ l0 true W hr0 hc0 hk).mono fun e W' ⟨he, bel0⟩ => ?_
 have bel : Below W.heap.size W W' := bel0
 subst he
 exact ⟨_, rfl, _, _, _, [], _, [], hW', trodAll_mk1 (shut_bool Try.underlying4 _), (trodAll_cons_mk (Below.trod laidOut (by kernel_rfl) (of_decide_eq_true (by kernel_rfl)) k0 bel lt0) trodAll_mk0), rfl, bel.frame _, fun h => by cases h⟩
theorem over : Rows.ttyStaysRow.holds Try.pinned (OpenSpec.ofChange Rows.ttyStaysSpec) :=
 OpenClaim.holds_of_wide 8 Try.f8 rfl rfl rfl rfl rfl rfl rfl ⟨rfl, rfl, rfl, rfl, rfl⟩ rfl rfl rfl rfl rfl (by kernel_rfl) Try.func8 (by kernel_rfl)
  (of_decide_eq_true (by kernel_rfl)) (by unfold Func.isWrapper; first | (rw [if_pos (by decide +kernel)]; kernel_rfl) | (rw [if_neg (by decide +kernel)]; exact ⟨rfl, rfl⟩))
  (fun os started H enc _ => lifted os started H enc)
theorem proved : Rows.TtyStaysSaid := over
#print axioms proved
end Go.Proofs.Ytoecolllimgbgaa.ttyStays
namespace Go.Proofs.Ytoecolllimgbgaa
/-- The row, under a short name, for the claim. -/
theorem ttyStays_holds : Rows.TtyStaysSaid := ttyStays.proved
end Go.Proofs.Ytoecolllimgbgaa
