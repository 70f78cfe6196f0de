-- Written by wip/tool/myprint.py, a program of this repo that drives the kit's print over hand-written contracts; Lean checks it.
import Derived.Test.YtpljggoogodhlaaRows
import Derived.Test.YtpljggoogodhlaaQ23
import Derived.Test.YtpljggoogodhlaaPureFdtabBack
import Derived.Test.YtpljggoogodhlaaMRow
import Derived.WalkKit
import Derived.ProofKit
import Derived.OpenShut
import Derived.ShutString
import Derived.ChangeOld
import Derived.Below
import Derived.SizedLaws
namespace Go.Proofs.Ytpljggoogodhlaa.fdtabBack
open Go.ChangeShapes Go.WideShapes Go.ChangeAt Go.RowKit Go.Proofs.YtpljggoogodhlaaM Go.Proofs.Ytpljggoogodhlaa.Q Go.Proofs.YtpljggoogodhlaaW.PrintWords Go.Proofs.YtpljggoogodhlaaW.PrintLast Go.Proofs.Ytpljggoogodhlaa.StFdtabBack
open Go.ChangeMaps (open_string shut_string)
set_option linter.unusedVariables false
theorem own : ownKnob Try.prog.godebug = none := by kernel_rfl
theorem laidOut : laidOutB Try.prog = true := by kernel_rfl
set_option maxRecDepth 10000000 in
theorem lifted (os : Os) (started : os.Started) (H : Type) (enc : TypeId × Value → H) :
    ReturnsInHanded {} Try.checked os 6 .any (Rows.fdtabBackSpec.pre6 enc Try.prog Try.f6 Rows.fdtabBackRow.domain false) (Rows.fdtabBackSpec.post enc Try.prog Try.f6 false true false false) := by
  refine returnsInHanded_of_change_sized (C := Try.checked) own started (by kernel_rfl) Try.func6
    (ChangeSpec.witness6 (enc := enc) (C := Try.checked) false ⟨#[], #[.slice none 0 0, .agg #[.int .i64 0, .int .i64 0, .int .i64 0, .int .i64 0, .int .i64 0, .string ByteArray.empty], .int .i64 0], []⟩ 8 (by kernel_rfl) (by kernel_rfl) (by kernel_rfl) (by kernel_rfl)) ?_
  intro W base args ds gs before hval0 hW hcnd hsz0 _
  have hsz : (DataW.weightsEach Try.prog (Try.f6.params.toList ++ Rows.fdtabBackSpec.plain.varTypes Try.prog) (ds ++ gs)).all (· ≤ reachBytes) = true := hsz0
  have hval : ∀ (j : Nat) t v, Try.f6.params[j]? = some t → args[j]? = some v → Value.okWide Try.prog W .any base t v := hval0
  have hW' := hW
  obtain ⟨p, q, hA0, hV, rfl, hfz, hnd⟩ := hW
  have hA : DataW.TrodAll enc Try.prog W 0 (fun _ => true) true Try.f6.params.toList args.toList ds p := hA0
  rw [Try.params6] at hA hval hsz
  obtain ⟨v0, vs0, d0, ds0, p0, q0, hargs, rfl, rfl, h0, r0⟩ := trodAll_cons hA
  obtain ⟨v1, vs1, d1, ds1, p1, q1, rfl, rfl, rfl, h1, r1⟩ := trodAll_cons r0
  obtain ⟨v2, vs2, d2, ds2, p2, q2, rfl, rfl, rfl, h2, r2⟩ := trodAll_cons r1
  obtain ⟨rfl, rfl, rfl⟩ := trodAll_nil r2
  obtain rfl : args = #[v0, v1, v2] := by cases args; simp_all
  obtain ⟨rfl, rfl⟩ := trodVars_none hV
  have k0 := h0
  have lt0 : ∀ x ∈ p0, x.block < W.heap.size := by obtain ⟨m, hm⟩ := k0; exact DataW.trod_lt m _ _ _ hm
  obtain ⟨b0, len0, cap0, rfl⟩ := okWide_slice Try.underlying22 (hval 0 22 v0 rfl rfl)
  obtain ⟨l0, ⟨A0, c0, e0, hc0, hr0⟩, g0⟩ := Opens.arg (opens_slice Try.underlying22 (show Opens Try.prog k24 24 Ok24 from (Opens.imp (Opens.iso (Opens.struct (n := 6) Try.underlying24 (by kernel_rfl) (OpensF.next (opens_int Try.underlying3) rfl 1 (by kernel_rfl) (OpensF.next (opens_int Try.underlying3) rfl 2 (by kernel_rfl) (OpensF.next (opens_int Try.underlying3) rfl 3 (by kernel_rfl) (OpensF.next (opens_int Try.underlying3) rfl 4 (by kernel_rfl) (OpensF.next (opens_int Try.underlying3) rfl 5 (by kernel_rfl) (OpensF.last (opens_string Try.underlying9) rfl (by kernel_rfl)))))))) (fun x : S24 => (x.f0, x.f1, x.f2, x.f3, x.f4, x.f5)) (fun y => ⟨y.1, y.2.1, y.2.2.1, y.2.2.2.1, y.2.2.2.2.1, y.2.2.2.2.2⟩) (fun _ => rfl)) (fun x h => ⟨h.1, h.2.1, h.2.2.1, h.2.2.2.1, h.2.2.2.2.1, h.2.2.2.2.2⟩))) (by kernel_rfl)) h0 hsz (j := 0) rfl rfl
  injection e0 with e0 _
  injection e0 with e0_1 e0_2 e0_3
  subst e0_1 e0_2 e0_3
  have k1 := h1
  have lt1 : ∀ x ∈ p1, x.block < W.heap.size := by obtain ⟨m, hm⟩ := k1; exact DataW.trod_lt m _ _ _ hm
  obtain ⟨cs1, rfl, hcs1⟩ := okWide_struct Try.underlying24 (hval 1 24 v1 rfl rfl)
  obtain ⟨⟨a1_0, a1_1, a1_2, a1_3, a1_4, a1_5⟩, ⟨_, _, e1_0, k1_0, _, _, e1_1, k1_1, _, _, e1_2, k1_2, _, _, e1_3, k1_3, _, _, e1_4, k1_4, k1_5⟩, g1⟩ := Opens.arg (Opens.struct (n := 6) Try.underlying24 (by kernel_rfl) (OpensF.next (opens_int Try.underlying3) rfl 1 (by kernel_rfl) (OpensF.next (opens_int Try.underlying3) rfl 2 (by kernel_rfl) (OpensF.next (opens_int Try.underlying3) rfl 3 (by kernel_rfl) (OpensF.next (opens_int Try.underlying3) rfl 4 (by kernel_rfl) (OpensF.next (opens_int Try.underlying3) rfl 5 (by kernel_rfl) (OpensF.last (opens_string Try.underlying9) rfl (by kernel_rfl)))))))) h1 hsz (j := 1) rfl rfl
  have y1_0 := k1_0
  have y1_1 := k1_1
  have y1_2 := k1_2
  have y1_3 := k1_3
  have y1_4 := k1_4
  have y1_5 := k1_5
  obtain rfl : cs1 = #[.int .i64 a1_0, .int .i64 a1_1, .int .i64 a1_2, .int .i64 a1_3, .int .i64 a1_4, .string a1_5] := by
    have e_ : cs1.toList = [.int .i64 a1_0, .int .i64 a1_1, .int .i64 a1_2, .int .i64 a1_3, .int .i64 a1_4, .string a1_5] := by
      have e0_ : cs1.toList = _ := e1_0
      rw [e0_, y1_0, e1_1, y1_1, e1_2, y1_2, e1_3, y1_3, e1_4, y1_4, y1_5]
      rfl
    exact Array.ext' e_
  obtain ⟨a2, rfl, rfl, rfl, w2⟩ := open_int Try.underlying3 (hval 2 3 v2 rfl rfl) h2
  have hP := Pure.FdtabBack l0 a1_0 a1_1 a1_2 a1_3 a1_4 a1_5 a2 (g0.2.1) (g0.1) (fun x hx => (fun h_ => h_) (g0.2.2 x hx)) g1.1 g1.2.1 g1.2.2.1 g1.2.2.2.1 g1.2.2.2.2.1 g1.2.2.2.2.2 w2
  clear hA0 hval0 hsz0 hsz
  obtain ⟨k, hk⟩ := hP
  refine (jobshelllaw23_FdtabBack.calls k _ _ l0 a1_0 a1_1 a1_2 a1_3 a1_4 a1_5 a2 true W hr0 hc0 hk).mono fun e W' ⟨he, bel0⟩ => ?_
  have bel : Below W.heap.size W W' := bel0
  subst he
  exact ⟨_, rfl, _, _, _, [], _, [], hW', trodAll_mk1 (shut_bool Try.underlying4 _), (trodAll_cons_mk (Below.trod laidOut (by kernel_rfl) (of_decide_eq_true (by kernel_rfl)) k0 bel lt0) (trodAll_cons_mk (Below.trod laidOut (by kernel_rfl) (of_decide_eq_true (by kernel_rfl)) k1 bel lt1) (trodAll_cons_mk (shut_int Try.underlying3 w2) trodAll_mk0))), rfl, bel.frame _, fun h => by cases h⟩
theorem over : Rows.fdtabBackRow.holds Try.pinned (OpenSpec.ofChange Rows.fdtabBackSpec) :=
  OpenClaim.holds_of_wide 6 Try.f6 rfl rfl rfl rfl rfl rfl rfl ⟨rfl, rfl, rfl, rfl, rfl⟩ rfl rfl rfl rfl rfl (by kernel_rfl) Try.func6 (by kernel_rfl)
    (of_decide_eq_true (by kernel_rfl)) (by unfold Func.isWrapper; first | (rw [if_pos (by decide +kernel)]; kernel_rfl) | (rw [if_neg (by decide +kernel)]; exact ⟨rfl, rfl⟩))
    (fun os started H enc _ => lifted os started H enc)
theorem proved : Rows.FdtabBackSaid := over
#print axioms proved
end Go.Proofs.Ytpljggoogodhlaa.fdtabBack
namespace Go.Proofs.Ytpljggoogodhlaa
/-- The row, under a short name, for the claim. -/
theorem fdtabBack_holds : Rows.FdtabBackSaid := fdtabBack.proved
end Go.Proofs.Ytpljggoogodhlaa
