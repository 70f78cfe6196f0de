-- Written by wip/tool/myprint.py, a program of this repo that drives the kit's print over hand-written contracts; Lean checks it. (halved)
import Derived.Test.YtoecolllimgbgaaRows
import Derived.Test.YtoecolllimgbgaaQ24
import Derived.Test.YtoecolllimgbgaaPureTtyParts
import Derived.Test.YtoecolllimgbgaaMRow
import Derived.WalkKit
import Derived.ProofKit
import Derived.OpenShut
import Derived.ShutString
import Derived.ChangeOld
import Derived.Below
import Derived.SizedLaws
namespace Go.Proofs.Ytoecolllimgbgaa.ttyParts
open Go.ChangeShapes Go.WideShapes Go.ChangeAt Go.RowKit Go.Proofs.YtoecolllimgbgaaM Go.Proofs.Ytoecolllimgbgaa.Q Go.Proofs.YtoecolllimgbgaaW.PrintWords Go.Proofs.YtoecolllimgbgaaW.PrintLast Go.Proofs.Ytoecolllimgbgaa.StTtyParts
open Go.ChangeMaps (open_string shut_string)
set_option linter.unusedVariables false
theorem own : ownKnob Try.prog.godebug = none := by kernel_rfl
theorem laidOut : laidOutB Try.prog = true := by kernel_rfl
set_option maxRecDepth 10000000 in
theorem lifted (os : Os) (started : os.Started) (H : Type) (enc : TypeId × Value → H) :
  ReturnsInHanded {} Try.checked os 6 .any (Rows.ttyPartsSpec.pre6 enc Try.prog Try.f6 Rows.ttyPartsRow.domain false) (Rows.ttyPartsSpec.post enc Try.prog Try.f6 false true false false) := by
 refine returnsInHanded_of_change_sized (C := Try.checked) own started (by kernel_rfl) Try.func6
  (ChangeSpec.witness6 (enc := enc) (C := Try.checked) false ⟨#[], #[.agg #[.int .i64 0, .int .i64 0, .string ByteArray.empty, .slice none 0 0, .string ByteArray.empty, .bool false], .string ByteArray.empty, .string ByteArray.empty], []⟩ 8 (by kernel_rfl) (by kernel_rfl) (by kernel_rfl) (by kernel_rfl)) ?_
 intro W base args ds gs before hval0 hW hcnd hsz0 _
 have hsz : (DataW.weightsEach Try.prog (Try.f6.params.toList ++ Rows.ttyPartsSpec.plain.varTypes Try.prog) (ds ++ gs)).all (· ≤ reachBytes) = true := hsz0
 have hval : ∀ (j : Nat) t v, Try.f6.params[j]? = some t → args[j]? = some v → Value.okWide Try.prog W .any base t v := hval0
 have hW' := hW
 obtain ⟨p, q, hA0, hV, rfl, hfz, hnd⟩ := hW
 have hA : DataW.TrodAll enc Try.prog W 0 (fun _ => true) true Try.f6.params.toList args.toList ds p := hA0
 rw [Try.params6] at hA hval hsz
 obtain ⟨v0, vs0, d0, ds0, p0, q0, hargs, rfl, rfl, h0, r0⟩ := trodAll_cons hA
 obtain ⟨v1, vs1, d1, ds1, p1, q1, rfl, rfl, rfl, h1, r1⟩ := trodAll_cons r0
 obtain ⟨v2, vs2, d2, ds2, p2, q2, rfl, rfl, rfl, h2, r2⟩ := trodAll_cons r1
 obtain ⟨rfl, rfl, rfl⟩ := trodAll_nil r2
 obtain rfl : args = #[v0, v1, v2] := by cases args; simp_all
 obtain ⟨rfl, rfl⟩ := trodVars_none hV
 have k0 := h0
 have lt0 : ∀ x ∈ p0, x.block < W.heap.size := by obtain ⟨m, hm⟩ := k0; exact DataW.trod_lt m _ _ _ hm
 obtain ⟨cs0, rfl, hcs0⟩ := okWide_struct Try.underlying24 (hval 0 24 v0 rfl rfl)
 obtain ⟨⟨a0_0, a0_1, a0_2, l0_3, a0_4, a0_5⟩, ⟨_, _, e0_0, k0_0, _, _, e0_1, k0_1, _, _, e0_2, k0_2, _, _, e0_3, k0_3, _, _, e0_4, k0_4, k0_5⟩, g0⟩ := Opens.arg (Opens.struct (n := 6) Try.underlying24 (by kernel_rfl) (OpensF.next (opens_int Try.underlying3) rfl 1 (by kernel_rfl) (OpensF.next (opens_int Try.underlying3) rfl 2 (by kernel_rfl) (OpensF.next (opens_string Try.underlying9) rfl 3 (by kernel_rfl) (OpensF.next (opens_slice Try.underlying22 (opens_string Try.underlying9) (by kernel_rfl)) rfl 4 (by kernel_rfl) (OpensF.next (opens_string Try.underlying9) rfl 5 (by kernel_rfl) (OpensF.last (opens_bool Try.underlying4) rfl (by kernel_rfl)))))))) h0 hsz (j := 0) rfl rfl
 have y0_0 := k0_0
 have y0_1 := k0_1
 have y0_2 := k0_2
 obtain ⟨A0_3, c0_3, y0_3, hc0_3, hr0_3⟩ := k0_3
 have y0_4 := k0_4
 have y0_5 := k0_5
 obtain rfl : cs0 = #[.int .i64 a0_0, .int .i64 a0_1, .string a0_2, .slice A0_3 l0_3.length c0_3, .string a0_4, .bool a0_5] := by
  have e_ : cs0.toList = [.int .i64 a0_0, .int .i64 a0_1, .string a0_2, .slice A0_3 l0_3.length c0_3, .string a0_4, .bool a0_5] := by
   have e0_ : cs0.toList = _ := e0_0
   rw [e0_, y0_0, e0_1, y0_1, e0_2, y0_2, e0_3, y0_3, e0_4, y0_4, y0_5]
   rfl
  exact Array.ext' e_
 obtain ⟨a1, rfl, rfl, rfl, y1⟩ := open_string Try.underlying9 (hval 1 9 v1 rfl rfl) h1
 have w1 : a1.size ≤ 140737488351232 := by
  have z := sized_string hsz (j := 1) (t := 9) rfl rfl
  rw [Array.length_toList] at z
  exact z
 obtain ⟨a2, rfl, rfl, rfl, y2⟩ := open_string Try.underlying9 (hval 2 9 v2 rfl rfl) h2
 have w2 : a2.size ≤ 140737488351232 := by
  have z := sized_string hsz (j := 2) (t := 9) rfl rfl
  rw [Array.length_toList] at z
  exact z
 have hP := Pure.TtyParts a0_0 a0_1 a0_2 l0_3 a0_4 a0_5 a1 a2 g0.1 g0.2.1 g0.2.2.1 (g0.2.2.2.1.2.1) (g0.2.2.2.1.1) (fun x hx => (fun h_ => h_) (g0.2.2.2.1.2.2 x hx)) g0.2.2.2.2.1 w1 w2
 clear hA0 hval0 hsz0 hsz
 obtain ⟨k, hk⟩ := hP
 refine (jobshelllaw26_TtyParts.calls k a0_0 a0_1 a0_2 _ _ l0_3 a0_4 a0_5 a1 a2 true W hr0_3 hc0_3 hk).mono fun e W' ⟨he, bel0⟩ => ?_
 have bel : Below W.heap.size W W' := bel0
 subst he
 exact ⟨_, rfl, _, _, _, [], _, [], hW', trodAll_mk1 (shut_bool Try.underlying4 _), (trodAll_cons_mk (Below.trod laidOut (by kernel_rfl) (of_decide_eq_true (by kernel_rfl)) k0 bel lt0) (trodAll_cons_mk (shut_string Try.underlying9 y1) (trodAll_cons_mk (shut_string Try.underlying9 y2) trodAll_mk0))), rfl, bel.frame _, fun h => by cases h⟩
theorem over : Rows.ttyPartsRow.holds Try.pinned (OpenSpec.ofChange Rows.ttyPartsSpec) :=
 OpenClaim.holds_of_wide 6 Try.f6 rfl rfl rfl rfl rfl rfl rfl ⟨rfl, rfl, rfl, rfl, rfl⟩ rfl rfl rfl rfl rfl (by kernel_rfl) Try.func6 (by kernel_rfl)
  (of_decide_eq_true (by kernel_rfl)) (by unfold Func.isWrapper; first | (rw [if_pos (by decide +kernel)]; kernel_rfl) | (rw [if_neg (by decide +kernel)]; exact ⟨rfl, rfl⟩))
  (fun os started H enc _ => lifted os started H enc)
theorem proved : Rows.TtyPartsSaid := over
#print axioms proved
end Go.Proofs.Ytoecolllimgbgaa.ttyParts
namespace Go.Proofs.Ytoecolllimgbgaa
/-- The row, under a short name, for the claim. -/
theorem ttyParts_holds : Rows.TtyPartsSaid := ttyParts.proved
end Go.Proofs.Ytoecolllimgbgaa
