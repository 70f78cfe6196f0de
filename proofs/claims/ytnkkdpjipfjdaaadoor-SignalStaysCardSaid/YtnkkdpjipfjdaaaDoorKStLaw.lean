/- SignalStays: for all inputs the law returns true, where the library's tables hold what the program's text lays (the card ties them to it). Written by wip/tool/row25.py out of the printed row. -/
import Derived.Test.YtnkkdpjipfjdaaaDoorKStG
import Derived.Test.YtnkkdpjipfjdaaaDoorRows
import Derived.Test.YtnkkdpjipfjdaaaDoorTie
import Derived.Test.YtnkkdpjipfjdaaaDoorCards
import Derived.SevenTiedAt
import Derived.LaidLaws
import Derived.Handed
import Derived.WalkKit
import Derived.ProofKit
import Derived.OpenShut
import Derived.ShutString
import Derived.ChangeOld
import Derived.Below
import Derived.SizedLaws
namespace Go.Proofs.YtnkkdpjipfjdaaaDoor.signalStays
open Go.ChangeShapes Go.WideShapes Go.ChangeAt Go.RowKit Go.Proofs.YtnkkdpjipfjdaaaDoorM Go.Proofs.YtnkkdpjipfjdaaaDoorW.PrintWords Go.Proofs.YtnkkdpjipfjdaaaDoorM Go.Proofs.YtnkkdpjipfjdaaaDoor.Q Go.Proofs.YtnkkdpjipfjdaaaDoorW.PrintWords Go.Proofs.YtnkkdpjipfjdaaaDoorW.PrintLast Go.Proofs.YtnkkdpjipfjdaaaDoor.StSignalStays
open Go.ChangeMaps (open_string shut_string)
set_option linter.unusedVariables false
theorem own : ownKnob Tryd.prog.godebug = none := by kernel_rfl
theorem laidOut : laidOutB Tryd.prog = true := by kernel_rfl
set_option maxRecDepth 10000000 in
theorem lifted (os : Os) (started : os.Started) (H : Type) (enc : TypeId × Value → H) :
    ReturnsInHanded {} Tryd.checked os 9 .any (fun w args => (Rows.signalStaysSpec.pre enc Tryd.prog Tryd.f9 Rows.signalStaysRow.domain false w args ∧ laidMet Tryd.prog Rows.signalStaysRow.laid w) ∧ sizedMet enc Tryd.prog Tryd.f9 (OpenSpec.ofChange Rows.signalStaysSpec) false w args) (Rows.signalStaysSpec.post enc Tryd.prog Tryd.f9 false true false false) := by
  refine returnsInHanded_of_change_and (C := Tryd.checked) (X := fun w _ => laidMet Tryd.prog Rows.signalStaysRow.laid w) (fun _ _ _ hh h => h.of_heap hh) own started (by kernel_rfl) Tryd.func9
    (ChangeSpec.witness_at (enc := enc) (C := Tryd.checked) (os := os) (X := fun w _ => laidMet Tryd.prog Rows.signalStaysRow.laid w) false (laidWorld os) #[.agg #[.slice none 0 0, .slice none 0 0, .slice none 0 0], .slice none 0 0] 8 rfl (by kernel_rfl) (by kernel_rfl) (by kernel_rfl) (by kernel_rfl) (by kernel_rfl) (laid_met os _)) ?_
  intro W base args ds gs before hval0 hW hcnd hsz0 hL _
  have hsz : (DataW.weightsEach Tryd.prog (Tryd.f9.params.toList ++ Rows.signalStaysSpec.plain.varTypes Tryd.prog) (ds ++ gs)).all (· ≤ reachBytes) = true := hsz0
  have hval : ∀ (j : Nat) t v, Tryd.f9.params[j]? = some t → args[j]? = some v → Value.okWide Tryd.prog W .any base t v := hval0
  have hW' := hW
  obtain ⟨p, q, hA0, hV, rfl, hfz, hnd⟩ := hW
  have hA : DataW.TrodAll enc Tryd.prog W 0 (fun _ => true) true Tryd.f9.params.toList args.toList ds p := hA0
  rw [Tryd.params9] at hA hval hsz
  obtain ⟨v0, vs0, d0, ds0, p0, q0, hargs, rfl, rfl, h0, r0⟩ := trodAll_cons hA
  obtain ⟨v1, vs1, d1, ds1, p1, q1, rfl, rfl, rfl, h1, r1⟩ := trodAll_cons r0
  obtain ⟨rfl, rfl, rfl⟩ := trodAll_nil r1
  obtain rfl : args = #[v0, v1] := by cases args; simp_all
  obtain ⟨rfl, rfl⟩ := trodVars_none hV
  have k0 := h0
  have lt0 : ∀ x ∈ p0, x.block < W.heap.size := by obtain ⟨m, hm⟩ := k0; exact DataW.trod_lt m _ _ _ hm
  obtain ⟨cs0, rfl, hcs0⟩ := okWide_struct Tryd.underlying30 (hval 0 30 v0 rfl rfl)
  obtain ⟨⟨l0_0, l0_1, l0_2⟩, ⟨_, _, e0_0, k0_0, _, _, e0_1, k0_1, k0_2⟩, g0⟩ := Opens.arg (Opens.struct (n := 3) Tryd.underlying30 (by kernel_rfl) (OpensF.next (opens_slice Tryd.underlying28 (opens_int Tryd.underlying3) (by kernel_rfl)) rfl 1 (by kernel_rfl) (OpensF.next (opens_slice Tryd.underlying28 (opens_int Tryd.underlying3) (by kernel_rfl)) rfl 2 (by kernel_rfl) (OpensF.last (opens_slice Tryd.underlying28 (opens_int Tryd.underlying3) (by kernel_rfl)) rfl (by kernel_rfl))))) h0 hsz (j := 0) rfl rfl
  obtain ⟨A0_0, c0_0, y0_0, hc0_0, hr0_0⟩ := k0_0
  obtain ⟨A0_1, c0_1, y0_1, hc0_1, hr0_1⟩ := k0_1
  obtain ⟨A0_2, c0_2, y0_2, hc0_2, hr0_2⟩ := k0_2
  obtain rfl : cs0 = #[.slice A0_0 l0_0.length c0_0, .slice A0_1 l0_1.length c0_1, .slice A0_2 l0_2.length c0_2] := by
    have e_ : cs0.toList = [.slice A0_0 l0_0.length c0_0, .slice A0_1 l0_1.length c0_1, .slice A0_2 l0_2.length c0_2] := by
      have e0_ : cs0.toList = _ := e0_0
      rw [e0_, y0_0, e0_1, y0_1, y0_2]
      rfl
    exact Array.ext' e_
  have k1 := h1
  have lt1 : ∀ x ∈ p1, x.block < W.heap.size := by obtain ⟨m, hm⟩ := k1; exact DataW.trod_lt m _ _ _ hm
  obtain ⟨b1, len1, cap1, rfl⟩ := okWide_slice Tryd.underlying48 (hval 1 48 v1 rfl rfl)
  obtain ⟨l1, ⟨A1, c1, e1, hc1, hr1⟩, g1⟩ := Opens.arg (opens_slice Tryd.underlying48 (show Opens Tryd.prog k51 51 Ok51 from (Opens.imp (Opens.iso (Opens.struct (n := 3) Tryd.underlying51 (by kernel_rfl) (OpensF.next (opens_int Tryd.underlying3) rfl 1 (by kernel_rfl) (OpensF.next (opens_int Tryd.underlying3) rfl 2 (by kernel_rfl) (OpensF.last (opens_int Tryd.underlying3) rfl (by kernel_rfl))))) (fun x : S51 => (x.f0, x.f1, x.f2)) (fun y => ⟨y.1, y.2.1, y.2.2⟩) (fun _ => rfl)) (fun x h => ⟨h.1, h.2.1, h.2.2⟩))) (by kernel_rfl)) h1 hsz (j := 1) rfl rfl
  injection e1 with e1 _
  injection e1 with e1_1 e1_2 e1_3
  subst e1_1 e1_2 e1_3
  have hP := Pure.SignalStays l0_0 l0_1 l0_2 l1 (g0.1.2.1) (g0.1.1) (fun x hx => (fun h_ => h_) (g0.1.2.2 x hx)) (g0.2.1.2.1) (g0.2.1.1) (fun x hx => (fun h_ => h_) (g0.2.1.2.2 x hx)) (g0.2.2.2.1) (g0.2.2.1) (fun x hx => (fun h_ => h_) (g0.2.2.2.2 x hx)) (g1.2.1) (g1.1) (fun x hx => (fun h_ => h_) (g1.2.2 x hx))
  clear hA0 hval0 hsz0 hsz
  obtain ⟨k, hk⟩ := hP
  refine (jobshelllaw25_SignalStays.calls k _ _ _ l0_0 _ _ _ l0_1 _ _ _ l0_2 _ _ l1 true W (Kd.V_mk hc0_0 (Kd.C_F (Kd.heap_int .i64) hr0_0)) (Kd.V_mk hc0_1 (Kd.C_F (Kd.heap_int .i64) hr0_1)) (Kd.V_mk hc0_2 (Kd.C_F (Kd.heap_int .i64) hr0_2)) hr1 hc1 hk).mono fun e W' ⟨he, bel0⟩ => ?_
  have bel : Below W.heap.size W W' := bel0
  subst he
  exact ⟨_, rfl, _, _, _, [], _, [], hW', trodAll_mk1 (shut_bool Tryd.underlying4 _), (trodAll_cons_mk (Below.trod laidOut (by kernel_rfl) (of_decide_eq_true (by kernel_rfl)) k0 bel lt0) (trodAll_cons_mk (Below.trod laidOut (by kernel_rfl) (of_decide_eq_true (by kernel_rfl)) k1 bel lt1) trodAll_mk0)), rfl, bel.frame _, fun h => by cases h⟩
theorem over : Rows.signalStaysRow.holds Tryd.pinned (OpenSpec.ofChange Rows.signalStaysSpec) :=
  OpenClaim.holds_of_wide 9 Tryd.f9 rfl rfl rfl rfl rfl rfl rfl ⟨rfl, rfl, rfl, rfl, rfl⟩ rfl rfl rfl rfl rfl (by kernel_rfl) Tryd.func9 (by kernel_rfl)
    (of_decide_eq_true (by kernel_rfl)) (by unfold Func.isWrapper; first | (rw [if_pos (by decide +kernel)]; kernel_rfl) | (rw [if_neg (by decide +kernel)]; exact ⟨rfl, rfl⟩))
    (fun os started H enc _ => lifted os started H enc)
theorem proved : Rows.SignalStaysSaid := over
theorem card : Rows.SignalStaysCardSaid :=
  Claim7.holds_tied_plain_at .later [] [.data, .data, .data] true (true, "22cc8205349b101b454c9f7cdee5a769b2ded8b9ac3f86cf13e1f185b367cfe4") false
    over (fun _ h => by cases h) (by kernel_rfl) (fun _ h => by cases h) signalStays_row_tie rfl ⟨rfl, rfl⟩ (by kernel_rfl) rfl
    (fun f fn hf hfn => by
      obtain rfl : f = 9 := Option.some.inj ((show Tryd.prog.funcNamed "jobshell/jobshelllaw25.SignalStays" = some 9 by kernel_rfl).symm.trans hf) |>.symm
      obtain rfl : fn = Tryd.f9 := (Option.some.inj (Tryd.func9.symm.trans hfn)).symm
      exact ⟨by kernel_rfl, fun j t ht => by
        rw [Tryd.params9] at ht
        have h3 : t = 30 ∨ t = 48 := by
          have hm := List.mem_of_getElem? (Array.getElem?_toList ▸ ht)
          simp at hm
          first | omega | (rcases hm with h | h <;> subst h <;> simp) | (rcases hm with h | h | h <;> subst h <;> simp) | (subst hm; simp)
        rcases h3 with rfl | rfl
        · exact (show Tryd.prog.wantsStandIn 30 = false by kernel_rfl)
        · exact (show Tryd.prog.wantsStandIn 48 = false by kernel_rfl)⟩)
    (by kernel_rfl)
#print axioms card
end Go.Proofs.YtnkkdpjipfjdaaaDoor.signalStays
namespace Go.Proofs.YtnkkdpjipfjdaaaDoor
/-- The tied card, under a short name, for the claim. -/
theorem signalStays_holds : Rows.SignalStaysCardSaid := signalStays.card
end Go.Proofs.YtnkkdpjipfjdaaaDoor
