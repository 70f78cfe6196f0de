-- Written by wip/tool/myprint.py, a program of this repo that drives the kit's print over hand-written contracts; Lean checks it.
import Derived.Test.YtpljggoogodhlaaQ0
import Derived.Test.YtpljggoogodhlaaQ3
import Derived.Test.YtpljggoogodhlaaQ8
import Derived.Test.YtpljggoogodhlaaQ10
import Derived.Test.YtpljggoogodhlaaQ13
import Derived.Test.YtpljggoogodhlaaQ19
import Derived.Test.YtpljggoogodhlaaQ20
import Derived.Test.YtpljggoogodhlaaQ21
namespace Go.Proofs.Ytpljggoogodhlaa.Q
open Go.RowKit Go.Proofs.YtpljggoogodhlaaW.PrintWords Go.Proofs.YtpljggoogodhlaaW.PrintLast Go.Proofs.YtpljggoogodhlaaW.PrintMore Go.Proofs.YtpljggoogodhlaaM
attribute [local go_sem] max2_int min2_int max_two min_two max_three min_three max_four min_four   -- for this text's walks alone
set_option linter.unusedVariables false
set_option linter.unusedSimpArgs false

/-! ### jobshelllaw23_FdtabCounts: function 5 -/
def jobshelllaw23_FdtabCounts.f (k : Nat) (l0 : List (S24)) (a1 : Int) : Option (Bool) := (jobshelllaw23_short.f ([] : List (S36)) l0).bind fun t273 => (if t273 = true then ((fdtab_Hold.f l0 a1).bind fun bt275 => ((jobshellref23_Hold.f k l0 a1).bind fun bt279 => ((fdtab_Release.f k l0 a1).bind fun bt283 => ((jobshellref23_Release.f k l0 a1).bind fun bt288 => ((jobshellref23_SameDescs.f k bt275.1 bt279.1).bind fun t293 => (if t293 = true then (if bt275.2 = bt279.2 then ((jobshellref23_SameDescs.f k bt283.1 bt288.1).bind fun t294 => (if t294 = true then (if (bt283.2.1 == bt288.2.1) = true then (if bt283.2.2 = bt288.2.2 then ((jobshelllaw23_awake.f k).bind fun t295 => (some t295)) else (none)) else (none)) else (none))) else (none)) else (none))))))) else ((jobshelllaw23_awake.f k).bind fun t274 => (some t274)))
theorem jobshelllaw23_FdtabCounts.mono : ∀ a0 a1 k, LeO (jobshelllaw23_FdtabCounts.f k a0 a1) (jobshelllaw23_FdtabCounts.f (k + 1) a0 a1) := by
  intro a0 a1 k
  unfold jobshelllaw23_FdtabCounts.f
  repeat' first
      | (with_reducible exact fdtab_Release.mono _ _ _)
      | (with_reducible exact jobshelllaw23_awake.mono _)
      | (with_reducible exact jobshellref23_Hold.mono _ _ _)
      | (with_reducible exact jobshellref23_Release.mono _ _ _)
      | (with_reducible exact jobshellref23_SameDescs.mono _ _ _)
      | (with_reducible exact LeO.refl _)
      | (with_reducible exact LeO.none _)
      | (with_reducible refine LeO.ite ?_ ?_)
      | (with_reducible refine LeO.bind ?_ (fun _ => ?_))
      | exact fdtab_Release.mono _ _ _
      | exact jobshelllaw23_awake.mono _
      | exact jobshellref23_Hold.mono _ _ _
      | exact jobshellref23_Release.mono _ _ _
      | exact jobshellref23_SameDescs.mono _ _ _
      | exact LeO.none _
      | refine LeO.ite ?_ ?_
      | refine LeO.bind ?_ (fun _ => ?_)
set_option maxHeartbeats 8000000 in
set_option maxRecDepth 10000000 in
theorem jobshelllaw23_FdtabCounts.calls (k : Nat) (A0 : Option Addr) (c0 : Nat) (l0 : List (S24)) (a1 : Int) (r : Bool) (w : World) (hr0 : Kd.C k24 w A0 l0.length l0) (hc0 : l0.length ≤ c0) (h : jobshelllaw23_FdtabCounts.f k l0 a1 = some r) :
    Calls Try.prog 5 #[.slice A0 l0.length c0, .int .i64 a1] w fun e w' => e = .returned (.bool r) ∧ Below w.heap.size w w' := by
  have HR0 := Aside0.mk hr0
  have HC0 := Aside0.mk hc0
  clear hr0 hc0
  have HB := Aside0.mk (Below.refl w.heap.size w)
  have H : ((jobshelllaw23_short.f ([] : List (S36)) l0).bind fun t273 => (if t273 = true then ((fdtab_Hold.f l0 a1).bind fun bt275 => ((jobshellref23_Hold.f k l0 a1).bind fun bt279 => ((fdtab_Release.f k l0 a1).bind fun bt283 => ((jobshellref23_Release.f k l0 a1).bind fun bt288 => ((jobshellref23_SameDescs.f k bt275.1 bt279.1).bind fun t293 => (if t293 = true then (if bt275.2 = bt279.2 then ((jobshellref23_SameDescs.f k bt283.1 bt288.1).bind fun t294 => (if t294 = true then (if (bt283.2.1 == bt288.2.1) = true then (if bt283.2.2 = bt288.2.2 then ((jobshelllaw23_awake.f k).bind fun t295 => (some t295)) else (none)) else (none)) else (none))) else (none)) else (none))))))) else ((jobshelllaw23_awake.f k).bind fun t274 => (some t274)))) = some r := h
  clear h
  replace H := Option.bind_eq_some_iff.mp H
  obtain ⟨t273, A30, H⟩ := H
  replace H : (if t273 = true then ((fdtab_Hold.f l0 a1).bind fun bt275 => ((jobshellref23_Hold.f k l0 a1).bind fun bt279 => ((fdtab_Release.f k l0 a1).bind fun bt283 => ((jobshellref23_Release.f k l0 a1).bind fun bt288 => ((jobshellref23_SameDescs.f k bt275.1 bt279.1).bind fun t293 => (if t293 = true then (if bt275.2 = bt279.2 then ((jobshellref23_SameDescs.f k bt283.1 bt288.1).bind fun t294 => (if t294 = true then (if (bt283.2.1 == bt288.2.1) = true then (if bt283.2.2 = bt288.2.2 then ((jobshelllaw23_awake.f k).bind fun t295 => (some t295)) else (none)) else (none)) else (none))) else (none)) else (none))))))) else ((jobshelllaw23_awake.f k).bind fun t274 => (some t274))) = some r := H
  have A3 := Aside0.mk A30
  clear A30
  by_cases c4 : t273 = true
  · subst c4
    have H1 : ((fdtab_Hold.f l0 a1).bind fun bt275 => ((jobshellref23_Hold.f k l0 a1).bind fun bt279 => ((fdtab_Release.f k l0 a1).bind fun bt283 => ((jobshellref23_Release.f k l0 a1).bind fun bt288 => ((jobshellref23_SameDescs.f k bt275.1 bt279.1).bind fun t293 => (if t293 = true then (if bt275.2 = bt279.2 then ((jobshellref23_SameDescs.f k bt283.1 bt288.1).bind fun t294 => (if t294 = true then (if (bt283.2.1 == bt288.2.1) = true then (if bt283.2.2 = bt288.2.2 then ((jobshelllaw23_awake.f k).bind fun t295 => (some t295)) else (none)) else (none)) else (none))) else (none)) else (none))))))) = some r := by rw [if_pos rfl] at H; exact H
    clear H
    have H := H1
    clear H1
    replace H := Option.bind_eq_some_iff.mp H
    obtain ⟨⟨t275, t278⟩, A50, H⟩ := H
    replace H : ((jobshellref23_Hold.f k l0 a1).bind fun bt279 => ((fdtab_Release.f k l0 a1).bind fun bt283 => ((jobshellref23_Release.f k l0 a1).bind fun bt288 => ((jobshellref23_SameDescs.f k t275 bt279.1).bind fun t293 => (if t293 = true then (if t278 = bt279.2 then ((jobshellref23_SameDescs.f k bt283.1 bt288.1).bind fun t294 => (if t294 = true then (if (bt283.2.1 == bt288.2.1) = true then (if bt283.2.2 = bt288.2.2 then ((jobshelllaw23_awake.f k).bind fun t295 => (some t295)) else (none)) else (none)) else (none))) else (none)) else (none)))))) = some r := H
    have A5 := Aside0.mk A50
    clear A50
    replace H := Option.bind_eq_some_iff.mp H
    obtain ⟨⟨t279, t282⟩, A60, H⟩ := H
    replace H : ((fdtab_Release.f k l0 a1).bind fun bt283 => ((jobshellref23_Release.f k l0 a1).bind fun bt288 => ((jobshellref23_SameDescs.f k t275 t279).bind fun t293 => (if t293 = true then (if t278 = t282 then ((jobshellref23_SameDescs.f k bt283.1 bt288.1).bind fun t294 => (if t294 = true then (if (bt283.2.1 == bt288.2.1) = true then (if bt283.2.2 = bt288.2.2 then ((jobshelllaw23_awake.f k).bind fun t295 => (some t295)) else (none)) else (none)) else (none))) else (none)) else (none))))) = some r := H
    have A6 := Aside0.mk A60
    clear A60
    replace H := Option.bind_eq_some_iff.mp H
    obtain ⟨⟨t283, t286, t287⟩, A70, H⟩ := H
    replace H : ((jobshellref23_Release.f k l0 a1).bind fun bt288 => ((jobshellref23_SameDescs.f k t275 t279).bind fun t293 => (if t293 = true then (if t278 = t282 then ((jobshellref23_SameDescs.f k t283 bt288.1).bind fun t294 => (if t294 = true then (if (t286 == bt288.2.1) = true then (if t287 = bt288.2.2 then ((jobshelllaw23_awake.f k).bind fun t295 => (some t295)) else (none)) else (none)) else (none))) else (none)) else (none)))) = some r := H
    have A7 := Aside0.mk A70
    clear A70
    replace H := Option.bind_eq_some_iff.mp H
    obtain ⟨⟨t288, t291, t292⟩, A80, H⟩ := H
    replace H : ((jobshellref23_SameDescs.f k t275 t279).bind fun t293 => (if t293 = true then (if t278 = t282 then ((jobshellref23_SameDescs.f k t283 t288).bind fun t294 => (if t294 = true then (if (t286 == t291) = true then (if t287 = t292 then ((jobshelllaw23_awake.f k).bind fun t295 => (some t295)) else (none)) else (none)) else (none))) else (none)) else (none))) = some r := H
    have A8 := Aside0.mk A80
    clear A80
    replace H := Option.bind_eq_some_iff.mp H
    obtain ⟨t293, A90, H⟩ := H
    replace H : (if t293 = true then (if t278 = t282 then ((jobshellref23_SameDescs.f k t283 t288).bind fun t294 => (if t294 = true then (if (t286 == t291) = true then (if t287 = t292 then ((jobshelllaw23_awake.f k).bind fun t295 => (some t295)) else (none)) else (none)) else (none))) else (none)) else (none)) = some r := H
    have A9 := Aside0.mk A90
    clear A90
    by_cases c10 : t293 = true
    · subst c10
      have H1 : (if t278 = t282 then ((jobshellref23_SameDescs.f k t283 t288).bind fun t294 => (if t294 = true then (if (t286 == t291) = true then (if t287 = t292 then ((jobshelllaw23_awake.f k).bind fun t295 => (some t295)) else (none)) else (none)) else (none))) else (none)) = some r := by rw [if_pos rfl] at H; exact H
      clear H
      have H := H1
      clear H1
      by_cases c11 : t278 = t282
      · rw [if_pos c11] at H
        have c11b0 : (t278 == t282) = true := beq_iff_eq.mpr c11
        have c11b1 : (t278 != t282) = false := bne_eq_false_iff_eq.mpr c11
        clear c11
        replace H := Option.bind_eq_some_iff.mp H
        obtain ⟨t294, A120, H⟩ := H
        replace H : (if t294 = true then (if (t286 == t291) = true then (if t287 = t292 then ((jobshelllaw23_awake.f k).bind fun t295 => (some t295)) else (none)) else (none)) else (none)) = some r := H
        have A12 := Aside0.mk A120
        clear A120
        by_cases c13 : t294 = true
        · subst c13
          have H1 : (if (t286 == t291) = true then (if t287 = t292 then ((jobshelllaw23_awake.f k).bind fun t295 => (some t295)) else (none)) else (none)) = some r := by rw [if_pos rfl] at H; exact H
          clear H
          have H := H1
          clear H1
          by_cases c14 : (t286 == t291) = true
          · rw [if_pos c14] at H
            have c14b0 : (t286 == t291) = true := c14
            (try (have c14b1 : decide (t286 = t291) = true := by simpa using c14))
            (try (have c14b2 : (t286 == t291) = true := by simpa using c14))
            clear c14
            by_cases c15 : t287 = t292
            · rw [if_pos c15] at H
              have c15b0 : (t287 == t292) = true := beq_iff_eq.mpr c15
              have c15b1 : (t287 != t292) = false := bne_eq_false_iff_eq.mpr c15
              clear c15
              replace H := Option.bind_eq_some_iff.mp H
              obtain ⟨t295, A160, H⟩ := H
              replace H : (some t295) = some r := H
              have A16 := Aside0.mk A160
              clear A160
              obtain rfl := Option.some.inj H
              go_enter Try.func5, Try.ntmps5
              go_wp2_with (first | ((with_reducible refine gate_callee (f := 9) rfl ?_); refine goesL_ (some 16) rfl rfl Try.func9 (by kernel_rfl) rfl #[.slice none 0 0, .slice A0 l0.length c0] rfl (by (try simp only [List.map_toArray, List.map_cons, List.map_nil]); first | done | rfl | (simp only [List.length_drop, List.length_take]; rfl)) ?_; (refine (jobshelllaw23_short.calls _ _ ([] : List (S36)) _ _ l0 true _ ?side1 ?side2 ?side3 ?side4 A3.out).mono ?_); (case side1 => exact Kd.C_nil _ _); (case side2 => exact Nat.le_refl _); (case side3 => repeat (first | exact HR0.out | (with_reducible refine Kd.C_alloc ?_ _) | (with_reducible refine Kd.C_drewN ?_ _) | (with_reducible refine Kd.C_drew ?_))); (case side4 => exact HC0.out); rintro e w' ⟨rfl, ⟨nd, rfl⟩⟩; refine ⟨_, rfl, ?_⟩) | ((with_reducible refine gate_callee (f := 20) rfl ?_); refine goesL_ (some 22) rfl rfl Try.func20 (by kernel_rfl) rfl #[.slice A0 l0.length c0, .int .i64 a1] rfl (by (try simp only [List.map_toArray, List.map_cons, List.map_nil]); first | done | rfl | (simp only [List.length_drop, List.length_take]; rfl)) ?_; (with_reducible refine (fdtab_Hold.calls (fun k_ => k_ < w.heap.size) _ _ l0 a1 t275 t278 _ ?side1 A5.out).mono ?_); (case side1 => exact Kd.V_mk HC0.out (Kd.F_below (Kd.C_F k24_heap HR0.out) (by repeat (first | (with_reducible first | exact HB.out | apply below_alloc | apply pw_below_drewN | apply below_drew1) | exact HB.out)))); rintro e w17 ⟨v276, rfl, ho0, hb⟩; refine ⟨_, rfl, ?_⟩; have n0_ := Aside0.mk (Kd.V_lower (Kd.V_mono (ok' := fun k_ => True) ho0 (fun k_ hk_ => trivial)) (below_size (by repeat (first | (with_reducible first | exact HB.out | apply below_alloc | apply pw_below_drewN | apply below_drew1) | exact HB.out)))); have n1_ := Aside0.mk (below_step (by repeat (first | (with_reducible first | exact HB.out | apply below_alloc | apply pw_below_drewN | apply below_drew1) | exact HB.out)) hb); clear HB; have HO277 := n0_; have HB := n1_; clear n0_ n1_; (try clear hb); (try clear hb2); (try clear hk); (try clear hi); (try clear ho0)) | ((with_reducible refine gate_callee (f := 21) rfl ?_); refine goesL_ (some 28) rfl rfl Try.func21 (by kernel_rfl) rfl #[.slice A0 l0.length c0, .int .i64 a1] rfl (by (try simp only [List.map_toArray, List.map_cons, List.map_nil]); first | done | rfl | (simp only [List.length_drop, List.length_take]; rfl)) ?_; (with_reducible refine (jobshellref23_Hold.calls k (fun k_ => k_ < w.heap.size) _ _ l0 a1 t279 t282 _ ?side1 A6.out).mono ?_); (case side1 => exact Kd.V_mk HC0.out (Kd.F_below (Kd.C_F k24_heap HR0.out) (by repeat (first | (with_reducible first | exact HB.out | apply below_alloc | apply pw_below_drewN | apply below_drew1) | exact HB.out)))); rintro e w18 ⟨v280, rfl, ho0, hb⟩; refine ⟨_, rfl, ?_⟩; have n0_ := Aside0.mk (Kd.V_below (by (with_reducible repeat (first | apply Kd.V_alloc | apply Kd.V_drewN | apply Kd.V_drew)); exact HO277.out) hb); have n1_ := Aside0.mk (Kd.V_lower (Kd.V_mono (ok' := fun k_ => True) ho0 (fun k_ hk_ => trivial)) (below_size (by repeat (first | (with_reducible first | exact HB.out | apply below_alloc | apply pw_below_drewN | apply below_drew1) | exact HB.out)))); have n2_ := Aside0.mk (below_step (by repeat (first | (with_reducible first | exact HB.out | apply below_alloc | apply pw_below_drewN | apply below_drew1) | exact HB.out)) hb); clear HO277; clear HB; have HO277 := n0_; have HO281 := n1_; have HB := n2_; clear n0_ n1_ n2_; (try clear hb); (try clear hb2); (try clear hk); (try clear hi); (try clear ho0)) | ((with_reducible refine gate_callee (f := 22) rfl ?_); refine goesL_ (some 34) rfl rfl Try.func22 (by kernel_rfl) rfl #[.slice A0 l0.length c0, .int .i64 a1] rfl (by (try simp only [List.map_toArray, List.map_cons, List.map_nil]); first | done | rfl | (simp only [List.length_drop, List.length_take]; rfl)) ?_; (with_reducible refine (fdtab_Release.calls k (fun k_ => k_ < w.heap.size) _ _ l0 a1 t283 t286 t287 _ ?side1 A7.out).mono ?_); (case side1 => exact Kd.V_mk HC0.out (Kd.F_below (Kd.C_F k24_heap HR0.out) (by repeat (first | (with_reducible first | exact HB.out | apply below_alloc | apply pw_below_drewN | apply below_drew1) | exact HB.out)))); rintro e w19 ⟨v284, rfl, ho0, hb⟩; refine ⟨_, rfl, ?_⟩; have n0_ := Aside0.mk (Kd.V_below (by (with_reducible repeat (first | apply Kd.V_alloc | apply Kd.V_drewN | apply Kd.V_drew)); exact HO277.out) hb); have n1_ := Aside0.mk (Kd.V_below (by (with_reducible repeat (first | apply Kd.V_alloc | apply Kd.V_drewN | apply Kd.V_drew)); exact HO281.out) hb); have n2_ := Aside0.mk (Kd.V_lower (Kd.V_mono (ok' := fun k_ => True) ho0 (fun k_ hk_ => trivial)) (below_size (by repeat (first | (with_reducible first | exact HB.out | apply below_alloc | apply pw_below_drewN | apply below_drew1) | exact HB.out)))); have n3_ := Aside0.mk (below_step (by repeat (first | (with_reducible first | exact HB.out | apply below_alloc | apply pw_below_drewN | apply below_drew1) | exact HB.out)) hb); clear HO277; clear HO281; clear HB; have HO277 := n0_; have HO281 := n1_; have HO285 := n2_; have HB := n3_; clear n0_ n1_ n2_ n3_; (try clear hb); (try clear hb2); (try clear hk); (try clear hi); (try clear ho0)) | ((with_reducible refine gate_callee (f := 23) rfl ?_); refine goesL_ (some 41) rfl rfl Try.func23 (by kernel_rfl) rfl #[.slice A0 l0.length c0, .int .i64 a1] rfl (by (try simp only [List.map_toArray, List.map_cons, List.map_nil]); first | done | rfl | (simp only [List.length_drop, List.length_take]; rfl)) ?_; (with_reducible refine (jobshellref23_Release.calls k (fun k_ => k_ < w.heap.size) _ _ l0 a1 t288 t291 t292 _ ?side1 A8.out).mono ?_); (case side1 => exact Kd.V_mk HC0.out (Kd.F_below (Kd.C_F k24_heap HR0.out) (by repeat (first | (with_reducible first | exact HB.out | apply below_alloc | apply pw_below_drewN | apply below_drew1) | exact HB.out)))); rintro e w20 ⟨v289, rfl, ho0, hb⟩; refine ⟨_, rfl, ?_⟩; have n0_ := Aside0.mk (Kd.V_below (by (with_reducible repeat (first | apply Kd.V_alloc | apply Kd.V_drewN | apply Kd.V_drew)); exact HO277.out) hb); have n1_ := Aside0.mk (Kd.V_below (by (with_reducible repeat (first | apply Kd.V_alloc | apply Kd.V_drewN | apply Kd.V_drew)); exact HO281.out) hb); have n2_ := Aside0.mk (Kd.V_below (by (with_reducible repeat (first | apply Kd.V_alloc | apply Kd.V_drewN | apply Kd.V_drew)); exact HO285.out) hb); have n3_ := Aside0.mk (Kd.V_lower (Kd.V_mono (ok' := fun k_ => True) ho0 (fun k_ hk_ => trivial)) (below_size (by repeat (first | (with_reducible first | exact HB.out | apply below_alloc | apply pw_below_drewN | apply below_drew1) | exact HB.out)))); have n4_ := Aside0.mk (below_step (by repeat (first | (with_reducible first | exact HB.out | apply below_alloc | apply pw_below_drewN | apply below_drew1) | exact HB.out)) hb); clear HO277; clear HO281; clear HO285; clear HB; have HO277 := n0_; have HO281 := n1_; have HO285 := n2_; have HO290 := n3_; have HB := n4_; clear n0_ n1_ n2_ n3_ n4_; (try clear hb); (try clear hb2); (try clear hk); (try clear hi); (try clear ho0); obtain ⟨Ao21, co21, eo21⟩ := Kd.V_slice HO277.out; subst eo21; obtain ⟨Ao22, co22, eo22⟩ := Kd.V_slice HO281.out; subst eo22) | ((with_reducible refine gate_callee (f := 13) rfl ?_); refine goesL_ (some 47) rfl rfl Try.func13 (by kernel_rfl) rfl #[.slice Ao21 t275.length co21, .slice Ao22 t279.length co22] rfl (by (try simp only [List.map_toArray, List.map_cons, List.map_nil]); first | done | rfl | (simp only [List.length_drop, List.length_take]; rfl)) ?_; (with_reducible refine (jobshellref23_SameDescs.calls k _ _ t275 _ _ t279 true _ ?side1 ?side2 ?side3 ?side4 A9.out).mono ?_); (case side1 => repeat (first | exact (Kd.V_reads' HO277.out).2.2 | (with_reducible refine Kd.C_alloc ?_ _) | (with_reducible refine Kd.C_drewN ?_ _) | (with_reducible refine Kd.C_drew ?_))); (case side2 => exact (Kd.V_reads' HO277.out).2.1); (case side3 => repeat (first | exact (Kd.V_reads' HO281.out).2.2 | (with_reducible refine Kd.C_alloc ?_ _) | (with_reducible refine Kd.C_drewN ?_ _) | (with_reducible refine Kd.C_drew ?_))); (case side4 => exact (Kd.V_reads' HO281.out).2.1); rintro e w' ⟨rfl, ⟨nd, rfl⟩⟩; refine ⟨_, rfl, ?_⟩; obtain ⟨Ao23, co23, eo23⟩ := Kd.V_slice HO285.out; subst eo23; obtain ⟨Ao24, co24, eo24⟩ := Kd.V_slice HO290.out; subst eo24) | (go_at_call 13; (with_reducible refine (jobshellref23_SameDescs.calls k _ _ t283 _ _ t288 true _ ?side1 ?side2 ?side3 ?side4 A12.out).mono ?_); (case side1 => repeat (first | exact (Kd.V_reads' HO285.out).2.2 | (with_reducible refine Kd.C_alloc ?_ _) | (with_reducible refine Kd.C_drewN ?_ _) | (with_reducible refine Kd.C_drew ?_))); (case side2 => exact (Kd.V_reads' HO285.out).2.1); (case side3 => repeat (first | exact (Kd.V_reads' HO290.out).2.2 | (with_reducible refine Kd.C_alloc ?_ _) | (with_reducible refine Kd.C_drewN ?_ _) | (with_reducible refine Kd.C_drew ?_))); (case side4 => exact (Kd.V_reads' HO290.out).2.1); rintro e w' ⟨rfl, ⟨nd, rfl⟩⟩) | (go_at_call 10; (with_reducible refine (jobshelllaw23_awake.calls k  t295 _ A16.out).mono ?_); rintro e w25 ⟨rfl, hb⟩; have n0_ := Aside0.mk (Kd.V_below (by (with_reducible repeat (first | apply Kd.V_alloc | apply Kd.V_drewN | apply Kd.V_drew)); exact HO277.out) hb); have n1_ := Aside0.mk (Kd.V_below (by (with_reducible repeat (first | apply Kd.V_alloc | apply Kd.V_drewN | apply Kd.V_drew)); exact HO281.out) hb); have n2_ := Aside0.mk (Kd.V_below (by (with_reducible repeat (first | apply Kd.V_alloc | apply Kd.V_drewN | apply Kd.V_drew)); exact HO285.out) hb); have n3_ := Aside0.mk (Kd.V_below (by (with_reducible repeat (first | apply Kd.V_alloc | apply Kd.V_drewN | apply Kd.V_drew)); exact HO290.out) hb); have n4_ := Aside0.mk (below_step (by repeat (first | (with_reducible first | exact HB.out | apply below_alloc | apply pw_below_drewN | apply below_drew1) | exact HB.out)) hb); clear HO277; clear HO281; clear HO285; clear HO290; clear HB; have HO277 := n0_; have HO281 := n1_; have HO285 := n2_; have HO290 := n3_; have HB := n4_; clear n0_ n1_ n2_ n3_ n4_; (try clear hb); (try clear hb2); (try clear hk); (try clear hi)))
              go_ret
              exact ⟨by first | rfl | (simp [errW_none, errW_some] <;> rfl) | (simp [*, errW_none, errW_some] <;> rfl), by repeat (first | (with_reducible first | exact HB.out | apply below_alloc | apply pw_below_drewN | apply below_drew1) | exact HB.out)⟩
            · rw [if_neg c15] at H
              exact absurd H (by simp)
          · rw [if_neg c14] at H
            exact absurd H (by simp)
        · replace c13 := Bool.eq_false_iff.mpr c13
          subst c13
          have H1 : (none) = some r := by rw [if_neg (show ¬ (false = true) by decide)] at H; exact H
          clear H
          have H := H1
          clear H1
          exact absurd H (by simp)
      · rw [if_neg c11] at H
        exact absurd H (by simp)
    · replace c10 := Bool.eq_false_iff.mpr c10
      subst c10
      have H1 : (none) = some r := by rw [if_neg (show ¬ (false = true) by decide)] at H; exact H
      clear H
      have H := H1
      clear H1
      exact absurd H (by simp)
  · replace c4 := Bool.eq_false_iff.mpr c4
    subst c4
    have H1 : ((jobshelllaw23_awake.f k).bind fun t274 => (some t274)) = some r := by rw [if_neg (show ¬ (false = true) by decide)] at H; exact H
    clear H
    have H := H1
    clear H1
    replace H := Option.bind_eq_some_iff.mp H
    obtain ⟨t274, A260, H⟩ := H
    replace H : (some t274) = some r := H
    have A26 := Aside0.mk A260
    clear A260
    obtain rfl := Option.some.inj H
    go_enter Try.func5, Try.ntmps5
    go_wp2_with (first | ((with_reducible refine gate_callee (f := 9) rfl ?_); refine goesL_ (some 16) rfl rfl Try.func9 (by kernel_rfl) rfl #[.slice none 0 0, .slice A0 l0.length c0] rfl (by (try simp only [List.map_toArray, List.map_cons, List.map_nil]); first | done | rfl | (simp only [List.length_drop, List.length_take]; rfl)) ?_; (refine (jobshelllaw23_short.calls _ _ ([] : List (S36)) _ _ l0 false _ ?side1 ?side2 ?side3 ?side4 A3.out).mono ?_); (case side1 => exact Kd.C_nil _ _); (case side2 => exact Nat.le_refl _); (case side3 => repeat (first | exact HR0.out | (with_reducible refine Kd.C_alloc ?_ _) | (with_reducible refine Kd.C_drewN ?_ _) | (with_reducible refine Kd.C_drew ?_))); (case side4 => exact HC0.out); rintro e w' ⟨rfl, ⟨nd, rfl⟩⟩; refine ⟨_, rfl, ?_⟩) | ((with_reducible refine gate_callee (f := 10) rfl ?_); refine goesL_ (some 18) rfl rfl Try.func10 (by kernel_rfl) rfl #[] rfl (by (try simp only [List.map_toArray, List.map_cons, List.map_nil]); first | done | rfl | (simp only [List.length_drop, List.length_take]; rfl)) ?_; (with_reducible refine (jobshelllaw23_awake.calls k  t274 _ A26.out).mono ?_); rintro e w27 ⟨rfl, hb⟩; refine ⟨_, rfl, ?_⟩; have n0_ := Aside0.mk (below_step (by repeat (first | (with_reducible first | exact HB.out | apply below_alloc | apply pw_below_drewN | apply below_drew1) | exact HB.out)) hb); clear HB; have HB := n0_; clear n0_; (try clear hb); (try clear hb2); (try clear hk); (try clear hi)))
    go_ret
    exact ⟨by first | rfl | (simp [errW_none, errW_some] <;> rfl) | (simp [*, errW_none, errW_some] <;> rfl), by repeat (first | (with_reducible first | exact HB.out | apply below_alloc | apply pw_below_drewN | apply below_drew1) | exact HB.out)⟩

end Go.Proofs.Ytpljggoogodhlaa.Q
