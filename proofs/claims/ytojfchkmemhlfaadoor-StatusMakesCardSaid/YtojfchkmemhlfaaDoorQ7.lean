-- Written by wip/tool/myprint.py, a program of this repo that drives the kit's print over hand-written contracts; Lean checks it.
import Derived.Test.YtojfchkmemhlfaaDoorQ0
import Derived.Test.YtojfchkmemhlfaaDoorQ1
import Derived.Test.YtojfchkmemhlfaaDoorQ6
namespace Go.Proofs.YtojfchkmemhlfaaDoor.Q
open Go.RowKit Go.Proofs.YtojfchkmemhlfaaDoorW.PrintWords Go.Proofs.YtojfchkmemhlfaaDoorW.PrintLast Go.Proofs.YtojfchkmemhlfaaDoorW.PrintMore Go.Proofs.YtojfchkmemhlfaaDoorM
attribute [local go_sem] max2_int min2_int max_two min_two max_three min_three max_four min_four   -- for this text's walks alone
set_option linter.unusedVariables false
set_option linter.unusedSimpArgs false

/-! ### jobshelllaw22_StatusMakes: function 3 -/
def jobshelllaw22_StatusMakes.f (k : Nat) (a0 : Int) (a1 : Int) : Option (Bool) := (status_Exited.f a0).bind fun t123 => ((jobshellref22_Exited.f a0).bind fun t124 => (if t123 = t124 then ((status_Killed.f a1).bind fun t125 => ((jobshellref22_Killed.f a1).bind fun t126 => (if t125 = t126 then ((status_Stopped.f a1).bind fun t127 => ((jobshellref22_Stopped.f a1).bind fun t128 => (if t127 = t128 then ((status_Continued.f).bind fun t129 => ((jobshellref22_Continued.f).bind fun t130 => (if t129 = t130 then ((jobshelllaw22_awake.f k).bind fun t131 => (some t131)) else (some false)))) else (some false)))) else (some false)))) else (some false)))
theorem jobshelllaw22_StatusMakes.mono : ∀ a0 a1 k, LeO (jobshelllaw22_StatusMakes.f k a0 a1) (jobshelllaw22_StatusMakes.f (k + 1) a0 a1) := by
  intro a0 a1 k
  unfold jobshelllaw22_StatusMakes.f
  repeat' first
      | (with_reducible exact jobshelllaw22_awake.mono _)
      | (with_reducible exact LeO.refl _)
      | (with_reducible exact LeO.none _)
      | (with_reducible refine LeO.ite ?_ ?_)
      | (with_reducible refine LeO.bind ?_ (fun _ => ?_))
      | exact jobshelllaw22_awake.mono _
      | exact LeO.none _
      | refine LeO.ite ?_ ?_
      | refine LeO.bind ?_ (fun _ => ?_)
set_option maxHeartbeats 8000000 in
set_option maxRecDepth 10000000 in
theorem jobshelllaw22_StatusMakes.calls (k : Nat) (a0 : Int) (a1 : Int) (r : Bool) (w : World) (ht_ : Aside0 (TabAt w)) (h : jobshelllaw22_StatusMakes.f k a0 a1 = some r) :
    Calls Tryd.prog 3 #[.int .i64 a0, .int .i64 a1] w fun e w' => e = .returned (.bool r) ∧ Below w.heap.size w w' := by
  have HB := Aside0.mk (Below.refl w.heap.size w)
  have H : ((status_Exited.f a0).bind fun t123 => ((jobshellref22_Exited.f a0).bind fun t124 => (if t123 = t124 then ((status_Killed.f a1).bind fun t125 => ((jobshellref22_Killed.f a1).bind fun t126 => (if t125 = t126 then ((status_Stopped.f a1).bind fun t127 => ((jobshellref22_Stopped.f a1).bind fun t128 => (if t127 = t128 then ((status_Continued.f).bind fun t129 => ((jobshellref22_Continued.f).bind fun t130 => (if t129 = t130 then ((jobshelllaw22_awake.f k).bind fun t131 => (some t131)) else (some false)))) else (some false)))) else (some false)))) else (some false)))) = some r := h
  clear h
  replace H := Option.bind_eq_some_iff.mp H
  obtain ⟨t123, A30, H⟩ := H
  replace H : ((jobshellref22_Exited.f a0).bind fun t124 => (if t123 = t124 then ((status_Killed.f a1).bind fun t125 => ((jobshellref22_Killed.f a1).bind fun t126 => (if t125 = t126 then ((status_Stopped.f a1).bind fun t127 => ((jobshellref22_Stopped.f a1).bind fun t128 => (if t127 = t128 then ((status_Continued.f).bind fun t129 => ((jobshellref22_Continued.f).bind fun t130 => (if t129 = t130 then ((jobshelllaw22_awake.f k).bind fun t131 => (some t131)) else (some false)))) else (some false)))) else (some false)))) else (some false))) = some r := H
  have A3 := Aside0.mk A30
  clear A30
  replace H := Option.bind_eq_some_iff.mp H
  obtain ⟨t124, A40, H⟩ := H
  replace H : (if t123 = t124 then ((status_Killed.f a1).bind fun t125 => ((jobshellref22_Killed.f a1).bind fun t126 => (if t125 = t126 then ((status_Stopped.f a1).bind fun t127 => ((jobshellref22_Stopped.f a1).bind fun t128 => (if t127 = t128 then ((status_Continued.f).bind fun t129 => ((jobshellref22_Continued.f).bind fun t130 => (if t129 = t130 then ((jobshelllaw22_awake.f k).bind fun t131 => (some t131)) else (some false)))) else (some false)))) else (some false)))) else (some false)) = some r := H
  have A4 := Aside0.mk A40
  clear A40
  by_cases c5 : t123 = t124
  · rw [if_pos c5] at H
    have c5b0 : (t123 == t124) = true := beq_iff_eq.mpr c5
    have c5b1 : (t123 != t124) = false := bne_eq_false_iff_eq.mpr c5
    clear c5
    replace H := Option.bind_eq_some_iff.mp H
    obtain ⟨t125, A60, H⟩ := H
    replace H : ((jobshellref22_Killed.f a1).bind fun t126 => (if t125 = t126 then ((status_Stopped.f a1).bind fun t127 => ((jobshellref22_Stopped.f a1).bind fun t128 => (if t127 = t128 then ((status_Continued.f).bind fun t129 => ((jobshellref22_Continued.f).bind fun t130 => (if t129 = t130 then ((jobshelllaw22_awake.f k).bind fun t131 => (some t131)) else (some false)))) else (some false)))) else (some false))) = some r := H
    have A6 := Aside0.mk A60
    clear A60
    replace H := Option.bind_eq_some_iff.mp H
    obtain ⟨t126, A70, H⟩ := H
    replace H : (if t125 = t126 then ((status_Stopped.f a1).bind fun t127 => ((jobshellref22_Stopped.f a1).bind fun t128 => (if t127 = t128 then ((status_Continued.f).bind fun t129 => ((jobshellref22_Continued.f).bind fun t130 => (if t129 = t130 then ((jobshelllaw22_awake.f k).bind fun t131 => (some t131)) else (some false)))) else (some false)))) else (some false)) = some r := H
    have A7 := Aside0.mk A70
    clear A70
    by_cases c8 : t125 = t126
    · rw [if_pos c8] at H
      have c8b0 : (t125 == t126) = true := beq_iff_eq.mpr c8
      have c8b1 : (t125 != t126) = false := bne_eq_false_iff_eq.mpr c8
      clear c8
      replace H := Option.bind_eq_some_iff.mp H
      obtain ⟨t127, A90, H⟩ := H
      replace H : ((jobshellref22_Stopped.f a1).bind fun t128 => (if t127 = t128 then ((status_Continued.f).bind fun t129 => ((jobshellref22_Continued.f).bind fun t130 => (if t129 = t130 then ((jobshelllaw22_awake.f k).bind fun t131 => (some t131)) else (some false)))) else (some false))) = some r := H
      have A9 := Aside0.mk A90
      clear A90
      replace H := Option.bind_eq_some_iff.mp H
      obtain ⟨t128, A100, H⟩ := H
      replace H : (if t127 = t128 then ((status_Continued.f).bind fun t129 => ((jobshellref22_Continued.f).bind fun t130 => (if t129 = t130 then ((jobshelllaw22_awake.f k).bind fun t131 => (some t131)) else (some false)))) else (some false)) = some r := H
      have A10 := Aside0.mk A100
      clear A100
      by_cases c11 : t127 = t128
      · rw [if_pos c11] at H
        have c11b0 : (t127 == t128) = true := beq_iff_eq.mpr c11
        have c11b1 : (t127 != t128) = false := bne_eq_false_iff_eq.mpr c11
        clear c11
        replace H := Option.bind_eq_some_iff.mp H
        obtain ⟨t129, A120, H⟩ := H
        replace H : ((jobshellref22_Continued.f).bind fun t130 => (if t129 = t130 then ((jobshelllaw22_awake.f k).bind fun t131 => (some t131)) else (some false))) = some r := H
        have A12 := Aside0.mk A120
        clear A120
        replace H := Option.bind_eq_some_iff.mp H
        obtain ⟨t130, A130, H⟩ := H
        replace H : (if t129 = t130 then ((jobshelllaw22_awake.f k).bind fun t131 => (some t131)) else (some false)) = some r := H
        have A13 := Aside0.mk A130
        clear A130
        by_cases c14 : t129 = t130
        · rw [if_pos c14] at H
          have c14b0 : (t129 == t130) = true := beq_iff_eq.mpr c14
          have c14b1 : (t129 != t130) = false := bne_eq_false_iff_eq.mpr c14
          clear c14
          replace H := Option.bind_eq_some_iff.mp H
          obtain ⟨t131, A150, H⟩ := H
          replace H : (some t131) = some r := H
          have A15 := Aside0.mk A150
          clear A150
          obtain rfl := Option.some.inj H
          go_enter Tryd.func3, Tryd.ntmps3
          go_wp2_with (first | ((with_reducible refine gate_callee (f := 8) rfl ?_); refine goesL_ (some 6) rfl rfl Tryd.func8 (by kernel_rfl) rfl #[.int .i64 a0] rfl (by (try simp only [List.map_toArray, List.map_cons, List.map_nil]); first | done | rfl | (simp only [List.length_drop, List.length_take]; rfl)) ?_; (with_reducible refine (status_Exited.calls a0 t123 _ A3.out).mono ?_); rintro e w' ⟨rfl, ⟨nd, rfl⟩⟩; refine ⟨_, rfl, ?_⟩) | ((with_reducible refine gate_callee (f := 9) rfl ?_); refine goesL_ (some 8) rfl rfl Tryd.func9 (by kernel_rfl) rfl #[.int .i64 a0] rfl (by (try simp only [List.map_toArray, List.map_cons, List.map_nil]); first | done | rfl | (simp only [List.length_drop, List.length_take]; rfl)) ?_; (with_reducible refine (jobshellref22_Exited.calls a0 t124 _ A4.out).mono ?_); rintro e w' ⟨rfl, ⟨nd, rfl⟩⟩; refine ⟨_, rfl, ?_⟩) | (go_at_call 10; (with_reducible refine (status_Killed.calls a1 t125 _ A6.out).mono ?_); rintro e w' ⟨rfl, ⟨nd, rfl⟩⟩) | (go_at_call 11; (with_reducible refine (jobshellref22_Killed.calls a1 t126 _ A7.out).mono ?_); rintro e w' ⟨rfl, ⟨nd, rfl⟩⟩) | (go_at_call 12; (with_reducible refine (status_Stopped.calls a1 t127 _ A9.out).mono ?_); rintro e w' ⟨rfl, ⟨nd, rfl⟩⟩) | (go_at_call 13; (with_reducible refine (jobshellref22_Stopped.calls a1 t128 _ A10.out).mono ?_); rintro e w' ⟨rfl, ⟨nd, rfl⟩⟩) | (go_at_call 14; (with_reducible refine (status_Continued.calls  t129 _ A12.out).mono ?_); rintro e w' ⟨rfl, ⟨nd, rfl⟩⟩) | (go_at_call 15; (with_reducible refine (jobshellref22_Continued.calls  t130 _ A13.out).mono ?_); rintro e w' ⟨rfl, ⟨nd, rfl⟩⟩) | (go_at_call 16; (with_reducible refine (jobshelllaw22_awake.calls k  t131 _ ⟨ht_.out.below (by repeat (first | (with_reducible first | exact HB.out | apply below_alloc | apply pw_below_drewN | apply below_drew1) | exact HB.out))⟩ A15.out).mono ?_); rintro e w16 ⟨rfl, hb⟩; have n0_ := Aside0.mk (below_step (by repeat (first | (with_reducible first | exact HB.out | apply below_alloc | apply pw_below_drewN | apply below_drew1) | exact HB.out)) hb); clear HB; have HB := n0_; clear n0_; (try clear hb); (try clear hb2); (try clear hk); (try clear hi)))
          go_ret
          exact ⟨by first | rfl | (simp [errW_none, errW_some] <;> rfl) | (simp [*, errW_none, errW_some] <;> rfl), by repeat (first | (with_reducible first | exact HB.out | apply below_alloc | apply pw_below_drewN | apply below_drew1) | exact HB.out)⟩
        · rw [if_neg c14] at H
          have c14b0 : (t129 == t130) = false := beq_eq_false_iff_ne.mpr c14
          have c14b1 : (t129 != t130) = true := bne_iff_ne.mpr c14
          obtain rfl := Option.some.inj H
          go_enter Tryd.func3, Tryd.ntmps3
          go_wp2_with (first | ((with_reducible refine gate_callee (f := 8) rfl ?_); refine goesL_ (some 6) rfl rfl Tryd.func8 (by kernel_rfl) rfl #[.int .i64 a0] rfl (by (try simp only [List.map_toArray, List.map_cons, List.map_nil]); first | done | rfl | (simp only [List.length_drop, List.length_take]; rfl)) ?_; (with_reducible refine (status_Exited.calls a0 t123 _ A3.out).mono ?_); rintro e w' ⟨rfl, ⟨nd, rfl⟩⟩; refine ⟨_, rfl, ?_⟩) | ((with_reducible refine gate_callee (f := 9) rfl ?_); refine goesL_ (some 8) rfl rfl Tryd.func9 (by kernel_rfl) rfl #[.int .i64 a0] rfl (by (try simp only [List.map_toArray, List.map_cons, List.map_nil]); first | done | rfl | (simp only [List.length_drop, List.length_take]; rfl)) ?_; (with_reducible refine (jobshellref22_Exited.calls a0 t124 _ A4.out).mono ?_); rintro e w' ⟨rfl, ⟨nd, rfl⟩⟩; refine ⟨_, rfl, ?_⟩) | (go_at_call 10; (with_reducible refine (status_Killed.calls a1 t125 _ A6.out).mono ?_); rintro e w' ⟨rfl, ⟨nd, rfl⟩⟩) | (go_at_call 11; (with_reducible refine (jobshellref22_Killed.calls a1 t126 _ A7.out).mono ?_); rintro e w' ⟨rfl, ⟨nd, rfl⟩⟩) | (go_at_call 12; (with_reducible refine (status_Stopped.calls a1 t127 _ A9.out).mono ?_); rintro e w' ⟨rfl, ⟨nd, rfl⟩⟩) | (go_at_call 13; (with_reducible refine (jobshellref22_Stopped.calls a1 t128 _ A10.out).mono ?_); rintro e w' ⟨rfl, ⟨nd, rfl⟩⟩) | (go_at_call 14; (with_reducible refine (status_Continued.calls  t129 _ A12.out).mono ?_); rintro e w' ⟨rfl, ⟨nd, rfl⟩⟩) | (go_at_call 15; (with_reducible refine (jobshellref22_Continued.calls  t130 _ A13.out).mono ?_); rintro e w' ⟨rfl, ⟨nd, rfl⟩⟩))
          go_ret
          exact ⟨by first | rfl | (simp [errW_none, errW_some] <;> rfl) | (simp [*, errW_none, errW_some] <;> rfl), by repeat (first | (with_reducible first | exact HB.out | apply below_alloc | apply pw_below_drewN | apply below_drew1) | exact HB.out)⟩
      · rw [if_neg c11] at H
        have c11b0 : (t127 == t128) = false := beq_eq_false_iff_ne.mpr c11
        have c11b1 : (t127 != t128) = true := bne_iff_ne.mpr c11
        obtain rfl := Option.some.inj H
        go_enter Tryd.func3, Tryd.ntmps3
        go_wp2_with (first | ((with_reducible refine gate_callee (f := 8) rfl ?_); refine goesL_ (some 6) rfl rfl Tryd.func8 (by kernel_rfl) rfl #[.int .i64 a0] rfl (by (try simp only [List.map_toArray, List.map_cons, List.map_nil]); first | done | rfl | (simp only [List.length_drop, List.length_take]; rfl)) ?_; (with_reducible refine (status_Exited.calls a0 t123 _ A3.out).mono ?_); rintro e w' ⟨rfl, ⟨nd, rfl⟩⟩; refine ⟨_, rfl, ?_⟩) | ((with_reducible refine gate_callee (f := 9) rfl ?_); refine goesL_ (some 8) rfl rfl Tryd.func9 (by kernel_rfl) rfl #[.int .i64 a0] rfl (by (try simp only [List.map_toArray, List.map_cons, List.map_nil]); first | done | rfl | (simp only [List.length_drop, List.length_take]; rfl)) ?_; (with_reducible refine (jobshellref22_Exited.calls a0 t124 _ A4.out).mono ?_); rintro e w' ⟨rfl, ⟨nd, rfl⟩⟩; refine ⟨_, rfl, ?_⟩) | (go_at_call 10; (with_reducible refine (status_Killed.calls a1 t125 _ A6.out).mono ?_); rintro e w' ⟨rfl, ⟨nd, rfl⟩⟩) | (go_at_call 11; (with_reducible refine (jobshellref22_Killed.calls a1 t126 _ A7.out).mono ?_); rintro e w' ⟨rfl, ⟨nd, rfl⟩⟩) | (go_at_call 12; (with_reducible refine (status_Stopped.calls a1 t127 _ A9.out).mono ?_); rintro e w' ⟨rfl, ⟨nd, rfl⟩⟩) | (go_at_call 13; (with_reducible refine (jobshellref22_Stopped.calls a1 t128 _ A10.out).mono ?_); rintro e w' ⟨rfl, ⟨nd, rfl⟩⟩))
        go_ret
        exact ⟨by first | rfl | (simp [errW_none, errW_some] <;> rfl) | (simp [*, errW_none, errW_some] <;> rfl), by repeat (first | (with_reducible first | exact HB.out | apply below_alloc | apply pw_below_drewN | apply below_drew1) | exact HB.out)⟩
    · rw [if_neg c8] at H
      have c8b0 : (t125 == t126) = false := beq_eq_false_iff_ne.mpr c8
      have c8b1 : (t125 != t126) = true := bne_iff_ne.mpr c8
      obtain rfl := Option.some.inj H
      go_enter Tryd.func3, Tryd.ntmps3
      go_wp2_with (first | ((with_reducible refine gate_callee (f := 8) rfl ?_); refine goesL_ (some 6) rfl rfl Tryd.func8 (by kernel_rfl) rfl #[.int .i64 a0] rfl (by (try simp only [List.map_toArray, List.map_cons, List.map_nil]); first | done | rfl | (simp only [List.length_drop, List.length_take]; rfl)) ?_; (with_reducible refine (status_Exited.calls a0 t123 _ A3.out).mono ?_); rintro e w' ⟨rfl, ⟨nd, rfl⟩⟩; refine ⟨_, rfl, ?_⟩) | ((with_reducible refine gate_callee (f := 9) rfl ?_); refine goesL_ (some 8) rfl rfl Tryd.func9 (by kernel_rfl) rfl #[.int .i64 a0] rfl (by (try simp only [List.map_toArray, List.map_cons, List.map_nil]); first | done | rfl | (simp only [List.length_drop, List.length_take]; rfl)) ?_; (with_reducible refine (jobshellref22_Exited.calls a0 t124 _ A4.out).mono ?_); rintro e w' ⟨rfl, ⟨nd, rfl⟩⟩; refine ⟨_, rfl, ?_⟩) | (go_at_call 10; (with_reducible refine (status_Killed.calls a1 t125 _ A6.out).mono ?_); rintro e w' ⟨rfl, ⟨nd, rfl⟩⟩) | (go_at_call 11; (with_reducible refine (jobshellref22_Killed.calls a1 t126 _ A7.out).mono ?_); rintro e w' ⟨rfl, ⟨nd, rfl⟩⟩))
      go_ret
      exact ⟨by first | rfl | (simp [errW_none, errW_some] <;> rfl) | (simp [*, errW_none, errW_some] <;> rfl), by repeat (first | (with_reducible first | exact HB.out | apply below_alloc | apply pw_below_drewN | apply below_drew1) | exact HB.out)⟩
  · rw [if_neg c5] at H
    have c5b0 : (t123 == t124) = false := beq_eq_false_iff_ne.mpr c5
    have c5b1 : (t123 != t124) = true := bne_iff_ne.mpr c5
    obtain rfl := Option.some.inj H
    go_enter Tryd.func3, Tryd.ntmps3
    go_wp2_with (first | ((with_reducible refine gate_callee (f := 8) rfl ?_); refine goesL_ (some 6) rfl rfl Tryd.func8 (by kernel_rfl) rfl #[.int .i64 a0] rfl (by (try simp only [List.map_toArray, List.map_cons, List.map_nil]); first | done | rfl | (simp only [List.length_drop, List.length_take]; rfl)) ?_; (with_reducible refine (status_Exited.calls a0 t123 _ A3.out).mono ?_); rintro e w' ⟨rfl, ⟨nd, rfl⟩⟩; refine ⟨_, rfl, ?_⟩) | ((with_reducible refine gate_callee (f := 9) rfl ?_); refine goesL_ (some 8) rfl rfl Tryd.func9 (by kernel_rfl) rfl #[.int .i64 a0] rfl (by (try simp only [List.map_toArray, List.map_cons, List.map_nil]); first | done | rfl | (simp only [List.length_drop, List.length_take]; rfl)) ?_; (with_reducible refine (jobshellref22_Exited.calls a0 t124 _ A4.out).mono ?_); rintro e w' ⟨rfl, ⟨nd, rfl⟩⟩; refine ⟨_, rfl, ?_⟩))
    go_ret
    exact ⟨by first | rfl | (simp [errW_none, errW_some] <;> rfl) | (simp [*, errW_none, errW_some] <;> rfl), by repeat (first | (with_reducible first | exact HB.out | apply below_alloc | apply pw_below_drewN | apply below_drew1) | exact HB.out)⟩

/-- THE ONE PURE STATEMENT of jobshelllaw22_StatusMakes: yours. -/
def jobshelllaw22_StatusMakes.Pure : Prop := ∀ (a0 : Int) (a1 : Int), (Lit.int .i64 a0).wf = true → (Lit.int .i64 a1).wf = true → ∃ k, jobshelllaw22_StatusMakes.f k a0 a1 = some true
theorem jobshelllaw22_StatusMakes.walk (P : jobshelllaw22_StatusMakes.Pure) (a0 : Int) (a1 : Int) (w : World) (ht_ : Aside0 (TabAt w)) (w0 : (Lit.int .i64 a0).wf = true) (w1 : (Lit.int .i64 a1).wf = true) :
    Calls Tryd.prog 3 #[.int .i64 a0, .int .i64 a1] w fun e w' => e = .returned (.bool true) ∧ Below w.heap.size w w' := by
  obtain ⟨k, h⟩ := P a0 a1 w0 w1
  refine (jobshelllaw22_StatusMakes.calls k a0 a1 true w ht_ h).mono ?_
  rintro e w' ⟨rfl, hd⟩
  exact ⟨rfl, hd⟩

end Go.Proofs.YtojfchkmemhlfaaDoor.Q
