-- Written by wip/tool/myprint.py, a program of this repo that drives the kit's print over hand-written contracts; Lean checks it.
import Derived.Test.YtojfchkmemhlfaaDoorQ0
import Derived.Test.YtojfchkmemhlfaaDoorQ8
namespace Go.Proofs.YtojfchkmemhlfaaDoor.Q
open Go.RowKit Go.Proofs.YtojfchkmemhlfaaDoorW.PrintWords Go.Proofs.YtojfchkmemhlfaaDoorW.PrintLast Go.Proofs.YtojfchkmemhlfaaDoorW.PrintMore Go.Proofs.YtojfchkmemhlfaaDoorM
attribute [local go_sem] max2_int min2_int max_two min_two max_three min_three max_four min_four   -- for this text's walks alone
set_option linter.unusedVariables false
set_option linter.unusedSimpArgs false

/-! ### jobshellref22_Shell: function 20 -/
def jobshellref22_Shell.j0 : Nat → Int → Int → Bool → Option (Int)
  | 0, _, _, _ => none
  | k + 1, x4, x10, x14 => if x14 = true then (some (wrap64 (128 + x4))) else (if x10 = 3 then (some 0) else (some 255))
def jobshellref22_Shell.f (k : Nat) (a0 : Int) : Option (Int) := (jobshellref22_Kind.f k a0).bind fun bt132 => (if bt132.1 = 0 then (some bt132.2) else (if bt132.1 = 1 then (jobshellref22_Shell.j0 k bt132.2 bt132.1 (bt132.1 == 1)) else (jobshellref22_Shell.j0 k bt132.2 bt132.1 (bt132.1 == 2))))
theorem jobshellref22_Shell.mono_l : ∀ k, (∀ y0 y1 y2, LeO (jobshellref22_Shell.j0 k y0 y1 y2) (jobshellref22_Shell.j0 (k + 1) y0 y1 y2))
  | 0 => fun _ _ _ r h => by simp [jobshellref22_Shell.j0] at h
  | k + 1 => by
    have ih0 := jobshellref22_Shell.mono_l k
    · intro y0 y1 y2
      unfold jobshellref22_Shell.j0
      repeat' first
      | (with_reducible exact ih0 _ _ _)
      | (with_reducible exact jobshellref22_Kind.mono _ _)
      | (with_reducible exact LeO.refl _)
      | (with_reducible exact LeO.none _)
      | (with_reducible refine LeO.ite ?_ ?_)
      | (with_reducible refine LeO.bind ?_ (fun _ => ?_))
      | exact ih0 _ _ _
      | exact jobshellref22_Kind.mono _ _
      | exact LeO.none _
      | refine LeO.ite ?_ ?_
      | refine LeO.bind ?_ (fun _ => ?_)
theorem jobshellref22_Shell.mono : ∀ a0 k, LeO (jobshellref22_Shell.f k a0) (jobshellref22_Shell.f (k + 1) a0) := by
  intro a0 k
  have ih0 := jobshellref22_Shell.mono_l k
  unfold jobshellref22_Shell.f
  repeat' first
      | (with_reducible exact ih0 _ _ _)
      | (with_reducible exact jobshellref22_Kind.mono _ _)
      | (with_reducible exact LeO.refl _)
      | (with_reducible exact LeO.none _)
      | (with_reducible refine LeO.ite ?_ ?_)
      | (with_reducible refine LeO.bind ?_ (fun _ => ?_))
      | exact ih0 _ _ _
      | exact jobshellref22_Kind.mono _ _
      | exact LeO.none _
      | refine LeO.ite ?_ ?_
      | refine LeO.bind ?_ (fun _ => ?_)
set_option maxHeartbeats 8000000 in
set_option maxRecDepth 10000000 in
theorem jobshellref22_Shell.calls (k : Nat) (a0 : Int) (r : Int) (w : World) (h : jobshellref22_Shell.f k a0 = some r) :
    Calls Tryd.prog 20 #[.int .i64 a0] w fun e w' => e = .returned (.int .i64 r) ∧ Drawn0 w w' := by
  have H : ((jobshellref22_Kind.f k a0).bind fun bt132 => (if bt132.1 = 0 then (some bt132.2) else (if bt132.1 = 1 then (jobshellref22_Shell.j0 k bt132.2 bt132.1 (bt132.1 == 1)) else (jobshellref22_Shell.j0 k bt132.2 bt132.1 (bt132.1 == 2))))) = some r := h
  clear h
  replace H := Option.bind_eq_some_iff.mp H
  obtain ⟨⟨t132, t133⟩, A20, H⟩ := H
  replace H : (if t132 = 0 then (some t133) else (if t132 = 1 then (jobshellref22_Shell.j0 k t133 t132 (t132 == 1)) else (jobshellref22_Shell.j0 k t133 t132 (t132 == 2)))) = some r := H
  have A2 := Aside0.mk A20
  clear A20
  by_cases c3 : t132 = 0
  · rw [if_pos c3] at H
    have c3b0 : (t132 == 0) = true := beq_iff_eq.mpr c3
    have c3b1 : (t132 != 0) = false := bne_eq_false_iff_eq.mpr c3
    clear c3
    obtain rfl := Option.some.inj H
    go_enter Tryd.func20, Tryd.ntmps20
    go_wp2_with (first | ((with_reducible refine gate_callee (f := 18) rfl ?_); refine goesL_ (some 7) rfl rfl Tryd.func18 (by kernel_rfl) rfl #[.int .i64 a0] rfl (by (try simp only [List.map_toArray, List.map_cons, List.map_nil]); first | done | rfl | (simp only [List.length_drop, List.length_take]; rfl)) ?_; (with_reducible refine (jobshellref22_Kind.calls k a0 t132 t133 _ A2.out).mono ?_); rintro e w' ⟨rfl, ⟨nd, rfl⟩⟩; refine ⟨_, rfl, ?_⟩))
    go_ret
    exact ⟨by first | rfl | (simp; done) | (simp [*]; done), by repeat (first | exact Drawn0.refl _ | apply Drawn0.step)⟩
  · rw [if_neg c3] at H
    have c3b0 : (t132 == 0) = false := beq_eq_false_iff_ne.mpr c3
    have c3b1 : (t132 != 0) = true := bne_iff_ne.mpr c3
    have HC4 := Aside0.mk H
    clear H
    go_enter Tryd.func20, Tryd.ntmps20
    go_upto_if 14 with (first | ((with_reducible refine gate_callee (f := 18) rfl ?_); refine goesL_ (some 7) rfl rfl Tryd.func18 (by kernel_rfl) rfl #[.int .i64 a0] rfl (by (try simp only [List.map_toArray, List.map_cons, List.map_nil]); first | done | rfl | (simp only [List.length_drop, List.length_take]; rfl)) ?_; (with_reducible refine (jobshellref22_Kind.calls k a0 t132 t133 _ A2.out).mono ?_); rintro e w' ⟨rfl, ⟨nd, rfl⟩⟩; refine ⟨_, rfl, ?_⟩))
    (try simp only [Act.put, List.setIfInBounds_toArray, List.set_cons_zero, List.set_cons_succ])
    go_cut [14] (fun v14 wc => ∃ (kq : Nat) (x14_3 : Bool), v14 = .bool x14_3 ∧ Aside0 (jobshellref22_Shell.j0 kq t133 t132 x14_3 = some r) ∧ Aside0 (kq ≤ k) ∧ Drawn0 w wc)
    case first =>
      have H := HC4.out
      clear HC4
      by_cases c5 : t132 = 1
      · rw [if_pos c5] at H
        have c5b0 : (t132 == 1) = true := beq_iff_eq.mpr c5
        have c5b1 : (t132 != 1) = false := bne_eq_false_iff_eq.mpr c5
        clear c5
        (first | rw [c5b0] | (simp only [i64_w, i32_w]; rw [c5b0]) | skip)
        have H' := Aside0.mk H
        clear H
        go_wp2
        go_meet
        case rel => exact ⟨_, ((t132 == 1)), (by first | rfl | (simp; done) | (simp [*]; done) | (generalize ByteArray.toList _ = l_; cases l_ <;> rfl)), H', ⟨by first | omega | exact Nat.le_refl _⟩, by repeat (first | exact Drawn0.refl _ | apply Drawn0.step)⟩
      · rw [if_neg c5] at H
        have c5b0 : (t132 == 1) = false := beq_eq_false_iff_ne.mpr c5
        have c5b1 : (t132 != 1) = true := bne_iff_ne.mpr c5
        (first | rw [c5b0] | (simp only [i64_w, i32_w]; rw [c5b0]) | skip)
        have H' := Aside0.mk H
        clear H
        go_wp2
        go_meet
        case rel => exact ⟨_, ((t132 == 2)), (by first | rfl | (simp; done) | (simp [*]; done) | (generalize ByteArray.toList _ = l_; cases l_ <;> rfl)), H', ⟨by first | omega | exact Nat.le_refl _⟩, by repeat (first | exact Drawn0.refl _ | apply Drawn0.step)⟩
    case rest =>
      clear HC4
      try clear c1
      try clear c2
      try clear p2
      try clear c3
      try clear c3b0
      try clear c3b1
      try clear c5
      try clear c5b0
      try clear c5b1
      obtain ⟨kq, x14_3, rfl, HA, HJ3, ⟨mc3, rfl⟩⟩ := hcut
      cases kq with
      | zero => exact absurd HA.out (by simp [jobshellref22_Shell.j0])
      | succ kj3 =>
        have H := HA.out
        clear HA
        simp only [jobshellref22_Shell.j0] at H
        by_cases c6 : x14_3 = true
        · subst c6
          have H1 : (some (wrap64 (128 + t133))) = some r := by rw [if_pos rfl] at H; exact H
          clear H
          have H := H1
          clear H1
          obtain rfl := Option.some.inj H
          go_wp2
          go_ret
          exact ⟨by first | rfl | (simp; done) | (simp [*]; done), by repeat (first | exact Drawn0.refl _ | apply Drawn0.step)⟩
        · replace c6 := Bool.eq_false_iff.mpr c6
          subst c6
          have H1 : (if t132 = 3 then (some 0) else (some 255)) = some r := by rw [if_neg (show ¬ (false = true) by decide)] at H; exact H
          clear H
          have H := H1
          clear H1
          by_cases c7 : t132 = 3
          · rw [if_pos c7] at H
            have c7b0 : (t132 == 3) = true := beq_iff_eq.mpr c7
            have c7b1 : (t132 != 3) = false := bne_eq_false_iff_eq.mpr c7
            clear c7
            obtain rfl := Option.some.inj H
            go_wp2
            go_ret
            exact ⟨by first | rfl | (simp; done) | (simp [*]; done), by repeat (first | exact Drawn0.refl _ | apply Drawn0.step)⟩
          · rw [if_neg c7] at H
            have c7b0 : (t132 == 3) = false := beq_eq_false_iff_ne.mpr c7
            have c7b1 : (t132 != 3) = true := bne_iff_ne.mpr c7
            obtain rfl := Option.some.inj H
            go_wp2
            go_ret
            exact ⟨by first | rfl | (simp; done) | (simp [*]; done), by repeat (first | exact Drawn0.refl _ | apply Drawn0.step)⟩

end Go.Proofs.YtojfchkmemhlfaaDoor.Q
