-- Written by wip/tool/myprint.py, a program of this repo that drives the kit's print over hand-written contracts; Lean checks it.
import Derived.Test.YtojfchkmemhlfaaDoorQ0
namespace Go.Proofs.YtojfchkmemhlfaaDoor.Q
open Go.RowKit Go.Proofs.YtojfchkmemhlfaaDoorW.PrintWords Go.Proofs.YtojfchkmemhlfaaDoorW.PrintLast Go.Proofs.YtojfchkmemhlfaaDoorW.PrintMore Go.Proofs.YtojfchkmemhlfaaDoorM
attribute [local go_sem] max2_int min2_int max_two min_two max_three min_three max_four min_four   -- for this text's walks alone
set_option linter.unusedVariables false
set_option linter.unusedSimpArgs false

/-! ### jobshellref22_Kind: function 18 -/
def jobshellref22_Kind.j0 : Nat → Int → Bool → Option (Int × Int)
  | 0, _, _ => none
  | k + 1, x0, x11 => if x11 = true then (some ((-1), 0)) else (if (wrap64 (Int.tdiv x0 256)) = 1 then (if (Int.tmod x0 256) < 1 then (some ((-1), 0)) else (if (Int.tmod x0 256) > 20 then (some ((-1), 0)) else (some (wrap64 (Int.tdiv x0 256), Int.tmod x0 256)))) else (if (wrap64 (Int.tdiv x0 256)) = 2 then (if (Int.tmod x0 256) < 1 then (some ((-1), 0)) else (if (Int.tmod x0 256) > 20 then (some ((-1), 0)) else (some (wrap64 (Int.tdiv x0 256), Int.tmod x0 256)))) else (some (wrap64 (Int.tdiv x0 256), Int.tmod x0 256))))
def jobshellref22_Kind.f (k : Nat) (a0 : Int) : Option (Int × Int) := if a0 < 0 then (jobshellref22_Kind.j0 k a0 true) else (jobshellref22_Kind.j0 k a0 (decide (a0 > 768)))
theorem jobshellref22_Kind.mono_l : ∀ k, (∀ y0 y1, LeO (jobshellref22_Kind.j0 k y0 y1) (jobshellref22_Kind.j0 (k + 1) y0 y1))
  | 0 => fun _ _ r h => by simp [jobshellref22_Kind.j0] at h
  | k + 1 => by
    have ih0 := jobshellref22_Kind.mono_l k
    · intro y0 y1
      unfold jobshellref22_Kind.j0
      repeat' first
      | (with_reducible exact ih0 _ _)
      | (with_reducible exact LeO.refl _)
      | (with_reducible exact LeO.none _)
      | (with_reducible refine LeO.ite ?_ ?_)
      | (with_reducible refine LeO.bind ?_ (fun _ => ?_))
      | exact ih0 _ _
      | exact LeO.none _
      | refine LeO.ite ?_ ?_
      | refine LeO.bind ?_ (fun _ => ?_)
theorem jobshellref22_Kind.mono : ∀ a0 k, LeO (jobshellref22_Kind.f k a0) (jobshellref22_Kind.f (k + 1) a0) := by
  intro a0 k
  have ih0 := jobshellref22_Kind.mono_l k
  unfold jobshellref22_Kind.f
  repeat' first
      | (with_reducible exact ih0 _ _)
      | (with_reducible exact LeO.refl _)
      | (with_reducible exact LeO.none _)
      | (with_reducible refine LeO.ite ?_ ?_)
      | (with_reducible refine LeO.bind ?_ (fun _ => ?_))
      | exact ih0 _ _
      | exact LeO.none _
      | refine LeO.ite ?_ ?_
      | refine LeO.bind ?_ (fun _ => ?_)
set_option maxHeartbeats 8000000 in
set_option maxRecDepth 10000000 in
theorem jobshellref22_Kind.calls (k : Nat) (a0 : Int) (r1 : Int) (r2 : Int) (w : World) (h : jobshellref22_Kind.f k a0 = some (r1, r2)) :
    Calls Tryd.prog 18 #[.int .i64 a0] w fun e w' => e = .returned (.tuple #[.int .i64 r1, .int .i64 r2]) ∧ Drawn0 w w' := by
  have H : (if a0 < 0 then (jobshellref22_Kind.j0 k a0 true) else (jobshellref22_Kind.j0 k a0 (decide (a0 > 768)))) = some (r1, r2) := h
  clear h
  have HC2 := Aside0.mk H
  clear H
  go_enter Tryd.func18, Tryd.ntmps18
  go_upto_region 1 with (fail)
  go_cut [11] (fun v11 wc => ∃ (kq : Nat) (x11_1 : Bool), v11 = .bool x11_1 ∧ Aside0 (jobshellref22_Kind.j0 kq a0 x11_1 = some (r1, r2)) ∧ Aside0 (kq ≤ k) ∧ Drawn0 w wc)
  case first =>
    have H := HC2.out
    clear HC2
    by_cases c3 : a0 < 0
    · rw [if_pos c3] at H
      have c3b0 : decide (a0 < 0) = true := decide_eq_true c3
      clear c3
      (first | rw [c3b0] | (simp only [i64_w, i32_w]; rw [c3b0]) | skip)
      have H' := Aside0.mk H
      clear H
      go_wp2
      go_meet
      case rel => exact ⟨_, (true), (by first | rfl | (simp; done) | (simp [*]; done) | (generalize ByteArray.toList _ = l_; cases l_ <;> rfl)), H', ⟨by first | omega | exact Nat.le_refl _⟩, by repeat (first | exact Drawn0.refl _ | apply Drawn0.step)⟩
    · rw [if_neg c3] at H
      have c3b0 : decide (a0 < 0) = false := decide_eq_false c3
      clear c3
      (first | rw [c3b0] | (simp only [i64_w, i32_w]; rw [c3b0]) | skip)
      have H' := Aside0.mk H
      clear H
      go_wp2
      go_meet
      case rel => exact ⟨_, (decide (a0 > 768)), (by first | rfl | (simp; done) | (simp [*]; done) | (generalize ByteArray.toList _ = l_; cases l_ <;> rfl)), H', ⟨by first | omega | exact Nat.le_refl _⟩, by repeat (first | exact Drawn0.refl _ | apply Drawn0.step)⟩
  case rest =>
    clear HC2
    try clear c1
    try clear p2
    try clear c3
    try clear c3b0
    obtain ⟨kq, x11_1, rfl, HA, HJ1, ⟨mc1, rfl⟩⟩ := hcut
    cases kq with
    | zero => exact absurd HA.out (by simp [jobshellref22_Kind.j0])
    | succ kj1 =>
      have H := HA.out
      clear HA
      simp only [jobshellref22_Kind.j0] at H
      by_cases c4 : x11_1 = true
      · subst c4
        have H1 : (some ((-1), 0)) = some (r1, r2) := by rw [if_pos rfl] at H; exact H
        clear H
        have H := H1
        clear H1
        simp only [Option.some.injEq, Prod.mk.injEq] at H
        obtain ⟨rfl, rfl⟩ := H
        go_wp2
        go_ret2
        exact ⟨by first | rfl | (simp; done) | (simp [*]; done), by repeat (first | exact Drawn0.refl _ | apply Drawn0.step)⟩
      · replace c4 := Bool.eq_false_iff.mpr c4
        subst c4
        have H1 : (if (wrap64 (Int.tdiv a0 256)) = 1 then (if (Int.tmod a0 256) < 1 then (some ((-1), 0)) else (if (Int.tmod a0 256) > 20 then (some ((-1), 0)) else (some (wrap64 (Int.tdiv a0 256), Int.tmod a0 256)))) else (if (wrap64 (Int.tdiv a0 256)) = 2 then (if (Int.tmod a0 256) < 1 then (some ((-1), 0)) else (if (Int.tmod a0 256) > 20 then (some ((-1), 0)) else (some (wrap64 (Int.tdiv a0 256), Int.tmod a0 256)))) else (some (wrap64 (Int.tdiv a0 256), Int.tmod a0 256)))) = some (r1, r2) := by rw [if_neg (show ¬ (false = true) by decide)] at H; exact H
        clear H
        have H := H1
        clear H1
        by_cases c5 : (wrap64 (Int.tdiv a0 256)) = 1
        · rw [if_pos c5] at H
          have c5b0 : ((wrap64 (Int.tdiv a0 256)) == 1) = true := beq_iff_eq.mpr c5
          have c5b1 : ((wrap64 (Int.tdiv a0 256)) != 1) = false := bne_eq_false_iff_eq.mpr c5
          clear c5
          by_cases c6 : (Int.tmod a0 256) < 1
          · rw [if_pos c6] at H
            have c6b0 : decide ((Int.tmod a0 256) < 1) = true := decide_eq_true c6
            clear c6
            simp only [Option.some.injEq, Prod.mk.injEq] at H
            obtain ⟨rfl, rfl⟩ := H
            go_wp2
            go_ret2
            exact ⟨by first | rfl | (simp; done) | (simp [*]; done), by repeat (first | exact Drawn0.refl _ | apply Drawn0.step)⟩
          · rw [if_neg c6] at H
            have c6b0 : decide ((Int.tmod a0 256) < 1) = false := decide_eq_false c6
            clear c6
            by_cases c7 : (Int.tmod a0 256) > 20
            · rw [if_pos c7] at H
              have c7b0 : decide (20 < (Int.tmod a0 256)) = true := decide_eq_true c7
              clear c7
              simp only [Option.some.injEq, Prod.mk.injEq] at H
              obtain ⟨rfl, rfl⟩ := H
              go_wp2
              go_ret2
              exact ⟨by first | rfl | (simp; done) | (simp [*]; done), by repeat (first | exact Drawn0.refl _ | apply Drawn0.step)⟩
            · rw [if_neg c7] at H
              have c7b0 : decide (20 < (Int.tmod a0 256)) = false := decide_eq_false c7
              clear c7
              simp only [Option.some.injEq, Prod.mk.injEq] at H
              obtain ⟨rfl, rfl⟩ := H
              go_wp2
              go_ret2
              exact ⟨by first | rfl | (simp; done) | (simp [*]; done), by repeat (first | exact Drawn0.refl _ | apply Drawn0.step)⟩
        · rw [if_neg c5] at H
          have c5b0 : ((wrap64 (Int.tdiv a0 256)) == 1) = false := beq_eq_false_iff_ne.mpr c5
          have c5b1 : ((wrap64 (Int.tdiv a0 256)) != 1) = true := bne_iff_ne.mpr c5
          by_cases c8 : (wrap64 (Int.tdiv a0 256)) = 2
          · rw [if_pos c8] at H
            have c8b0 : ((wrap64 (Int.tdiv a0 256)) == 2) = true := beq_iff_eq.mpr c8
            have c8b1 : ((wrap64 (Int.tdiv a0 256)) != 2) = false := bne_eq_false_iff_eq.mpr c8
            clear c8
            by_cases c9 : (Int.tmod a0 256) < 1
            · rw [if_pos c9] at H
              have c9b0 : decide ((Int.tmod a0 256) < 1) = true := decide_eq_true c9
              clear c9
              simp only [Option.some.injEq, Prod.mk.injEq] at H
              obtain ⟨rfl, rfl⟩ := H
              go_wp2
              go_ret2
              exact ⟨by first | rfl | (simp; done) | (simp [*]; done), by repeat (first | exact Drawn0.refl _ | apply Drawn0.step)⟩
            · rw [if_neg c9] at H
              have c9b0 : decide ((Int.tmod a0 256) < 1) = false := decide_eq_false c9
              clear c9
              by_cases c10 : (Int.tmod a0 256) > 20
              · rw [if_pos c10] at H
                have c10b0 : decide (20 < (Int.tmod a0 256)) = true := decide_eq_true c10
                clear c10
                simp only [Option.some.injEq, Prod.mk.injEq] at H
                obtain ⟨rfl, rfl⟩ := H
                go_wp2
                go_ret2
                exact ⟨by first | rfl | (simp; done) | (simp [*]; done), by repeat (first | exact Drawn0.refl _ | apply Drawn0.step)⟩
              · rw [if_neg c10] at H
                have c10b0 : decide (20 < (Int.tmod a0 256)) = false := decide_eq_false c10
                clear c10
                simp only [Option.some.injEq, Prod.mk.injEq] at H
                obtain ⟨rfl, rfl⟩ := H
                go_wp2
                go_ret2
                exact ⟨by first | rfl | (simp; done) | (simp [*]; done), by repeat (first | exact Drawn0.refl _ | apply Drawn0.step)⟩
          · rw [if_neg c8] at H
            have c8b0 : ((wrap64 (Int.tdiv a0 256)) == 2) = false := beq_eq_false_iff_ne.mpr c8
            have c8b1 : ((wrap64 (Int.tdiv a0 256)) != 2) = true := bne_iff_ne.mpr c8
            simp only [Option.some.injEq, Prod.mk.injEq] at H
            obtain ⟨rfl, rfl⟩ := H
            go_wp2
            go_ret2
            exact ⟨by first | rfl | (simp; done) | (simp [*]; done), by repeat (first | exact Drawn0.refl _ | apply Drawn0.step)⟩

end Go.Proofs.YtojfchkmemhlfaaDoor.Q
