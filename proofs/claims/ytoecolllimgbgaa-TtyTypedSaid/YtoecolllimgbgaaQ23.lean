-- Written by wip/tool/myprint.py, a program of this repo that drives the kit's print over hand-written contracts; Lean checks it. (halved)
import Derived.Test.YtoecolllimgbgaaQ0
import Derived.Test.YtoecolllimgbgaaQ2
import Derived.Test.YtoecolllimgbgaaQ9
import Derived.Test.YtoecolllimgbgaaQ11
import Derived.Test.YtoecolllimgbgaaQ13
namespace Go.Proofs.Ytoecolllimgbgaa.Q
open Go.RowKit Go.Proofs.YtoecolllimgbgaaW.PrintWords Go.Proofs.YtoecolllimgbgaaW.PrintLast Go.Proofs.YtoecolllimgbgaaW.PrintMore Go.Proofs.YtoecolllimgbgaaM
attribute [local go_sem] max2_int min2_int max_two min_two max_three min_three max_four min_four   -- for this text's walks alone
set_option linter.unusedVariables false
set_option linter.unusedSimpArgs false

/-! ### jobshelllaw26_TtyTyped: function 5 -/
mutual
def jobshelllaw26_TtyTyped.j0 : Nat → ByteArray → Int → Bool → Option (Bool)
 | 0, _, _, _ => none
 | k + 1, x0, x1, x26 => if x26 = true then ((jobshelllaw26_awake.f k).bind fun t413 => (some t413)) else (if x0.size + 1 ≤ 9223372036854775807 then ((tty_Feed.f k 0 0 (⟨#[]⟩ : ByteArray) ([] : List ByteArray) (⟨#[]⟩ : ByteArray) false (x0 ++ (⟨#[10]⟩ : ByteArray))).bind fun bt414 => (if (bt414.2.2.2.2.2.2.length : Int) > 0 then (jobshelllaw26_TtyTyped.j1 k x0 x1 true bt414.1 bt414.2.1 bt414.2.2.1 bt414.2.2.2.1 bt414.2.2.2.2.1 bt414.2.2.2.2.2.1) else (jobshelllaw26_TtyTyped.j1 k x0 x1 (bt414.2.2.1.toList != ([] : List UInt8)) bt414.1 bt414.2.1 bt414.2.2.1 bt414.2.2.2.1 bt414.2.2.2.2.1 bt414.2.2.2.2.2.1))) else (none))
def jobshelllaw26_TtyTyped.j1 : Nat → ByteArray → Int → Bool → Int → Int → ByteArray → List ByteArray → ByteArray → Bool → Option (Bool)
 | 0, _, _, _, _, _, _, _, _, _ => none
 | k + 1, x0, x1, x42, x426000, x426001, x426002, x426003, x426004, x426005 => if x42 = true then (none) else (jobshelllaw26_TtyTyped.l0 k x0 x1 (⟨#[]⟩ : ByteArray) 0 x426000 x426001 x426002 x426003 x426004 x426005)
def jobshelllaw26_TtyTyped.l0 : Nat → ByteArray → Int → ByteArray → Int → Int → Int → ByteArray → List ByteArray → ByteArray → Bool → Option (Bool)
 | 0, _, _, _, _, _, _, _, _, _, _ => none
 | k + 1, x0, x1, x7, x8, x426000, x426001, x426002, x426003, x426004, x426005 => if x8 ≤ (x0.size : Int) then ((tty_Read.f x426000 x426001 x426002 x426003 x426004 x426005 x1).bind fun bt438 => (if bt438.2.2.2.2.2.2.2 = 1 then (if bt438.2.2.2.2.2.2.1.toList = ([] : List UInt8) then (jobshelllaw26_TtyTyped.j3 k x0 x1 x7 x8 bt438.2.2.2.2.2.2.1 true bt438.1 bt438.2.1 bt438.2.2.1 bt438.2.2.2.1 bt438.2.2.2.2.1 bt438.2.2.2.2.2.1) else (jobshelllaw26_TtyTyped.j3 k x0 x1 x7 x8 bt438.2.2.2.2.2.2.1 (decide ((bt438.2.2.2.2.2.2.1.size : Int) > x1)) bt438.1 bt438.2.1 bt438.2.2.1 bt438.2.2.2.1 bt438.2.2.2.2.1 bt438.2.2.2.2.2.1)) else (jobshelllaw26_TtyTyped.j3 k x0 x1 x7 x8 bt438.2.2.2.2.2.2.1 true bt438.1 bt438.2.1 bt438.2.2.1 bt438.2.2.2.1 bt438.2.2.2.2.1 bt438.2.2.2.2.2.1))) else ((tty_Read.f x426000 x426001 x426002 x426003 x426004 x426005 x1).bind fun bt426 => (if x0.size + 1 ≤ 9223372036854775807 then (if x7.toList = (x0 ++ (⟨#[10]⟩ : ByteArray)).toList then (if bt426.2.2.2.2.2.2.2 = 2 then ((jobshelllaw26_awake.f k).bind fun t437 => (some t437)) else (none)) else (none)) else (none)))
def jobshelllaw26_TtyTyped.j3 : Nat → ByteArray → Int → ByteArray → Int → ByteArray → Bool → Int → Int → ByteArray → List ByteArray → ByteArray → Bool → Option (Bool)
 | 0, _, _, _, _, _, _, _, _, _, _, _, _ => none
 | k + 1, x0, x1, x7, x8, x10, x67, x449000, x449001, x449002, x449003, x449004, x449005 => if x67 = true then (none) else (if x7.size + x10.size ≤ 9223372036854775807 then (if ((x7 ++ x10).size : Int) > (x0.size : Int) then ((tty_Read.f x449000 x449001 x449002 x449003 x449004 x449005 x1).bind fun bt449 => (if x0.size + 1 ≤ 9223372036854775807 then (if (x7 ++ x10).toList = (x0 ++ (⟨#[10]⟩ : ByteArray)).toList then (if bt449.2.2.2.2.2.2.2 = 2 then ((jobshelllaw26_awake.f k).bind fun t460 => (some t460)) else (none)) else (none)) else (none))) else (jobshelllaw26_TtyTyped.l0 k x0 x1 (x7 ++ x10) (wrap64 (x8 + 1)) x449000 x449001 x449002 x449003 x449004 x449005)) else (none))
end
def jobshelllaw26_TtyTyped.f (k : Nat) (a0 : ByteArray) (a1 : Int) : Option (Bool) := if (a0.size : Int) > 4096 then (jobshelllaw26_TtyTyped.j0 k a0 a1 true) else ((jobshellref26_Texts.f k a0).bind fun t412 => (if t412 = true then (jobshelllaw26_TtyTyped.j0 k a0 a1 (decide (a1 < 1))) else (jobshelllaw26_TtyTyped.j0 k a0 a1 true)))
theorem jobshelllaw26_TtyTyped.mono_l : ∀ k, (∀ y0 y1 y2, LeO (jobshelllaw26_TtyTyped.j0 k y0 y1 y2) (jobshelllaw26_TtyTyped.j0 (k + 1) y0 y1 y2)) ∧ (∀ y0 y1 y2 y3 y4 y5 y6 y7 y8, LeO (jobshelllaw26_TtyTyped.j1 k y0 y1 y2 y3 y4 y5 y6 y7 y8) (jobshelllaw26_TtyTyped.j1 (k + 1) y0 y1 y2 y3 y4 y5 y6 y7 y8)) ∧ (∀ y0 y1 y2 y3 y4 y5 y6 y7 y8 y9, LeO (jobshelllaw26_TtyTyped.l0 k y0 y1 y2 y3 y4 y5 y6 y7 y8 y9) (jobshelllaw26_TtyTyped.l0 (k + 1) y0 y1 y2 y3 y4 y5 y6 y7 y8 y9)) ∧ (∀ y0 y1 y2 y3 y4 y5 y6 y7 y8 y9 y10 y11, LeO (jobshelllaw26_TtyTyped.j3 k y0 y1 y2 y3 y4 y5 y6 y7 y8 y9 y10 y11) (jobshelllaw26_TtyTyped.j3 (k + 1) y0 y1 y2 y3 y4 y5 y6 y7 y8 y9 y10 y11))
 | 0 => ⟨fun _ _ _ r h => by simp [jobshelllaw26_TtyTyped.j0] at h, fun _ _ _ _ _ _ _ _ _ r h => by simp [jobshelllaw26_TtyTyped.j1] at h, fun _ _ _ _ _ _ _ _ _ _ r h => by simp [jobshelllaw26_TtyTyped.l0] at h, fun _ _ _ _ _ _ _ _ _ _ _ _ r h => by simp [jobshelllaw26_TtyTyped.j3] at h⟩
 | k + 1 => by
  obtain ⟨ih0, ih1, ih2, ih3⟩ := jobshelllaw26_TtyTyped.mono_l k
  refine ⟨?_, ?_, ?_, ?_⟩
  ·intro y0 y1 y2
   unfold jobshelllaw26_TtyTyped.j0
   repeat' first
   | (with_reducible exact ih0 _ _ _)
   | (with_reducible exact ih1 _ _ _ _ _ _ _ _ _)
   | (with_reducible exact ih2 _ _ _ _ _ _ _ _ _ _)
   | (with_reducible exact ih3 _ _ _ _ _ _ _ _ _ _ _ _)
   | (with_reducible exact jobshelllaw26_awake.mono _)
   | (with_reducible exact jobshellref26_Texts.mono _ _)
   | (with_reducible exact tty_Feed.mono _ _ _ _ _ _ _ _)
   | (with_reducible exact LeO.refl _)
   | (with_reducible exact LeO.none _)
   | (with_reducible refine LeO.ite ?_ ?_)
   | (with_reducible refine LeO.bind ?_ (fun _ => ?_))
   | exact ih0 _ _ _
   | exact ih1 _ _ _ _ _ _ _ _ _
   | exact ih2 _ _ _ _ _ _ _ _ _ _
   | exact ih3 _ _ _ _ _ _ _ _ _ _ _ _
   | exact jobshelllaw26_awake.mono _
   | exact jobshellref26_Texts.mono _ _
   | exact tty_Feed.mono _ _ _ _ _ _ _ _
   | exact LeO.none _
   | refine LeO.ite ?_ ?_
   | refine LeO.bind ?_ (fun _ => ?_)
  ·intro y0 y1 y2 y3 y4 y5 y6 y7 y8
   unfold jobshelllaw26_TtyTyped.j1
   repeat' first
   | (with_reducible exact ih0 _ _ _)
   | (with_reducible exact ih1 _ _ _ _ _ _ _ _ _)
   | (with_reducible exact ih2 _ _ _ _ _ _ _ _ _ _)
   | (with_reducible exact ih3 _ _ _ _ _ _ _ _ _ _ _ _)
   | (with_reducible exact jobshelllaw26_awake.mono _)
   | (with_reducible exact jobshellref26_Texts.mono _ _)
   | (with_reducible exact tty_Feed.mono _ _ _ _ _ _ _ _)
   | (with_reducible exact LeO.refl _)
   | (with_reducible exact LeO.none _)
   | (with_reducible refine LeO.ite ?_ ?_)
   | (with_reducible refine LeO.bind ?_ (fun _ => ?_))
   | exact ih0 _ _ _
   | exact ih1 _ _ _ _ _ _ _ _ _
   | exact ih2 _ _ _ _ _ _ _ _ _ _
   | exact ih3 _ _ _ _ _ _ _ _ _ _ _ _
   | exact jobshelllaw26_awake.mono _
   | exact jobshellref26_Texts.mono _ _
   | exact tty_Feed.mono _ _ _ _ _ _ _ _
   | exact LeO.none _
   | refine LeO.ite ?_ ?_
   | refine LeO.bind ?_ (fun _ => ?_)
  ·intro y0 y1 y2 y3 y4 y5 y6 y7 y8 y9
   unfold jobshelllaw26_TtyTyped.l0
   repeat' first
   | (with_reducible exact ih0 _ _ _)
   | (with_reducible exact ih1 _ _ _ _ _ _ _ _ _)
   | (with_reducible exact ih2 _ _ _ _ _ _ _ _ _ _)
   | (with_reducible exact ih3 _ _ _ _ _ _ _ _ _ _ _ _)
   | (with_reducible exact jobshelllaw26_awake.mono _)
   | (with_reducible exact jobshellref26_Texts.mono _ _)
   | (with_reducible exact tty_Feed.mono _ _ _ _ _ _ _ _)
   | (with_reducible exact LeO.refl _)
   | (with_reducible exact LeO.none _)
   | (with_reducible refine LeO.ite ?_ ?_)
   | (with_reducible refine LeO.bind ?_ (fun _ => ?_))
   | exact ih0 _ _ _
   | exact ih1 _ _ _ _ _ _ _ _ _
   | exact ih2 _ _ _ _ _ _ _ _ _ _
   | exact ih3 _ _ _ _ _ _ _ _ _ _ _ _
   | exact jobshelllaw26_awake.mono _
   | exact jobshellref26_Texts.mono _ _
   | exact tty_Feed.mono _ _ _ _ _ _ _ _
   | exact LeO.none _
   | refine LeO.ite ?_ ?_
   | refine LeO.bind ?_ (fun _ => ?_)
  ·intro y0 y1 y2 y3 y4 y5 y6 y7 y8 y9 y10 y11
   unfold jobshelllaw26_TtyTyped.j3
   repeat' first
   | (with_reducible exact ih0 _ _ _)
   | (with_reducible exact ih1 _ _ _ _ _ _ _ _ _)
   | (with_reducible exact ih2 _ _ _ _ _ _ _ _ _ _)
   | (with_reducible exact ih3 _ _ _ _ _ _ _ _ _ _ _ _)
   | (with_reducible exact jobshelllaw26_awake.mono _)
   | (with_reducible exact jobshellref26_Texts.mono _ _)
   | (with_reducible exact tty_Feed.mono _ _ _ _ _ _ _ _)
   | (with_reducible exact LeO.refl _)
   | (with_reducible exact LeO.none _)
   | (with_reducible refine LeO.ite ?_ ?_)
   | (with_reducible refine LeO.bind ?_ (fun _ => ?_))
   | exact ih0 _ _ _
   | exact ih1 _ _ _ _ _ _ _ _ _
   | exact ih2 _ _ _ _ _ _ _ _ _ _
   | exact ih3 _ _ _ _ _ _ _ _ _ _ _ _
   | exact jobshelllaw26_awake.mono _
   | exact jobshellref26_Texts.mono _ _
   | exact tty_Feed.mono _ _ _ _ _ _ _ _
   | exact LeO.none _
   | refine LeO.ite ?_ ?_
   | refine LeO.bind ?_ (fun _ => ?_)
theorem jobshelllaw26_TtyTyped.mono : ∀ a0 a1 k, LeO (jobshelllaw26_TtyTyped.f k a0 a1) (jobshelllaw26_TtyTyped.f (k + 1) a0 a1) := by
 intro a0 a1 k
 obtain ⟨ih0, ih1, ih2, ih3⟩ := jobshelllaw26_TtyTyped.mono_l k
 unfold jobshelllaw26_TtyTyped.f
 repeat' first
   | (with_reducible exact ih0 _ _ _)
   | (with_reducible exact ih1 _ _ _ _ _ _ _ _ _)
   | (with_reducible exact ih2 _ _ _ _ _ _ _ _ _ _)
   | (with_reducible exact ih3 _ _ _ _ _ _ _ _ _ _ _ _)
   | (with_reducible exact jobshelllaw26_awake.mono _)
   | (with_reducible exact jobshellref26_Texts.mono _ _)
   | (with_reducible exact tty_Feed.mono _ _ _ _ _ _ _ _)
   | (with_reducible exact LeO.refl _)
   | (with_reducible exact LeO.none _)
   | (with_reducible refine LeO.ite ?_ ?_)
   | (with_reducible refine LeO.bind ?_ (fun _ => ?_))
   | exact ih0 _ _ _
   | exact ih1 _ _ _ _ _ _ _ _ _
   | exact ih2 _ _ _ _ _ _ _ _ _ _
   | exact ih3 _ _ _ _ _ _ _ _ _ _ _ _
   | exact jobshelllaw26_awake.mono _
   | exact jobshellref26_Texts.mono _ _
   | exact tty_Feed.mono _ _ _ _ _ _ _ _
   | exact LeO.none _
   | refine LeO.ite ?_ ?_
   | refine LeO.bind ?_ (fun _ => ?_)
set_option maxHeartbeats 8000000 in
set_option maxRecDepth 10000000 in
theorem jobshelllaw26_TtyTyped.calls (k : Nat) (a0 : ByteArray) (a1 : Int) (r : Bool) (w : World) (h : jobshelllaw26_TtyTyped.f k a0 a1 = some r) :
  Calls Try.prog 5 #[.string a0, .int .i64 a1] w fun e w' => e = .returned (.bool r) ∧ Below w.heap.size w w' := by
 have hu24 := Try.underlying24
 have HB := Aside0.mk (Below.refl w.heap.size w)
 have H : (if (a0.size : Int) > 4096 then (jobshelllaw26_TtyTyped.j0 k a0 a1 true) else ((jobshellref26_Texts.f k a0).bind fun t412 => (if t412 = true then (jobshelllaw26_TtyTyped.j0 k a0 a1 (decide (a1 < 1))) else (jobshelllaw26_TtyTyped.j0 k a0 a1 true)))) = some r := h
 clear h
 have HC3 := Aside0.mk H
 clear H
 go_enter Try.func5, Try.ntmps5
 go_upto_region 1 with (fail)
 go_cut [26] (fun v26 wc => ∃ (kq : Nat) (x26_2 : Bool), v26 = .bool x26_2 ∧ Aside0 (jobshelllaw26_TtyTyped.j0 kq a0 a1 x26_2 = some r) ∧ Aside0 (kq ≤ k) ∧ Aside0 (Below w.heap.size w wc))
 case first =>
  have H := HC3.out
  clear HC3
  by_cases c4 : (a0.size : Int) > 4096
  ·rw [if_pos c4] at H
   have c4b0 : decide (4096 < (a0.size : Int)) = true := decide_eq_true c4
   have c4b1 : decide (4096 < a0.size) = true := decide_eq_true (by omega)
   clear c4
   (first | rw [c4b0] | (simp only [i64_w, i32_w]; rw [c4b0]) | skip)
   have H' := Aside0.mk H
   clear H
   go_wp2
   go_meet
   case rel => exact ⟨_, (true), (by first | rfl | (simp; done) | (simp [*]; done) | (generalize ByteArray.toList _ = l_; cases l_ <;> rfl)), H', ⟨by first | omega | exact Nat.le_refl _⟩, ⟨by repeat (first | (with_reducible first | exact HB.out | apply below_alloc | apply pw_below_drewN | apply below_drew1) | exact HB.out)⟩⟩
  ·rw [if_neg c4] at H
   have c4b0 : decide (4096 < (a0.size : Int)) = false := decide_eq_false c4
   have c4b1 : decide (4096 < a0.size) = false := decide_eq_false (by omega)
   clear c4
   (first | rw [c4b0] | (simp only [i64_w, i32_w]; rw [c4b0]) | skip)
   replace H := Option.bind_eq_some_iff.mp H
   obtain ⟨t412, A50, H⟩ := H
   replace H : (if t412 = true then (jobshelllaw26_TtyTyped.j0 k a0 a1 (decide (a1 < 1))) else (jobshelllaw26_TtyTyped.j0 k a0 a1 true)) = some r := H
   have A5 := Aside0.mk A50
   clear A50
   by_cases c6 : t412 = true
   ·subst c6
    have H1 : (jobshelllaw26_TtyTyped.j0 k a0 a1 (decide (a1 < 1))) = some r := by rw [if_pos rfl] at H; exact H
    clear H
    have H := H1
    clear H1
    have H' := Aside0.mk H
    clear H
    go_wp2_with (first | (go_at_call 22; (with_reducible refine (jobshellref26_Texts.calls k a0 true _ A5.out).mono ?_); rintro e w' ⟨rfl, ⟨nd, rfl⟩⟩))
    go_meet
    case rel => exact ⟨_, (decide (a1 < 1)), (by first | rfl | (simp; done) | (simp [*]; done) | (generalize ByteArray.toList _ = l_; cases l_ <;> rfl)), H', ⟨by first | omega | exact Nat.le_refl _⟩, ⟨by repeat (first | (with_reducible first | exact HB.out | apply below_alloc | apply pw_below_drewN | apply below_drew1) | exact HB.out)⟩⟩
   ·replace c6 := Bool.eq_false_iff.mpr c6
    subst c6
    have H1 : (jobshelllaw26_TtyTyped.j0 k a0 a1 true) = some r := by rw [if_neg (show ¬ (false = true) by decide)] at H; exact H
    clear H
    have H := H1
    clear H1
    have H' := Aside0.mk H
    clear H
    go_wp2_with (first | (go_at_call 22; (with_reducible refine (jobshellref26_Texts.calls k a0 false _ A5.out).mono ?_); rintro e w' ⟨rfl, ⟨nd, rfl⟩⟩))
    go_meet
    case rel => exact ⟨_, (true), (by first | rfl | (simp; done) | (simp [*]; done) | (generalize ByteArray.toList _ = l_; cases l_ <;> rfl)), H', ⟨by first | omega | exact Nat.le_refl _⟩, ⟨by repeat (first | (with_reducible first | exact HB.out | apply below_alloc | apply pw_below_drewN | apply below_drew1) | exact HB.out)⟩⟩
 case rest =>
  clear HC3
  try clear p2
  try clear c4
  try clear c4b0
  try clear c4b1
  try clear c5
  try clear c6
  obtain ⟨kq, x26_2, rfl, HA, HJ2, HB⟩ := hcut
  cases kq with
  | zero => exact absurd HA.out (by simp [jobshelllaw26_TtyTyped.j0])
  | succ kj2 =>
   have H := HA.out
   clear HA
   simp only [jobshelllaw26_TtyTyped.j0] at H
   by_cases c7 : x26_2 = true
   ·subst c7
    have H1 : ((jobshelllaw26_awake.f kj2).bind fun t413 => (some t413)) = some r := by rw [if_pos rfl] at H; exact H
    clear H
    have H := H1
    clear H1
    replace H := Option.bind_eq_some_iff.mp H
    obtain ⟨t413, A80, H⟩ := H
    replace H : (some t413) = some r := H
    have A8 := Aside0.mk A80
    clear A80
    obtain rfl := Option.some.inj H
    go_wp2_with (first | ((with_reducible refine gate_callee (f := 11) rfl ?_); refine goesL_ (some 27) rfl rfl Try.func11 (by kernel_rfl) rfl #[] rfl (by (try simp only [List.map_toArray, List.map_cons, List.map_nil]); first | done | rfl | (simp only [List.length_drop, List.length_take]; rfl)) ?_; (with_reducible refine (jobshelllaw26_awake.calls kj2  t413 _ A8.out).mono ?_); rintro e w9 ⟨rfl, hb⟩; refine ⟨_, rfl, ?_⟩; have n0_ := Aside0.mk (below_step (by repeat (first | (with_reducible first | exact HB.out | apply below_alloc | apply pw_below_drewN | apply below_drew1) | exact HB.out)) hb); clear HB; have HB := n0_; clear n0_; (try clear hb); (try clear hb2); (try clear hk); (try clear hi)))
    go_ret
    exact ⟨by first | rfl | (simp [errW_none, errW_some] <;> rfl) | (simp [*, errW_none, errW_some] <;> rfl), by repeat (first | (with_reducible first | exact HB.out | apply below_alloc | apply pw_below_drewN | apply below_drew1) | exact HB.out)⟩
   ·replace c7 := Bool.eq_false_iff.mpr c7
    subst c7
    have H1 : (if a0.size + 1 ≤ 9223372036854775807 then ((tty_Feed.f kj2 0 0 (⟨#[]⟩ : ByteArray) ([] : List ByteArray) (⟨#[]⟩ : ByteArray) false (a0 ++ (⟨#[10]⟩ : ByteArray))).bind fun bt414 => (if (bt414.2.2.2.2.2.2.length : Int) > 0 then (jobshelllaw26_TtyTyped.j1 kj2 a0 a1 true bt414.1 bt414.2.1 bt414.2.2.1 bt414.2.2.2.1 bt414.2.2.2.2.1 bt414.2.2.2.2.2.1) else (jobshelllaw26_TtyTyped.j1 kj2 a0 a1 (bt414.2.2.1.toList != ([] : List UInt8)) bt414.1 bt414.2.1 bt414.2.2.1 bt414.2.2.2.1 bt414.2.2.2.2.1 bt414.2.2.2.2.2.1))) else (none)) = some r := by rw [if_neg (show ¬ (false = true) by decide)] at H; exact H
    clear H
    have H := H1
    clear H1
    by_cases c10 : a0.size + 1 ≤ 9223372036854775807
    ·rw [if_pos c10] at H
     have c10b0 := eq_true c10
     have c10b1 : decide (a0.size + 1 ≤ 9223372036854775807) = true := decide_eq_true c10
     try have c10b2 : (9223372036854775807 < a0.size + 1) = False := eq_false (Nat.not_lt.2 c10)
     (try (have c10b3 := c10b2; simp only [Int.toNat_natCast, ByteArray.extract_zero_size] at c10b3))
     clear c10
     replace H := Option.bind_eq_some_iff.mp H
     obtain ⟨⟨t414, t415, t416, t417, t420, t421, t422⟩, A110, H⟩ := H
     replace H : (if (t422.length : Int) > 0 then (jobshelllaw26_TtyTyped.j1 kj2 a0 a1 true t414 t415 t416 t417 t420 t421) else (jobshelllaw26_TtyTyped.j1 kj2 a0 a1 (t416.toList != ([] : List UInt8)) t414 t415 t416 t417 t420 t421)) = some r := H
     have A11 := Aside0.mk A110
     clear A110
     have HC12 := Aside0.mk H
     clear H
     go_upto_region 4 with (first | ((with_reducible refine gate_callee (f := 14) rfl ?_); refine goesL_ (some 32) rfl rfl Try.func14 (by kernel_rfl) rfl #[.agg #[.int .i64 0, .int .i64 0, .string (⟨#[]⟩ : ByteArray), .slice none 0 0, .string (⟨#[]⟩ : ByteArray), .bool false], .string (a0 ++ (⟨#[10]⟩ : ByteArray))] rfl (by (try simp only [List.map_toArray, List.map_cons, List.map_nil]); first | done | rfl | (simp only [List.length_drop, List.length_take]; rfl)) ?_; (refine (tty_Feed.calls kj2 0 0 (⟨#[]⟩ : ByteArray) (fun k_ => False) _ _ ([] : List ByteArray) (⟨#[]⟩ : ByteArray) false (a0 ++ (⟨#[10]⟩ : ByteArray)) t414 t415 t416 t417 t420 t421 t422 _ ?side1 A11.out).mono ?_); (case side1 => exact Kd.V_nil _ _ _ _ _); rintro e w13 ⟨v418, v423, rfl, ho0, ho1, hb⟩; refine ⟨_, rfl, ?_⟩; have n0_ := Aside0.mk (Kd.V_lower (Kd.V_mono (ok' := fun k_ => some k_ ≠ (v423 : Value).ownBlock) ho0 (fun k_ hk_ => hk_.2)) (below_size (by repeat (first | (with_reducible first | exact HB.out | apply below_alloc | apply pw_below_drewN | apply below_drew1) | exact HB.out)))); have n1_ := Aside0.mk (Kd.R_lower (Kd.R_mono (ok' := fun k_ => True) ho1 (fun _ hk_ => trivial)) (below_size (by repeat (first | (with_reducible first | exact HB.out | apply below_alloc | apply pw_below_drewN | apply below_drew1) | exact HB.out)))); have n2_ := Aside0.mk (below_step (by repeat (first | (with_reducible first | exact HB.out | apply below_alloc | apply pw_below_drewN | apply below_drew1) | exact HB.out)) hb); clear HB; have HO419 := n0_; have HO424 := n1_; have HB := n2_; clear n0_ n1_ n2_; (try clear hb); (try clear hb2); (try clear hk); (try clear hi); (try clear ho0); (try clear ho1); obtain ⟨Ao14, co14, eo14⟩ := Kd.V_slice HO419.out; subst eo14) | ((with_reducible refine gate_dst (N := 5) rfl ?_); (try (refine gate_guard (by rfl) ?_; dsimp only)); refine box2_event 24 ?hg ?hg2 (N := 5) ?hd ?hd2 (.tmp 33) ?ho2 (cs0 := #[.int .i64 0, .int .i64 0, .string (⟨#[]⟩ : ByteArray), .slice none 0 0, .string (⟨#[]⟩ : ByteArray), .bool false]) (cs := #[.int .i64 t414, .int .i64 t415, .string t416, .slice Ao14 t417.length co14, .string t420, .bool t421]) ?hr ?hi ?hs ?h1 ?hp ?hv ?_; (case hd => rfl); (case hd2 => rfl); (case hg => rfl); (case hg2 => rfl); (case ho2 => rfl); (case hr => first | (go_simp; done) | (go_simp; rfl)); (case hi => kernel_rfl); (case hs => rfl); (case h1 => rfl); (case hp => intro v_; rfl); (case hv => intro v_; rfl); intro gb425 hg w15 hbox hb; have n0_ := Aside0.mk (Kd.V_below (Kd.V_elderB (by (with_reducible repeat (first | apply Kd.V_alloc | apply Kd.V_drewN | apply Kd.V_drew)); exact HO419.out) gb425 (Nat.le_of_eq hg.symm)) hb); have n1_ := Aside0.mk (Kd.R_below (by (with_reducible repeat (first | apply Kd.R_alloc | apply Kd.R_drewN | apply Kd.R_drew)); exact HO424.out) hb); have n2_ := Aside0.mk (below_step (by repeat (first | (with_reducible first | exact HB.out | apply below_alloc | apply pw_below_drewN | apply below_drew1) | exact HB.out)) hb); have n3_ := Aside0.mk (hbox); have n4_ := Aside0.mk ((by rw [hg]; exact (below_size (by repeat (first | (with_reducible first | exact HB.out | apply below_alloc | apply pw_below_drewN | apply below_drew1) | exact HB.out))) : w.heap.size ≤ gb425)); have n5_ := Aside0.mk ((by rw [hg]; exact (below_size (by repeat (first | (with_reducible first | exact HB.out | apply below_alloc | apply pw_below_drewN | apply below_drew1) | exact HB.out))) : w.heap.size ≤ gb425)); clear HO419; clear HO424; clear HB; have HO419 := n0_; have HO424 := n1_; have HB := n2_; have BK425 := n3_; have GW425 := n4_; have GE425 := n5_; clear n0_ n1_ n2_ n3_ n4_ n5_; clear hb hbox hg))
     (try simp only [Act.put, List.setIfInBounds_toArray, List.set_cons_zero, List.set_cons_succ])
     go_cut [42] (fun v42 wc => ∃ (kq : Nat) (x42_11 : Bool), v42 = .bool x42_11 ∧ Aside0 (jobshelllaw26_TtyTyped.j1 kq a0 a1 x42_11 t414 t415 t416 t417 t420 t421 = some r) ∧ Aside0 (kq ≤ kj2) ∧ Aside0 (Kd.V Kd.string 9 wc w.heap.size (fun k_ => k_ ≠ gb425) (.slice Ao14 t417.length co14) t417) ∧ Aside0 (wc.heap[gb425]? = some (.cells #[.int .i64 t414, .int .i64 t415, .string t416, (.slice Ao14 t417.length co14), .string t420, .bool t421] 24 (0, 0))) ∧ Aside0 (Below w.heap.size w wc))
     case first =>
      have H := HC12.out
      clear HC12
      by_cases c16 : (t422.length : Int) > 0
      ·rw [if_pos c16] at H
       have c16b0 : decide (0 < (t422.length : Int)) = true := decide_eq_true c16
       have c16b1 : decide (0 < t422.length) = true := decide_eq_true (by omega)
       clear c16
       (first | rw [c16b0] | (simp only [i64_w, i32_w]; rw [c16b0]) | skip)
       have H' := Aside0.mk H
       clear H
       obtain ⟨Ao17, co17, eo17⟩ := Kd.R_slice HO424.out
       subst eo17
       go_wp2
       go_meet
       case rel => exact ⟨_, (true), (by first | rfl | (simp; done) | (simp [*]; done) | (generalize ByteArray.toList _ = l_; cases l_ <;> rfl)), H', ⟨by have := HJ2.out; first | omega | exact Nat.le_refl _⟩, ⟨by (with_reducible repeat (first | apply Kd.V_alloc | apply Kd.V_drewN | apply Kd.V_drew)); exact Kd.V_mono HO419.out (fun _ hk => hk.2)⟩, ⟨by (with_reducible repeat (first | refine blk_drewN ?_ _ | refine blk_drew ?_ | refine blk_alloc ?_ _)); exact BK425.out⟩, ⟨by repeat (first | (with_reducible first | exact HB.out | apply below_alloc | apply pw_below_drewN | apply below_drew1 | refine below_set ?_ GE425.out) | exact HB.out)⟩⟩
      ·rw [if_neg c16] at H
       have c16b0 : decide (0 < (t422.length : Int)) = false := decide_eq_false c16
       have c16b1 : decide (0 < t422.length) = false := decide_eq_false (by omega)
       clear c16
       (first | rw [c16b0] | (simp only [i64_w, i32_w]; rw [c16b0]) | skip)
       have H' := Aside0.mk H
       clear H
       obtain ⟨Ao18, co18, eo18⟩ := Kd.R_slice HO424.out
       subst eo18
       have hcz19_0 : w15.cell? ⟨gb425, 0, none⟩ = some (.int .i64 t414) := (blk_cell BK425.out 0).trans rfl
       have hcz19_1 : w15.cell? ⟨gb425, 1, none⟩ = some (.int .i64 t415) := (blk_cell BK425.out 1).trans rfl
       have hcz19_2 : w15.cell? ⟨gb425, 2, none⟩ = some (.string t416) := (blk_cell BK425.out 2).trans rfl
       have hcz19_3 : w15.cell? ⟨gb425, 3, none⟩ = some (.slice Ao14 t417.length co14) := (blk_cell BK425.out 3).trans rfl
       have hcz19_4 : w15.cell? ⟨gb425, 4, none⟩ = some (.string t420) := (blk_cell BK425.out 4).trans rfl
       have hcz19_5 : w15.cell? ⟨gb425, 5, none⟩ = some (.bool t421) := (blk_cell BK425.out 5).trans rfl
       have hfz19_0 := blk_frozen BK425.out 0
       have hfz19_1 := blk_frozen BK425.out 1
       have hfz19_2 := blk_frozen BK425.out 2
       have hfz19_3 := blk_frozen BK425.out 3
       have hfz19_4 := blk_frozen BK425.out 4
       have hfz19_5 := blk_frozen BK425.out 5
       go_wp2
       go_meet
       case rel => exact ⟨_, ((t416.toList != ([] : List UInt8))), (by first | rfl | (simp; done) | (simp [*]; done) | (generalize ByteArray.toList _ = l_; cases l_ <;> rfl)), H', ⟨by have := HJ2.out; first | omega | exact Nat.le_refl _⟩, ⟨by (with_reducible repeat (first | apply Kd.V_alloc | apply Kd.V_drewN | apply Kd.V_drew)); exact Kd.V_mono HO419.out (fun _ hk => hk.2)⟩, ⟨by (with_reducible repeat (first | refine blk_drewN ?_ _ | refine blk_drew ?_ | refine blk_alloc ?_ _)); exact BK425.out⟩, ⟨by repeat (first | (with_reducible first | exact HB.out | apply below_alloc | apply pw_below_drewN | apply below_drew1 | refine below_set ?_ GE425.out) | exact HB.out)⟩⟩
     case rest =>
      clear HC12
      try clear c1
      try clear p2
      try clear c4
      try clear c4b0
      try clear c4b1
      try clear c5
      try clear c6
      try clear c7
      try clear c10
      try clear c10b0
      try clear c10b1
      try clear c10b2
      try clear c11
      try clear c14
      try clear c16
      try clear c16b0
      try clear c16b1
      try clear hcz19_0
      try clear hcz19_1
      try clear hcz19_2
      try clear hcz19_3
      try clear hcz19_4
      try clear hcz19_5
      try clear hfz19_0
      try clear hfz19_1
      try clear hfz19_2
      try clear hfz19_3
      try clear hfz19_4
      try clear hfz19_5
      try clear p2
      obtain ⟨kq, x42_11, rfl, HA, HJ11, HO_426003, BK425, HB⟩ := hcut
      cases kq with
      | zero => exact absurd HA.out (by simp [jobshelllaw26_TtyTyped.j1])
      | succ kj11 =>
       have H := HA.out
       clear HA
       simp only [jobshelllaw26_TtyTyped.j1] at H
       by_cases c20 : x42_11 = true
       ·subst c20
        have H1 : (none) = some r := by rw [if_pos rfl] at H; exact H
        clear H
        have H := H1
        clear H1
        exact absurd H (by simp)
       ·replace c20 := Bool.eq_false_iff.mpr c20
        subst c20
        have H1 : (jobshelllaw26_TtyTyped.l0 kj11 a0 a1 (⟨#[]⟩ : ByteArray) 0 t414 t415 t416 t417 t420 t421) = some r := by rw [if_neg (show ¬ (false = true) by decide)] at H; exact H
        clear H
        have H := H1
        clear H1
        have H' := Aside0.mk H
        clear H
        go_wp2
        go_loopg [7, 8] kj11 (fun kq v7 v8 w' => ∃ (x7_3 : ByteArray) (x8_3 : Int) (x426000_3 : Int) (x426001_3 : Int) (x426002_3 : ByteArray) (x426003_3 : List ByteArray) (x426004_3 : ByteArray) (x426005_3 : Bool) (u426003 : Value), v7 = .string x7_3 ∧ v8 = .int .i64 x8_3 ∧ Aside0 (jobshelllaw26_TtyTyped.l0 kq a0 a1 x7_3 x8_3 x426000_3 x426001_3 x426002_3 x426003_3 x426004_3 x426005_3 = some r) ∧ Aside0 (kq ≤ kj11) ∧ Aside0 (Kd.V Kd.string 9 w' w.heap.size (fun k_ => k_ ≠ gb425) u426003 x426003_3) ∧ Aside0 (w'.heap[gb425]? = some (.cells #[.int .i64 x426000_3, .int .i64 x426001_3, .string x426002_3, u426003, .string x426004_3, .bool x426005_3] 24 (0, 0))) ∧ Aside0 (Below w.heap.size w w'))
        case atStart => exact ⟨((⟨#[]⟩ : ByteArray)), (0), (t414), (t415), (t416), (t417), (t420), (t421), (.slice Ao14 t417.length co14), (by first | rfl | (simp; done) | (simp [*]; done) | (generalize ByteArray.toList _ = l_; cases l_ <;> rfl)), (by first | rfl | (simp; done) | (simp [*]; done) | (generalize ByteArray.toList _ = l_; cases l_ <;> rfl)), H', ⟨Nat.le_refl _⟩, ⟨by (with_reducible repeat (first | apply Kd.V_alloc | apply Kd.V_drewN | apply Kd.V_drew)); exact HO_426003.out⟩, ⟨by (with_reducible repeat (first | refine blk_drewN ?_ _ | refine blk_drew ?_ | refine blk_alloc ?_ _)); exact BK425.out⟩, ⟨by repeat (first | (with_reducible first | exact HB.out | apply below_alloc | apply pw_below_drewN | apply below_drew1 | refine below_set ?_ GE425.out) | exact HB.out)⟩⟩
        case round =>
         clear H'
         try clear c1
         try clear c2
         try clear p2
         try clear c4
         try clear c4b0
         try clear c4b1
         try clear c5
         try clear c6
         try clear c7
         try clear c10
         try clear c10b0
         try clear c10b1
         try clear c10b2
         try clear c11
         try clear c14
         try clear c16
         try clear c16b0
         try clear c16b1
         try clear c20
         try clear hcz19_0
         try clear hcz19_1
         try clear hcz19_2
         try clear hcz19_3
         try clear hcz19_4
         try clear hcz19_5
         try clear hfz19_0
         try clear hfz19_1
         try clear hfz19_2
         try clear hfz19_3
         try clear hfz19_4
         try clear hfz19_5
         try clear p2
         obtain ⟨x7_3, x8_3, x426000_3, x426001_3, x426002_3, x426003_3, x426004_3, x426005_3, u426003, rfl, rfl, HA, HK3, HO_426003, BK425, HB⟩ := hrel
         cases gk with
         | zero => exact absurd HA.out (by simp [jobshelllaw26_TtyTyped.l0])
         | succ k3 =>
          have H := HA.out
          clear HA
          simp only [jobshelllaw26_TtyTyped.l0] at H
          by_cases c21 : x8_3 ≤ (a0.size : Int)
          ·rw [if_pos c21] at H
           have c21b0 : decide (x8_3 ≤ (a0.size : Int)) = true := decide_eq_true c21
           clear c21
           replace H := Option.bind_eq_some_iff.mp H
           obtain ⟨⟨t438, t439, t440, t441, t444, t445, t446, t447⟩, A220, H⟩ := H
           replace H : (if t447 = 1 then (if t446.toList = ([] : List UInt8) then (jobshelllaw26_TtyTyped.j3 k3 a0 a1 x7_3 x8_3 t446 true t438 t439 t440 t441 t444 t445) else (jobshelllaw26_TtyTyped.j3 k3 a0 a1 x7_3 x8_3 t446 (decide ((t446.size : Int) > a1)) t438 t439 t440 t441 t444 t445)) else (jobshelllaw26_TtyTyped.j3 k3 a0 a1 x7_3 x8_3 t446 true t438 t439 t440 t441 t444 t445)) = some r := H
           have A22 := Aside0.mk A220
           clear A220
           have HC23 := Aside0.mk H
           clear H
           have hcz24_0 : wr.cell? ⟨gb425, 0, none⟩ = some (.int .i64 x426000_3) := (blk_cell BK425.out 0).trans rfl
           have hcz24_1 : wr.cell? ⟨gb425, 1, none⟩ = some (.int .i64 x426001_3) := (blk_cell BK425.out 1).trans rfl
           have hcz24_2 : wr.cell? ⟨gb425, 2, none⟩ = some (.string x426002_3) := (blk_cell BK425.out 2).trans rfl
           have hcz24_3 : wr.cell? ⟨gb425, 3, none⟩ = some (u426003) := (blk_cell BK425.out 3).trans rfl
           have hcz24_4 : wr.cell? ⟨gb425, 4, none⟩ = some (.string x426004_3) := (blk_cell BK425.out 4).trans rfl
           have hcz24_5 : wr.cell? ⟨gb425, 5, none⟩ = some (.bool x426005_3) := (blk_cell BK425.out 5).trans rfl
           have hfz24_0 := blk_frozen BK425.out 0
           have hfz24_1 := blk_frozen BK425.out 1
           have hfz24_2 := blk_frozen BK425.out 2
           have hfz24_3 := blk_frozen BK425.out 3
           have hfz24_4 := blk_frozen BK425.out 4
           have hfz24_5 := blk_frozen BK425.out 5
           obtain ⟨Ao25, co25, eo25⟩ := Kd.V_slice HO_426003.out
           subst eo25
           go_upto_region 11 with (first | ((with_reducible refine gate_callee (f := 18) rfl ?_); refine goesL_ (some 52) rfl rfl Try.func18 (by kernel_rfl) rfl #[.agg #[.int .i64 x426000_3, .int .i64 x426001_3, .string x426002_3, .slice Ao25 x426003_3.length co25, .string x426004_3, .bool x426005_3], .int .i64 a1] rfl (by (try simp only [List.map_toArray, List.map_cons, List.map_nil]); first | done | rfl | (simp only [List.length_drop, List.length_take]; rfl)) ?_; (with_reducible refine (tty_Read.calls x426000_3 x426001_3 x426002_3 (fun k_ => k_ ≠ gb425) _ _ x426003_3 x426004_3 x426005_3 a1 t438 t439 t440 t441 t444 t445 t446 t447 _ ?side1 A22.out).mono ?_); (case side1 => exact HO_426003.out); rintro e w26 ⟨v442, rfl, ho0, hb⟩; refine ⟨_, rfl, ?_⟩; have n0_ := Aside0.mk (Kd.V_below (by (with_reducible repeat (first | apply Kd.V_alloc | apply Kd.V_drewN | apply Kd.V_drew)); exact HO_426003.out) hb); have n1_ := Aside0.mk (Kd.V_lower (Kd.V_mono (ok' := fun k_ => k_ ≠ gb425) ho0 (fun k_ hk_ => Or.elim hk_ (fun hs_ => hs_) (fun hn_ => (Kd.freshB (g := gb425) (o := .cells #[.int .i64 x426000_3, .int .i64 x426001_3, .string x426002_3, .slice Ao25 x426003_3.length co25, .string x426004_3, .bool x426005_3] 24 (0, 0)) (by (with_reducible repeat (first | refine blk_drewN ?_ _ | refine blk_drew ?_ | refine blk_alloc ?_ _)); exact BK425.out) k_ hn_)))) (below_size (by repeat (first | (with_reducible first | exact HB.out | apply below_alloc | apply pw_below_drewN | apply below_drew1 | refine below_set ?_ GE425.out) | exact HB.out)))); have n2_ := Aside0.mk (blk_below (g := gb425) (o := .cells #[.int .i64 x426000_3, .int .i64 x426001_3, .string x426002_3, .slice Ao25 x426003_3.length co25, .string x426004_3, .bool x426005_3] 24 (0, 0)) (by (with_reducible repeat (first | refine blk_drewN ?_ _ | refine blk_drew ?_ | refine blk_alloc ?_ _)); exact BK425.out) hb); have n3_ := Aside0.mk (below_step (by repeat (first | (with_reducible first | exact HB.out | apply below_alloc | apply pw_below_drewN | apply below_drew1 | refine below_set ?_ GE425.out) | exact HB.out)) hb); clear HO_426003; clear BK425; clear HB; have HO_426003 := n0_; have HO443 := n1_; have BK425 := n2_; have HB := n3_; clear n0_ n1_ n2_ n3_; (try clear hb); (try clear hb2); (try clear hk); (try clear hi); (try clear ho0); obtain ⟨Ao27, co27, eo27⟩ := Kd.V_slice HO443.out; subst eo27) | ((with_reducible refine gate_dst (N := 9) rfl ?_); (try (refine gate_guard (by rfl) ?_; dsimp only)); refine box2_event 24 ?hg ?hg2 (N := 9) ?hd ?hd2 (.tmp 53) ?ho2 (cs0 := #[.int .i64 0, .int .i64 0, .string (⟨#[]⟩ : ByteArray), .slice none 0 0, .string (⟨#[]⟩ : ByteArray), .bool false]) (cs := #[.int .i64 t438, .int .i64 t439, .string t440, .slice Ao27 t441.length co27, .string t444, .bool t445]) ?hr ?hi ?hs ?h1 ?hp ?hv ?_; (case hd => rfl); (case hd2 => rfl); (case hg => rfl); (case hg2 => rfl); (case ho2 => rfl); (case hr => first | (go_simp; done) | (go_simp; rfl)); (case hi => kernel_rfl); (case hs => rfl); (case h1 => rfl); (case hp => intro v_; rfl); (case hv => intro v_; rfl); intro gb448 hg w28 hbox hb; have n0_ := Aside0.mk (Kd.V_below (Kd.V_elderB (by (with_reducible repeat (first | apply Kd.V_alloc | apply Kd.V_drewN | apply Kd.V_drew)); exact HO_426003.out) gb448 (Nat.le_of_eq hg.symm)) hb); have n1_ := Aside0.mk (Kd.V_below (Kd.V_elderB (by (with_reducible repeat (first | apply Kd.V_alloc | apply Kd.V_drewN | apply Kd.V_drew)); exact HO443.out) gb448 (Nat.le_of_eq hg.symm)) hb); have n2_ := Aside0.mk (blk_below (g := gb425) (o := .cells #[.int .i64 x426000_3, .int .i64 x426001_3, .string x426002_3, .slice Ao25 x426003_3.length co25, .string x426004_3, .bool x426005_3] 24 (0, 0)) (by (with_reducible repeat (first | refine blk_drewN ?_ _ | refine blk_drew ?_ | refine blk_alloc ?_ _)); exact BK425.out) hb); have n3_ := Aside0.mk (below_step (by repeat (first | (with_reducible first | exact HB.out | apply below_alloc | apply pw_below_drewN | apply below_drew1 | refine below_set ?_ GE425.out) | exact HB.out)) hb); have n4_ := Aside0.mk (hbox); have n5_ := Aside0.mk ((by rw [hg]; exact (below_size (by repeat (first | (with_reducible first | exact HB.out | apply below_alloc | apply pw_below_drewN | apply below_drew1 | refine below_set ?_ GE425.out) | exact HB.out))) : w.heap.size ≤ gb448)); have n6_ := Aside0.mk ((by rw [hg]; exact (below_size (by repeat (first | (with_reducible first | exact HB.out | apply below_alloc | apply pw_below_drewN | apply below_drew1 | refine below_set ?_ GE425.out) | exact HB.out))) : w.heap.size ≤ gb448)); have n7_ := Aside0.mk ((by rw [hg]; exact Nat.ne_of_lt (blk_lt (g := gb425) (o := .cells #[.int .i64 x426000_3, .int .i64 x426001_3, .string x426002_3, .slice Ao25 x426003_3.length co25, .string x426004_3, .bool x426005_3] 24 (0, 0)) (by (with_reducible repeat (first | refine blk_drewN ?_ _ | refine blk_drew ?_ | refine blk_alloc ?_ _)); exact BK425.out)) : gb425 ≠ gb448)); have n8_ := Aside0.mk ((by rw [hg]; exact Nat.ne_of_gt (blk_lt (g := gb425) (o := .cells #[.int .i64 x426000_3, .int .i64 x426001_3, .string x426002_3, .slice Ao25 x426003_3.length co25, .string x426004_3, .bool x426005_3] 24 (0, 0)) (by (with_reducible repeat (first | refine blk_drewN ?_ _ | refine blk_drew ?_ | refine blk_alloc ?_ _)); exact BK425.out)) : gb448 ≠ gb425)); clear HO_426003; clear HO443; clear BK425; clear HB; have HO_426003 := n0_; have HO443 := n1_; have BK425 := n2_; have HB := n3_; have BK448 := n4_; have GW448 := n5_; have GE448 := n6_; have NB425_448 := n7_; have NB448_425 := n8_; clear n0_ n1_ n2_ n3_ n4_ n5_ n6_ n7_ n8_; clear hb hbox hg))
           (try simp only [Act.put, List.setIfInBounds_toArray, List.set_cons_zero, List.set_cons_succ])
           go_cut [67] (fun v67 wc => ∃ (kq : Nat) (x67_22 : Bool), v67 = .bool x67_22 ∧ Aside0 (jobshelllaw26_TtyTyped.j3 kq a0 a1 x7_3 x8_3 t446 x67_22 t438 t439 t440 t441 t444 t445 = some r) ∧ Aside0 (kq ≤ k3) ∧ Aside0 (Kd.V Kd.string 9 wc w.heap.size (fun k_ => k_ ≠ gb425 ∧ k_ ≠ gb448) (.slice Ao25 x426003_3.length co25) x426003_3) ∧ Aside0 (Kd.V Kd.string 9 wc w.heap.size (fun k_ => k_ ≠ gb425 ∧ k_ ≠ gb448) (.slice Ao27 t441.length co27) t441) ∧ Aside0 (wc.heap[gb425]? = some (.cells #[.int .i64 x426000_3, .int .i64 x426001_3, .string x426002_3, (.slice Ao25 x426003_3.length co25), .string x426004_3, .bool x426005_3] 24 (0, 0))) ∧ Aside0 (wc.heap[gb448]? = some (.cells #[.int .i64 t438, .int .i64 t439, .string t440, (.slice Ao27 t441.length co27), .string t444, .bool t445] 24 (0, 0))) ∧ Aside0 (Below w.heap.size w wc))
           case first =>
            have H := HC23.out
            clear HC23
            by_cases c29 : t447 = 1
            ·rw [if_pos c29] at H
             have c29b0 : (t447 == 1) = true := beq_iff_eq.mpr c29
             have c29b1 : (t447 != 1) = false := bne_eq_false_iff_eq.mpr c29
             clear c29
             (first | rw [c29b0] | (simp only [i64_w, i32_w]; rw [c29b0]) | skip)
             by_cases c30 : t446.toList = ([] : List UInt8)
             ·rw [if_pos c30] at H
              have c30b0 : (t446.toList == ([] : List UInt8)) = true := beq_iff_eq.mpr c30
              have c30b1 : (t446.toList != ([] : List UInt8)) = false := bne_eq_false_iff_eq.mpr c30
              clear c30
              have H' := Aside0.mk H
              clear H
              go_wp2
              go_meet
              case rel => exact ⟨_, (true), (by first | rfl | (simp; done) | (simp [*]; done) | (generalize ByteArray.toList _ = l_; cases l_ <;> rfl)), H', ⟨by have := HJ2.out; have := HJ11.out; have := HK3.out; first | omega | exact Nat.le_refl _⟩, ⟨by (with_reducible repeat (first | apply Kd.V_alloc | apply Kd.V_drewN | apply Kd.V_drew)); exact HO_426003.out⟩, ⟨by (with_reducible repeat (first | apply Kd.V_alloc | apply Kd.V_drewN | apply Kd.V_drew)); exact HO443.out⟩, ⟨by (with_reducible repeat (first | refine blk_drewN ?_ _ | refine blk_drew ?_ | refine blk_alloc ?_ _)); exact BK425.out⟩, ⟨by (with_reducible repeat (first | refine blk_drewN ?_ _ | refine blk_drew ?_ | refine blk_alloc ?_ _)); exact BK448.out⟩, ⟨by repeat (first | (with_reducible first | exact HB.out | apply below_alloc | apply pw_below_drewN | apply below_drew1 | refine below_set ?_ GE425.out | refine below_set ?_ GE448.out) | exact HB.out)⟩⟩
             ·rw [if_neg c30] at H
              have c30b0 : (t446.toList == ([] : List UInt8)) = false := beq_eq_false_iff_ne.mpr c30
              have c30b1 : (t446.toList != ([] : List UInt8)) = true := bne_iff_ne.mpr c30
              have H' := Aside0.mk H
              clear H
              go_wp2
              go_meet
              case rel => exact ⟨_, (decide ((t446.size : Int) > a1)), (by first | rfl | (simp; done) | (simp [*]; done) | (generalize ByteArray.toList _ = l_; cases l_ <;> rfl)), H', ⟨by have := HJ2.out; have := HJ11.out; have := HK3.out; first | omega | exact Nat.le_refl _⟩, ⟨by (with_reducible repeat (first | apply Kd.V_alloc | apply Kd.V_drewN | apply Kd.V_drew)); exact HO_426003.out⟩, ⟨by (with_reducible repeat (first | apply Kd.V_alloc | apply Kd.V_drewN | apply Kd.V_drew)); exact HO443.out⟩, ⟨by (with_reducible repeat (first | refine blk_drewN ?_ _ | refine blk_drew ?_ | refine blk_alloc ?_ _)); exact BK425.out⟩, ⟨by (with_reducible repeat (first | refine blk_drewN ?_ _ | refine blk_drew ?_ | refine blk_alloc ?_ _)); exact BK448.out⟩, ⟨by repeat (first | (with_reducible first | exact HB.out | apply below_alloc | apply pw_below_drewN | apply below_drew1 | refine below_set ?_ GE425.out | refine below_set ?_ GE448.out) | exact HB.out)⟩⟩
            ·rw [if_neg c29] at H
             have c29b0 : (t447 == 1) = false := beq_eq_false_iff_ne.mpr c29
             have c29b1 : (t447 != 1) = true := bne_iff_ne.mpr c29
             (first | rw [c29b0] | (simp only [i64_w, i32_w]; rw [c29b0]) | skip)
             have H' := Aside0.mk H
             clear H
             go_wp2
             go_meet
             case rel => exact ⟨_, (true), (by first | rfl | (simp; done) | (simp [*]; done) | (generalize ByteArray.toList _ = l_; cases l_ <;> rfl)), H', ⟨by have := HJ2.out; have := HJ11.out; have := HK3.out; first | omega | exact Nat.le_refl _⟩, ⟨by (with_reducible repeat (first | apply Kd.V_alloc | apply Kd.V_drewN | apply Kd.V_drew)); exact HO_426003.out⟩, ⟨by (with_reducible repeat (first | apply Kd.V_alloc | apply Kd.V_drewN | apply Kd.V_drew)); exact HO443.out⟩, ⟨by (with_reducible repeat (first | refine blk_drewN ?_ _ | refine blk_drew ?_ | refine blk_alloc ?_ _)); exact BK425.out⟩, ⟨by (with_reducible repeat (first | refine blk_drewN ?_ _ | refine blk_drew ?_ | refine blk_alloc ?_ _)); exact BK448.out⟩, ⟨by repeat (first | (with_reducible first | exact HB.out | apply below_alloc | apply pw_below_drewN | apply below_drew1 | refine below_set ?_ GE425.out | refine below_set ?_ GE448.out) | exact HB.out)⟩⟩
           case rest =>
            clear HC23
            try clear c1
            try clear c2
            try clear p2
            try clear c3
            try clear c4
            try clear c4b0
            try clear c4b1
            try clear c5
            try clear c6
            try clear c7
            try clear c10
            try clear c10b0
            try clear c10b1
            try clear c10b2
            try clear c11
            try clear c14
            try clear c16
            try clear c16b0
            try clear c16b1
            try clear c18
            try clear c20
            try clear c21
            try clear c21b0
            try clear c29
            try clear c29b0
            try clear c29b1
            try clear c30
            try clear c30b0
            try clear c30b1
            try clear hcz19_0
            try clear hcz19_1
            try clear hcz19_2
            try clear hcz19_3
            try clear hcz19_4
            try clear hcz19_5
            try clear hcz24_0
            try clear hcz24_1
            try clear hcz24_2
            try clear hcz24_3
            try clear hcz24_4
            try clear hcz24_5
            try clear hfz19_0
            try clear hfz19_1
            try clear hfz19_2
            try clear hfz19_3
            try clear hfz19_4
            try clear hfz19_5
            try clear hfz24_0
            try clear hfz24_1
            try clear hfz24_2
            try clear hfz24_3
            try clear hfz24_4
            try clear hfz24_5
            try clear p2
            obtain ⟨kq, x67_22, rfl, HA, HJ22, HO_426003, HO_449003, BK425, BK448, HB⟩ := hcut
            cases kq with
            | zero => exact absurd HA.out (by simp [jobshelllaw26_TtyTyped.j3])
            | succ kj22 =>
             have H := HA.out
             clear HA
             simp only [jobshelllaw26_TtyTyped.j3] at H
             by_cases c31 : x67_22 = true
             ·subst c31
              have H1 : (none) = some r := by rw [if_pos rfl] at H; exact H
              clear H
              have H := H1
              clear H1
              exact absurd H (by simp)
             ·replace c31 := Bool.eq_false_iff.mpr c31
              subst c31
              have H1 : (if x7_3.size + t446.size ≤ 9223372036854775807 then (if ((x7_3 ++ t446).size : Int) > (a0.size : Int) then ((tty_Read.f t438 t439 t440 t441 t444 t445 a1).bind fun bt449 => (if a0.size + 1 ≤ 9223372036854775807 then (if (x7_3 ++ t446).toList = (a0 ++ (⟨#[10]⟩ : ByteArray)).toList then (if bt449.2.2.2.2.2.2.2 = 2 then ((jobshelllaw26_awake.f kj22).bind fun t460 => (some t460)) else (none)) else (none)) else (none))) else (jobshelllaw26_TtyTyped.l0 kj22 a0 a1 (x7_3 ++ t446) (wrap64 (x8_3 + 1)) t438 t439 t440 t441 t444 t445)) else (none)) = some r := by rw [if_neg (show ¬ (false = true) by decide)] at H; exact H
              clear H
              have H := H1
              clear H1
              by_cases c32 : x7_3.size + t446.size ≤ 9223372036854775807
              ·rw [if_pos c32] at H
               have c32b0 := eq_true c32
               have c32b1 : decide (x7_3.size + t446.size ≤ 9223372036854775807) = true := decide_eq_true c32
               try have c32b2 : (9223372036854775807 < x7_3.size + t446.size) = False := eq_false (Nat.not_lt.2 c32)
               (try (have c32b3 := c32b2; simp only [Int.toNat_natCast, ByteArray.extract_zero_size] at c32b3))
               clear c32
               by_cases c33 : ((x7_3 ++ t446).size : Int) > (a0.size : Int)
               ·rw [if_pos c33] at H
                have c33b0 : decide ((a0.size : Int) < ((x7_3 ++ t446).size : Int)) = true := decide_eq_true c33
                have c33b1 : decide (a0.size < (x7_3 ++ t446).size) = true := decide_eq_true (Int.ofNat_lt.mp c33)
                have c33b3 : decide ((a0.size : Int) < (x7_3.size : Int) + (t446.size : Int)) = true := by (have h_ := c33b0; rw [ByteArray.size_append, Int.natCast_add] at h_; exact h_)
                clear c33
                replace H := Option.bind_eq_some_iff.mp H
                obtain ⟨⟨t449, t450, t451, t452, t455, t456, t457, t458⟩, A340, H⟩ := H
                replace H : (if a0.size + 1 ≤ 9223372036854775807 then (if (x7_3 ++ t446).toList = (a0 ++ (⟨#[10]⟩ : ByteArray)).toList then (if t458 = 2 then ((jobshelllaw26_awake.f kj22).bind fun t460 => (some t460)) else (none)) else (none)) else (none)) = some r := H
                have A34 := Aside0.mk A340
                clear A340
                by_cases c35 : a0.size + 1 ≤ 9223372036854775807
                ·rw [if_pos c35] at H
                 have c35b0 := eq_true c35
                 have c35b1 : decide (a0.size + 1 ≤ 9223372036854775807) = true := decide_eq_true c35
                 try have c35b2 : (9223372036854775807 < a0.size + 1) = False := eq_false (Nat.not_lt.2 c35)
                 (try (have c35b3 := c35b2; simp only [Int.toNat_natCast, ByteArray.extract_zero_size] at c35b3))
                 clear c35
                 by_cases c36 : (x7_3 ++ t446).toList = (a0 ++ (⟨#[10]⟩ : ByteArray)).toList
                 ·rw [if_pos c36] at H
                  have c36b0 : ((x7_3 ++ t446).toList == (a0 ++ (⟨#[10]⟩ : ByteArray)).toList) = true := beq_iff_eq.mpr c36
                  have c36b1 : ((x7_3 ++ t446).toList != (a0 ++ (⟨#[10]⟩ : ByteArray)).toList) = false := bne_eq_false_iff_eq.mpr c36
                  clear c36
                  by_cases c37 : t458 = 2
                  ·rw [if_pos c37] at H
                   have c37b0 : (t458 == 2) = true := beq_iff_eq.mpr c37
                   have c37b1 : (t458 != 2) = false := bne_eq_false_iff_eq.mpr c37
                   clear c37
                   replace H := Option.bind_eq_some_iff.mp H
                   obtain ⟨t460, A380, H⟩ := H
                   replace H : (some t460) = some r := H
                   have A38 := Aside0.mk A380
                   clear A380
                   obtain rfl := Option.some.inj H
                   try go_wp2
                   have n0_ := Aside0.mk (Kd.V_drew HO_426003.out)
                   have n1_ := Aside0.mk (Kd.V_drew HO_449003.out)
                   have n2_ := Aside0.mk (blk_drew BK425.out)
                   have n3_ := Aside0.mk (blk_drew BK448.out)
                   have n4_ := Aside0.mk (below_drew1 HB.out)
                   clear HO_426003
                   clear HO_449003
                   clear BK425
                   clear BK448
                   clear HB
                   have HO_426003 := n0_
                   have HO_449003 := n1_
                   have BK425 := n2_
                   have BK448 := n3_
                   have HB := n4_
                   clear n0_ n1_ n2_ n3_ n4_
                   refine start_ (n := 6) (S := fun w' => w'.cell? ⟨gb448, 0, none⟩ = some (.int .i64 t438) ∧ w'.cell? ⟨gb448, 1, none⟩ = some (.int .i64 t439) ∧ w'.cell? ⟨gb448, 2, none⟩ = some (.string t440) ∧ w'.cell? ⟨gb448, 3, none⟩ = some (.slice Ao27 t441.length co27) ∧ w'.cell? ⟨gb448, 4, none⟩ = some (.string t444) ∧ w'.cell? ⟨gb448, 5, none⟩ = some (.bool t445)) (ds := []) #[false, false, false, false, false, false] (by kernel_rfl) rfl rfl ⟨(blk_cell BK448.out 0).trans rfl, (blk_cell BK448.out 1).trans rfl, (blk_cell BK448.out 2).trans rfl, (blk_cell BK448.out 3).trans rfl, (blk_cell BK448.out 4).trans rfl, (blk_cell BK448.out 5).trans rfl⟩ (fun hHeld => ?_)
                   generalize wc.drew = w39 at HO_426003 HO_449003 BK425 BK448 HB hHeld ⊢
                   refine pure_ (i := 0) (N := some 68) (v := ?_) (a' := ?_) #[true, false, false, false, false, false] rfl rfl (by kernel_rfl) (fun _ _ _ h => h) (Or.inl ⟨by rfl, ?_⟩) ?_ ?_
                   rotate_left
                   ·intro w'
                    go_simp
                    with_reducible rfl
                   rotate_left
                   ·simp only [Act.put, List.setIfInBounds_toArray, List.set_cons_zero, List.set_cons_succ, i64_w, i32_w]
                    rfl
                   refine pure_ (i := 1) (N := some 69) (v := ?_) (a' := ?_) #[true, true, false, false, false, false] rfl rfl (by kernel_rfl) (fun _ _ _ h => h) (Or.inl ⟨by rfl, ?_⟩) ?_ ?_
                   rotate_left
                   ·intro w'
                    go_simp
                    with_reducible rfl
                   rotate_left
                   ·simp only [Act.put, List.setIfInBounds_toArray, List.set_cons_zero, List.set_cons_succ, i64_w, i32_w]
                    rfl
                   refine pure_ (i := 2) (N := some 70) (v := ?_) (a' := ?_) #[true, true, true, false, false, false] rfl rfl (by kernel_rfl) (fun _ _ _ h => h) (Or.inl ⟨by rfl, ?_⟩) ?_ ?_
                   rotate_left
                   ·intro w'
                    go_simp
                    with_reducible rfl
                   rotate_left
                   ·simp only [Act.put, List.setIfInBounds_toArray, List.set_cons_zero, List.set_cons_succ, i64_w, i32_w]
                    rfl
                   refine pure_ (i := 4) (N := some 7) (v := ?_) (a' := ?_) #[true, true, true, false, true, false] rfl rfl (by kernel_rfl) (fun _ _ _ h => h) (Or.inl ⟨by rfl, ?_⟩) ?_ ?_
                   rotate_left
                   ·intro w'
                    go_simp
                    with_reducible rfl
                   rotate_left
                   ·simp only [Act.put, List.setIfInBounds_toArray, List.set_cons_zero, List.set_cons_succ, i64_w, i32_w]
                    rfl
                   refine take_ (i := 3) (N := some 71) (v := ?_) (a' := ?_) #[true, true, true, true, true, false] rfl rfl (by kernel_rfl) (fun _ _ _ h => h) (Or.inl ⟨by rfl, ?_⟩) hHeld ?_ ?_
                   rotate_left
                   ·rintro w' ⟨s0, s1, s2, s3, s4, s5⟩
                    go_simp
                    with_reducible rfl
                   rotate_left
                   ·simp only [Act.put, List.setIfInBounds_toArray, List.set_cons_zero, List.set_cons_succ, i64_w, i32_w]
                    rfl
                   refine one_ (i := 5) (N := none) #[true, true, true, true, true, true] rfl rfl (by kernel_rfl) (by decide) (fun K hK => ?_)
                   have hs40 : w39.cell? ⟨gb425, 0, none⟩ = some (.int .i64 x426000_3) := (blk_cell BK425.out 0).trans rfl
                   have hfs40 := blk_frozen BK425.out 0
                   have hns40_1 := NB448_425.out
                   have hms40_1 := NB425_448.out
                   have hs41 : w39.cell? ⟨gb425, 1, none⟩ = some (.int .i64 x426001_3) := (blk_cell BK425.out 1).trans rfl
                   have hfs41 := blk_frozen BK425.out 1
                   have hns41_1 := NB448_425.out
                   have hms41_1 := NB425_448.out
                   have hs42 : w39.cell? ⟨gb425, 2, none⟩ = some (.string x426002_3) := (blk_cell BK425.out 2).trans rfl
                   have hfs42 := blk_frozen BK425.out 2
                   have hns42_1 := NB448_425.out
                   have hms42_1 := NB425_448.out
                   have hs43 : w39.cell? ⟨gb425, 3, none⟩ = some (.slice Ao25 x426003_3.length co25) := (blk_cell BK425.out 3).trans rfl
                   have hfs43 := blk_frozen BK425.out 3
                   have hns43_1 := NB448_425.out
                   have hms43_1 := NB425_448.out
                   have hs44 : w39.cell? ⟨gb425, 4, none⟩ = some (.string x426004_3) := (blk_cell BK425.out 4).trans rfl
                   have hfs44 := blk_frozen BK425.out 4
                   have hns44_1 := NB448_425.out
                   have hms44_1 := NB425_448.out
                   have hs45 : w39.cell? ⟨gb425, 5, none⟩ = some (.bool x426005_3) := (blk_cell BK425.out 5).trans rfl
                   have hfs45 := blk_frozen BK425.out 5
                   have hns45_1 := NB448_425.out
                   have hms45_1 := NB425_448.out
                   refine skip_ (w1 := ?_) (by rfl) rfl ?_ ?_
                   rotate_left
                   ·go_simp
                    rfl
                   refine hK.out _ _ ⟨((cell_far (p := ⟨gb425, _, none⟩) NB448_425.out _).trans (((cell_far (p := ⟨gb425, _, none⟩) NB448_425.out _).trans (((cell_far (p := ⟨gb425, _, none⟩) NB448_425.out _).trans (((cell_far (p := ⟨gb425, _, none⟩) NB448_425.out _).trans (((cell_far (p := ⟨gb425, _, none⟩) NB448_425.out _).trans (((cell_far (p := ⟨gb425, _, none⟩) NB448_425.out _).trans (hHeld.1)))))))))))), ((cell_far (p := ⟨gb425, _, none⟩) NB448_425.out _).trans (((cell_far (p := ⟨gb425, _, none⟩) NB448_425.out _).trans (((cell_far (p := ⟨gb425, _, none⟩) NB448_425.out _).trans (((cell_far (p := ⟨gb425, _, none⟩) NB448_425.out _).trans (((cell_far (p := ⟨gb425, _, none⟩) NB448_425.out _).trans (((cell_far (p := ⟨gb425, _, none⟩) NB448_425.out _).trans (hHeld.2.1)))))))))))), ((cell_far (p := ⟨gb425, _, none⟩) NB448_425.out _).trans (((cell_far (p := ⟨gb425, _, none⟩) NB448_425.out _).trans (((cell_far (p := ⟨gb425, _, none⟩) NB448_425.out _).trans (((cell_far (p := ⟨gb425, _, none⟩) NB448_425.out _).trans (((cell_far (p := ⟨gb425, _, none⟩) NB448_425.out _).trans (((cell_far (p := ⟨gb425, _, none⟩) NB448_425.out _).trans (hHeld.2.2.1)))))))))))), ((cell_far (p := ⟨gb425, _, none⟩) NB448_425.out _).trans (((cell_far (p := ⟨gb425, _, none⟩) NB448_425.out _).trans (((cell_far (p := ⟨gb425, _, none⟩) NB448_425.out _).trans (((cell_far (p := ⟨gb425, _, none⟩) NB448_425.out _).trans (((cell_far (p := ⟨gb425, _, none⟩) NB448_425.out _).trans (((cell_far (p := ⟨gb425, _, none⟩) NB448_425.out _).trans (hHeld.2.2.2.1)))))))))))), ((cell_far (p := ⟨gb425, _, none⟩) NB448_425.out _).trans (((cell_far (p := ⟨gb425, _, none⟩) NB448_425.out _).trans (((cell_far (p := ⟨gb425, _, none⟩) NB448_425.out _).trans (((cell_far (p := ⟨gb425, _, none⟩) NB448_425.out _).trans (((cell_far (p := ⟨gb425, _, none⟩) NB448_425.out _).trans (((cell_far (p := ⟨gb425, _, none⟩) NB448_425.out _).trans (hHeld.2.2.2.2.1)))))))))))), ((cell_far (p := ⟨gb425, _, none⟩) NB448_425.out _).trans (((cell_far (p := ⟨gb425, _, none⟩) NB448_425.out _).trans (((cell_far (p := ⟨gb425, _, none⟩) NB448_425.out _).trans (((cell_far (p := ⟨gb425, _, none⟩) NB448_425.out _).trans (((cell_far (p := ⟨gb425, _, none⟩) NB448_425.out _).trans (((cell_far (p := ⟨gb425, _, none⟩) NB448_425.out _).trans (hHeld.2.2.2.2.2))))))))))))⟩ (fun hHeld => ?_)
                   clear hK K
                   refine done_ (by kernel_rfl) ?_
                   have n0_ : Aside0 (Kd.V Kd.string 9 ((((((w39.setCell ⟨gb425, 0, none⟩ (.int .i64 t438)).setCell ⟨gb425, 1, none⟩ (.int .i64 t439)).setCell ⟨gb425, 2, none⟩ (.string t440)).setCell ⟨gb425, 3, none⟩ (.slice Ao27 t441.length co27)).setCell ⟨gb425, 4, none⟩ (.string t444)).setCell ⟨gb425, 5, none⟩ (.bool t445)) w.heap.size (fun k_ => k_ ≠ gb425 ∧ k_ ≠ gb448) (.slice Ao25 x426003_3.length co25) x426003_3) := ⟨by (with_reducible repeat (first | apply Kd.V_alloc | apply Kd.V_drewN | apply Kd.V_drew)); exact Kd.V_mono (Kd.V_far (p := ⟨gb425, 5, none⟩) (Kd.V_far (p := ⟨gb425, 4, none⟩) (Kd.V_far (p := ⟨gb425, 3, none⟩) (Kd.V_far (p := ⟨gb425, 2, none⟩) (Kd.V_far (p := ⟨gb425, 1, none⟩) (Kd.V_far (p := ⟨gb425, 0, none⟩) (Kd.V_mono HO_426003.out (fun k_ hk => (⟨hk, hk.1⟩ : _ ∧ k_ ≠ gb425))) (fun _ hk => hk.2) (.int .i64 t438)) (fun _ hk => hk.2) (.int .i64 t439)) (fun _ hk => hk.2) (.string t440)) (fun _ hk => hk.2) (.slice Ao27 t441.length co27)) (fun _ hk => hk.2) (.string t444)) (fun _ hk => hk.2) (.bool t445)) (fun _ hk => ⟨hk.1.1, hk.1.2⟩)⟩
                   have n1_ : Aside0 (Kd.V Kd.string 9 ((((((w39.setCell ⟨gb425, 0, none⟩ (.int .i64 t438)).setCell ⟨gb425, 1, none⟩ (.int .i64 t439)).setCell ⟨gb425, 2, none⟩ (.string t440)).setCell ⟨gb425, 3, none⟩ (.slice Ao27 t441.length co27)).setCell ⟨gb425, 4, none⟩ (.string t444)).setCell ⟨gb425, 5, none⟩ (.bool t445)) w.heap.size (fun k_ => k_ ≠ gb425 ∧ k_ ≠ gb448) (.slice Ao27 t441.length co27) t441) := ⟨by (with_reducible repeat (first | apply Kd.V_alloc | apply Kd.V_drewN | apply Kd.V_drew)); exact Kd.V_mono (Kd.V_far (p := ⟨gb425, 5, none⟩) (Kd.V_far (p := ⟨gb425, 4, none⟩) (Kd.V_far (p := ⟨gb425, 3, none⟩) (Kd.V_far (p := ⟨gb425, 2, none⟩) (Kd.V_far (p := ⟨gb425, 1, none⟩) (Kd.V_far (p := ⟨gb425, 0, none⟩) (Kd.V_mono HO_449003.out (fun k_ hk => (⟨hk, hk.1⟩ : _ ∧ k_ ≠ gb425))) (fun _ hk => hk.2) (.int .i64 t438)) (fun _ hk => hk.2) (.int .i64 t439)) (fun _ hk => hk.2) (.string t440)) (fun _ hk => hk.2) (.slice Ao27 t441.length co27)) (fun _ hk => hk.2) (.string t444)) (fun _ hk => hk.2) (.bool t445)) (fun _ hk => ⟨hk.1.1, hk.1.2⟩)⟩
                   have n2_ : Aside0 (((((((w39.setCell ⟨gb425, 0, none⟩ (.int .i64 t438)).setCell ⟨gb425, 1, none⟩ (.int .i64 t439)).setCell ⟨gb425, 2, none⟩ (.string t440)).setCell ⟨gb425, 3, none⟩ (.slice Ao27 t441.length co27)).setCell ⟨gb425, 4, none⟩ (.string t444)).setCell ⟨gb425, 5, none⟩ (.bool t445)).heap[gb425]? = some (.cells #[.int .i64 t438, .int .i64 t439, .string t440, .slice Ao27 t441.length co27, .string t444, .bool t445] 24 (0, 0))) := ⟨by (with_reducible repeat (first | refine blk_drewN ?_ _ | refine blk_drew ?_ | refine blk_alloc ?_ _)); refine blk_put (cs := #[.int .i64 t438, .int .i64 t439, .string t440, .slice Ao27 t441.length co27, .string t444, .bool x426005_3]) ?_ 5 _ rfl; (with_reducible repeat (first | refine blk_drewN ?_ _ | refine blk_drew ?_ | refine blk_alloc ?_ _)); refine blk_put (cs := #[.int .i64 t438, .int .i64 t439, .string t440, .slice Ao27 t441.length co27, .string x426004_3, .bool x426005_3]) ?_ 4 _ rfl; (with_reducible repeat (first | refine blk_drewN ?_ _ | refine blk_drew ?_ | refine blk_alloc ?_ _)); refine blk_put (cs := #[.int .i64 t438, .int .i64 t439, .string t440, .slice Ao25 x426003_3.length co25, .string x426004_3, .bool x426005_3]) ?_ 3 _ rfl; (with_reducible repeat (first | refine blk_drewN ?_ _ | refine blk_drew ?_ | refine blk_alloc ?_ _)); refine blk_put (cs := #[.int .i64 t438, .int .i64 t439, .string x426002_3, .slice Ao25 x426003_3.length co25, .string x426004_3, .bool x426005_3]) ?_ 2 _ rfl; (with_reducible repeat (first | refine blk_drewN ?_ _ | refine blk_drew ?_ | refine blk_alloc ?_ _)); refine blk_put (cs := #[.int .i64 t438, .int .i64 x426001_3, .string x426002_3, .slice Ao25 x426003_3.length co25, .string x426004_3, .bool x426005_3]) ?_ 1 _ rfl; (with_reducible repeat (first | refine blk_drewN ?_ _ | refine blk_drew ?_ | refine blk_alloc ?_ _)); refine blk_put (cs := #[.int .i64 x426000_3, .int .i64 x426001_3, .string x426002_3, .slice Ao25 x426003_3.length co25, .string x426004_3, .bool x426005_3]) ?_ 0 _ rfl; (with_reducible repeat (first | refine blk_drewN ?_ _ | refine blk_drew ?_ | refine blk_alloc ?_ _)); exact BK425.out⟩
                   have n3_ : Aside0 (((((((w39.setCell ⟨gb425, 0, none⟩ (.int .i64 t438)).setCell ⟨gb425, 1, none⟩ (.int .i64 t439)).setCell ⟨gb425, 2, none⟩ (.string t440)).setCell ⟨gb425, 3, none⟩ (.slice Ao27 t441.length co27)).setCell ⟨gb425, 4, none⟩ (.string t444)).setCell ⟨gb425, 5, none⟩ (.bool t445)).heap[gb448]? = some (.cells #[.int .i64 t438, .int .i64 t439, .string t440, .slice Ao27 t441.length co27, .string t444, .bool t445] 24 (0, 0))) := ⟨by (with_reducible repeat (first | refine blk_drewN ?_ _ | refine blk_drew ?_ | refine blk_alloc ?_ _)); refine blk_far ?_ NB448_425.out _; (with_reducible repeat (first | refine blk_drewN ?_ _ | refine blk_drew ?_ | refine blk_alloc ?_ _)); refine blk_far ?_ NB448_425.out _; (with_reducible repeat (first | refine blk_drewN ?_ _ | refine blk_drew ?_ | refine blk_alloc ?_ _)); refine blk_far ?_ NB448_425.out _; (with_reducible repeat (first | refine blk_drewN ?_ _ | refine blk_drew ?_ | refine blk_alloc ?_ _)); refine blk_far ?_ NB448_425.out _; (with_reducible repeat (first | refine blk_drewN ?_ _ | refine blk_drew ?_ | refine blk_alloc ?_ _)); refine blk_far ?_ NB448_425.out _; (with_reducible repeat (first | refine blk_drewN ?_ _ | refine blk_drew ?_ | refine blk_alloc ?_ _)); refine blk_far ?_ NB448_425.out _; (with_reducible repeat (first | refine blk_drewN ?_ _ | refine blk_drew ?_ | refine blk_alloc ?_ _)); exact BK448.out⟩
                   have n4_ : Aside0 (Below w.heap.size w ((((((w39.setCell ⟨gb425, 0, none⟩ (.int .i64 t438)).setCell ⟨gb425, 1, none⟩ (.int .i64 t439)).setCell ⟨gb425, 2, none⟩ (.string t440)).setCell ⟨gb425, 3, none⟩ (.slice Ao27 t441.length co27)).setCell ⟨gb425, 4, none⟩ (.string t444)).setCell ⟨gb425, 5, none⟩ (.bool t445))) := ⟨by repeat (first | (with_reducible first | exact HB.out | apply below_alloc | apply pw_below_drewN | apply below_drew1 | refine below_set ?_ GE425.out | refine below_set ?_ GE448.out) | exact HB.out)⟩
                   (try clear HO_426003)
                   (try clear HO_449003)
                   (try clear BK425)
                   (try clear BK448)
                   (try clear HB)
                   generalize ((((((w39.setCell ⟨gb425, 0, none⟩ (.int .i64 t438)).setCell ⟨gb425, 1, none⟩ (.int .i64 t439)).setCell ⟨gb425, 2, none⟩ (.string t440)).setCell ⟨gb425, 3, none⟩ (.slice Ao27 t441.length co27)).setCell ⟨gb425, 4, none⟩ (.string t444)).setCell ⟨gb425, 5, none⟩ (.bool t445)) = w46 at n0_ n1_ n2_ n3_ n4_ ⊢
                   have HO_426003 := n0_
                   have HO_449003 := n1_
                   have BK425 := n2_
                   have BK448 := n3_
                   have HB := n4_
                   clear n0_ n1_ n2_ n3_ n4_
                   have hnb47 := NB425_448.out
                   have hnc47 := NB448_425.out
                   have hcz48_0 : w46.cell? ⟨gb425, 0, none⟩ = some (.int .i64 t438) := (blk_cell BK425.out 0).trans rfl
                   have hcz48_1 : w46.cell? ⟨gb425, 1, none⟩ = some (.int .i64 t439) := (blk_cell BK425.out 1).trans rfl
                   have hcz48_2 : w46.cell? ⟨gb425, 2, none⟩ = some (.string t440) := (blk_cell BK425.out 2).trans rfl
                   have hcz48_3 : w46.cell? ⟨gb425, 3, none⟩ = some (.slice Ao27 t441.length co27) := (blk_cell BK425.out 3).trans rfl
                   have hcz48_4 : w46.cell? ⟨gb425, 4, none⟩ = some (.string t444) := (blk_cell BK425.out 4).trans rfl
                   have hcz48_5 : w46.cell? ⟨gb425, 5, none⟩ = some (.bool t445) := (blk_cell BK425.out 5).trans rfl
                   have hfz48_0 := blk_frozen BK425.out 0
                   have hfz48_1 := blk_frozen BK425.out 1
                   have hfz48_2 := blk_frozen BK425.out 2
                   have hfz48_3 := blk_frozen BK425.out 3
                   have hfz48_4 := blk_frozen BK425.out 4
                   have hfz48_5 := blk_frozen BK425.out 5
                   try go_wp2_with (first | ((with_reducible refine gate_callee (f := 18) rfl ?_); refine goesL_ (some 80) rfl rfl Try.func18 (by kernel_rfl) rfl #[.agg #[.int .i64 t438, .int .i64 t439, .string t440, .slice Ao27 t441.length co27, .string t444, .bool t445], .int .i64 a1] rfl (by (try simp only [List.map_toArray, List.map_cons, List.map_nil]); first | done | rfl | (simp only [List.length_drop, List.length_take]; rfl)) ?_; (with_reducible refine (tty_Read.calls t438 t439 t440 (fun k_ => (k_ ≠ gb425 ∧ k_ ≠ gb448)) _ _ t441 t444 t445 a1 t449 t450 t451 t452 t455 t456 t457 t458 _ ?side1 A34.out).mono ?_); (case side1 => exact HO_449003.out); rintro e w49 ⟨v453, rfl, ho0, hb⟩; refine ⟨_, rfl, ?_⟩; have n0_ := Aside0.mk (Kd.V_below (by (with_reducible repeat (first | apply Kd.V_alloc | apply Kd.V_drewN | apply Kd.V_drew)); exact HO_426003.out) hb); have n1_ := Aside0.mk (Kd.V_below (by (with_reducible repeat (first | apply Kd.V_alloc | apply Kd.V_drewN | apply Kd.V_drew)); exact HO_449003.out) hb); have n2_ := Aside0.mk (Kd.V_lower (Kd.V_mono (ok' := fun k_ => k_ ≠ gb425 ∧ k_ ≠ gb448) ho0 (fun k_ hk_ => ⟨Or.elim hk_ (fun hs_ => hs_.1) (fun hn_ => (Kd.freshB (g := gb425) (o := .cells #[.int .i64 t438, .int .i64 t439, .string t440, .slice Ao27 t441.length co27, .string t444, .bool t445] 24 (0, 0)) (by (with_reducible repeat (first | refine blk_drewN ?_ _ | refine blk_drew ?_ | refine blk_alloc ?_ _)); exact BK425.out) k_ hn_)), Or.elim hk_ (fun hs_ => hs_.2) (fun hn_ => (Kd.freshB (g := gb448) (o := .cells #[.int .i64 t438, .int .i64 t439, .string t440, .slice Ao27 t441.length co27, .string t444, .bool t445] 24 (0, 0)) (by (with_reducible repeat (first | refine blk_drewN ?_ _ | refine blk_drew ?_ | refine blk_alloc ?_ _)); exact BK448.out) k_ hn_))⟩)) (below_size (by repeat (first | (with_reducible first | exact HB.out | apply below_alloc | apply pw_below_drewN | apply below_drew1 | refine below_set ?_ GE425.out | refine below_set ?_ GE448.out) | exact HB.out)))); have n3_ := Aside0.mk (blk_below (g := gb425) (o := .cells #[.int .i64 t438, .int .i64 t439, .string t440, .slice Ao27 t441.length co27, .string t444, .bool t445] 24 (0, 0)) (by (with_reducible repeat (first | refine blk_drewN ?_ _ | refine blk_drew ?_ | refine blk_alloc ?_ _)); exact BK425.out) hb); have n4_ := Aside0.mk (blk_below (g := gb448) (o := .cells #[.int .i64 t438, .int .i64 t439, .string t440, .slice Ao27 t441.length co27, .string t444, .bool t445] 24 (0, 0)) (by (with_reducible repeat (first | refine blk_drewN ?_ _ | refine blk_drew ?_ | refine blk_alloc ?_ _)); exact BK448.out) hb); have n5_ := Aside0.mk (below_step (by repeat (first | (with_reducible first | exact HB.out | apply below_alloc | apply pw_below_drewN | apply below_drew1 | refine below_set ?_ GE425.out | refine below_set ?_ GE448.out) | exact HB.out)) hb); clear HO_426003; clear HO_449003; clear BK425; clear BK448; clear HB; have HO_426003 := n0_; have HO_449003 := n1_; have HO454 := n2_; have BK425 := n3_; have BK448 := n4_; have HB := n5_; clear n0_ n1_ n2_ n3_ n4_ n5_; (try clear hb); (try clear hb2); (try clear hk); (try clear hi); (try clear ho0); obtain ⟨Ao50, co50, eo50⟩ := Kd.V_slice HO454.out; subst eo50) | ((with_reducible refine gate_dst (N := 12) rfl ?_); (try (refine gate_guard (by rfl) ?_; dsimp only)); refine box2_event 24 ?hg ?hg2 (N := 12) ?hd ?hd2 (.tmp 81) ?ho2 (cs0 := #[.int .i64 0, .int .i64 0, .string (⟨#[]⟩ : ByteArray), .slice none 0 0, .string (⟨#[]⟩ : ByteArray), .bool false]) (cs := #[.int .i64 t449, .int .i64 t450, .string t451, .slice Ao50 t452.length co50, .string t455, .bool t456]) ?hr ?hi ?hs ?h1 ?hp ?hv ?_; (case hd => rfl); (case hd2 => rfl); (case hg => rfl); (case hg2 => rfl); (case ho2 => rfl); (case hr => first | (go_simp; done) | (go_simp; rfl)); (case hi => kernel_rfl); (case hs => rfl); (case h1 => rfl); (case hp => intro v_; rfl); (case hv => intro v_; rfl); intro gb459 hg w51 hbox hb; have n0_ := Aside0.mk (Kd.V_below (Kd.V_elderB (by (with_reducible repeat (first | apply Kd.V_alloc | apply Kd.V_drewN | apply Kd.V_drew)); exact HO_426003.out) gb459 (Nat.le_of_eq hg.symm)) hb); have n1_ := Aside0.mk (Kd.V_below (Kd.V_elderB (by (with_reducible repeat (first | apply Kd.V_alloc | apply Kd.V_drewN | apply Kd.V_drew)); exact HO_449003.out) gb459 (Nat.le_of_eq hg.symm)) hb); have n2_ := Aside0.mk (Kd.V_below (Kd.V_elderB (by (with_reducible repeat (first | apply Kd.V_alloc | apply Kd.V_drewN | apply Kd.V_drew)); exact HO454.out) gb459 (Nat.le_of_eq hg.symm)) hb); have n3_ := Aside0.mk (blk_below (g := gb425) (o := .cells #[.int .i64 t438, .int .i64 t439, .string t440, .slice Ao27 t441.length co27, .string t444, .bool t445] 24 (0, 0)) (by (with_reducible repeat (first | refine blk_drewN ?_ _ | refine blk_drew ?_ | refine blk_alloc ?_ _)); exact BK425.out) hb); have n4_ := Aside0.mk (blk_below (g := gb448) (o := .cells #[.int .i64 t438, .int .i64 t439, .string t440, .slice Ao27 t441.length co27, .string t444, .bool t445] 24 (0, 0)) (by (with_reducible repeat (first | refine blk_drewN ?_ _ | refine blk_drew ?_ | refine blk_alloc ?_ _)); exact BK448.out) hb); have n5_ := Aside0.mk (below_step (by repeat (first | (with_reducible first | exact HB.out | apply below_alloc | apply pw_below_drewN | apply below_drew1 | refine below_set ?_ GE425.out | refine below_set ?_ GE448.out) | exact HB.out)) hb); have n6_ := Aside0.mk (hbox); have n7_ := Aside0.mk ((by rw [hg]; exact (below_size (by repeat (first | (with_reducible first | exact HB.out | apply below_alloc | apply pw_below_drewN | apply below_drew1 | refine below_set ?_ GE425.out | refine below_set ?_ GE448.out) | exact HB.out))) : w.heap.size ≤ gb459)); have n8_ := Aside0.mk ((by rw [hg]; exact (below_size (by repeat (first | (with_reducible first | exact HB.out | apply below_alloc | apply pw_below_drewN | apply below_drew1 | refine below_set ?_ GE425.out | refine below_set ?_ GE448.out) | exact HB.out))) : w.heap.size ≤ gb459)); have n9_ := Aside0.mk ((by rw [hg]; exact Nat.ne_of_lt (blk_lt (g := gb425) (o := .cells #[.int .i64 t438, .int .i64 t439, .string t440, .slice Ao27 t441.length co27, .string t444, .bool t445] 24 (0, 0)) (by (with_reducible repeat (first | refine blk_drewN ?_ _ | refine blk_drew ?_ | refine blk_alloc ?_ _)); exact BK425.out)) : gb425 ≠ gb459)); have n10_ := Aside0.mk ((by rw [hg]; exact Nat.ne_of_gt (blk_lt (g := gb425) (o := .cells #[.int .i64 t438, .int .i64 t439, .string t440, .slice Ao27 t441.length co27, .string t444, .bool t445] 24 (0, 0)) (by (with_reducible repeat (first | refine blk_drewN ?_ _ | refine blk_drew ?_ | refine blk_alloc ?_ _)); exact BK425.out)) : gb459 ≠ gb425)); have n11_ := Aside0.mk ((by rw [hg]; exact Nat.ne_of_lt (blk_lt (g := gb448) (o := .cells #[.int .i64 t438, .int .i64 t439, .string t440, .slice Ao27 t441.length co27, .string t444, .bool t445] 24 (0, 0)) (by (with_reducible repeat (first | refine blk_drewN ?_ _ | refine blk_drew ?_ | refine blk_alloc ?_ _)); exact BK448.out)) : gb448 ≠ gb459)); have n12_ := Aside0.mk ((by rw [hg]; exact Nat.ne_of_gt (blk_lt (g := gb448) (o := .cells #[.int .i64 t438, .int .i64 t439, .string t440, .slice Ao27 t441.length co27, .string t444, .bool t445] 24 (0, 0)) (by (with_reducible repeat (first | refine blk_drewN ?_ _ | refine blk_drew ?_ | refine blk_alloc ?_ _)); exact BK448.out)) : gb459 ≠ gb448)); clear HO_426003; clear HO_449003; clear HO454; clear BK425; clear BK448; clear HB; have HO_426003 := n0_; have HO_449003 := n1_; have HO454 := n2_; have BK425 := n3_; have BK448 := n4_; have HB := n5_; have BK459 := n6_; have GW459 := n7_; have GE459 := n8_; have NB425_459 := n9_; have NB459_425 := n10_; have NB448_459 := n11_; have NB459_448 := n12_; clear n0_ n1_ n2_ n3_ n4_ n5_ n6_ n7_ n8_ n9_ n10_ n11_ n12_; clear hb hbox hg) | (go_at_call 11; (with_reducible refine (jobshelllaw26_awake.calls kj22  t460 _ A38.out).mono ?_); rintro e w52 ⟨rfl, hb⟩; have n0_ := Aside0.mk (Kd.V_below (by (with_reducible repeat (first | apply Kd.V_alloc | apply Kd.V_drewN | apply Kd.V_drew)); exact HO_426003.out) hb); have n1_ := Aside0.mk (Kd.V_below (by (with_reducible repeat (first | apply Kd.V_alloc | apply Kd.V_drewN | apply Kd.V_drew)); exact HO_449003.out) hb); have n2_ := Aside0.mk (Kd.V_below (by (with_reducible repeat (first | apply Kd.V_alloc | apply Kd.V_drewN | apply Kd.V_drew)); exact HO454.out) hb); have n3_ := Aside0.mk (blk_below (g := gb425) (o := .cells #[.int .i64 t438, .int .i64 t439, .string t440, .slice Ao27 t441.length co27, .string t444, .bool t445] 24 (0, 0)) (by (with_reducible repeat (first | refine blk_drewN ?_ _ | refine blk_drew ?_ | refine blk_alloc ?_ _)); exact BK425.out) hb); have n4_ := Aside0.mk (blk_below (g := gb448) (o := .cells #[.int .i64 t438, .int .i64 t439, .string t440, .slice Ao27 t441.length co27, .string t444, .bool t445] 24 (0, 0)) (by (with_reducible repeat (first | refine blk_drewN ?_ _ | refine blk_drew ?_ | refine blk_alloc ?_ _)); exact BK448.out) hb); have n5_ := Aside0.mk (blk_below (g := gb459) (o := .cells #[.int .i64 t449, .int .i64 t450, .string t451, .slice Ao50 t452.length co50, .string t455, .bool t456] 24 (0, 0)) (by (with_reducible repeat (first | refine blk_drewN ?_ _ | refine blk_drew ?_ | refine blk_alloc ?_ _)); exact BK459.out) hb); have n6_ := Aside0.mk (below_step (by repeat (first | (with_reducible first | exact HB.out | apply below_alloc | apply pw_below_drewN | apply below_drew1 | refine below_set ?_ GE425.out | refine below_set ?_ GE448.out | refine below_set ?_ GE459.out) | exact HB.out)) hb); clear HO_426003; clear HO_449003; clear HO454; clear BK425; clear BK448; clear BK459; clear HB; have HO_426003 := n0_; have HO_449003 := n1_; have HO454 := n2_; have BK425 := n3_; have BK448 := n4_; have BK459 := n5_; have HB := n6_; clear n0_ n1_ n2_ n3_ n4_ n5_ n6_; (try clear hb); (try clear hb2); (try clear hk); (try clear hi)))
                   go_ret
                   exact ⟨by first | rfl | (simp [errW_none, errW_some] <;> rfl) | (simp [*, errW_none, errW_some] <;> rfl), by repeat (first | (with_reducible first | exact HB.out | apply below_alloc | apply pw_below_drewN | apply below_drew1 | refine below_set ?_ GE425.out | refine below_set ?_ GE448.out | refine below_set ?_ GE459.out) | exact HB.out)⟩
                  ·rw [if_neg c37] at H
                   exact absurd H (by simp)
                 ·rw [if_neg c36] at H
                  exact absurd H (by simp)
                ·rw [if_neg c35] at H
                 exact absurd H (by simp)
               ·rw [if_neg c33] at H
                have c33b0 : decide ((a0.size : Int) < ((x7_3 ++ t446).size : Int)) = false := decide_eq_false c33
                have c33b1 : decide (a0.size < (x7_3 ++ t446).size) = false := decide_eq_false (fun h => c33 (Int.ofNat_lt.mpr h))
                have c33b3 : decide ((a0.size : Int) < (x7_3.size : Int) + (t446.size : Int)) = false := by (have h_ := c33b0; rw [ByteArray.size_append, Int.natCast_add] at h_; exact h_)
                clear c33
                have H' := Aside0.mk H
                clear H
                try go_wp2
                have n0_ := Aside0.mk (Kd.V_drew HO_426003.out)
                have n1_ := Aside0.mk (Kd.V_drew HO_449003.out)
                have n2_ := Aside0.mk (blk_drew BK425.out)
                have n3_ := Aside0.mk (blk_drew BK448.out)
                have n4_ := Aside0.mk (below_drew1 HB.out)
                clear HO_426003
                clear HO_449003
                clear BK425
                clear BK448
                clear HB
                have HO_426003 := n0_
                have HO_449003 := n1_
                have BK425 := n2_
                have BK448 := n3_
                have HB := n4_
                clear n0_ n1_ n2_ n3_ n4_
                refine start_ (n := 6) (S := fun w' => w'.cell? ⟨gb448, 0, none⟩ = some (.int .i64 t438) ∧ w'.cell? ⟨gb448, 1, none⟩ = some (.int .i64 t439) ∧ w'.cell? ⟨gb448, 2, none⟩ = some (.string t440) ∧ w'.cell? ⟨gb448, 3, none⟩ = some (.slice Ao27 t441.length co27) ∧ w'.cell? ⟨gb448, 4, none⟩ = some (.string t444) ∧ w'.cell? ⟨gb448, 5, none⟩ = some (.bool t445)) (ds := []) #[false, false, false, false, false, false] (by kernel_rfl) rfl rfl ⟨(blk_cell BK448.out 0).trans rfl, (blk_cell BK448.out 1).trans rfl, (blk_cell BK448.out 2).trans rfl, (blk_cell BK448.out 3).trans rfl, (blk_cell BK448.out 4).trans rfl, (blk_cell BK448.out 5).trans rfl⟩ (fun hHeld => ?_)
                generalize wc.drew = w53 at HO_426003 HO_449003 BK425 BK448 HB hHeld ⊢
                refine pure_ (i := 0) (N := some 68) (v := ?_) (a' := ?_) #[true, false, false, false, false, false] rfl rfl (by kernel_rfl) (fun _ _ _ h => h) (Or.inl ⟨by rfl, ?_⟩) ?_ ?_
                rotate_left
                ·intro w'
                 go_simp
                 with_reducible rfl
                rotate_left
                ·simp only [Act.put, List.setIfInBounds_toArray, List.set_cons_zero, List.set_cons_succ, i64_w, i32_w]
                 rfl
                refine pure_ (i := 1) (N := some 69) (v := ?_) (a' := ?_) #[true, true, false, false, false, false] rfl rfl (by kernel_rfl) (fun _ _ _ h => h) (Or.inl ⟨by rfl, ?_⟩) ?_ ?_
                rotate_left
                ·intro w'
                 go_simp
                 with_reducible rfl
                rotate_left
                ·simp only [Act.put, List.setIfInBounds_toArray, List.set_cons_zero, List.set_cons_succ, i64_w, i32_w]
                 rfl
                refine pure_ (i := 2) (N := some 70) (v := ?_) (a' := ?_) #[true, true, true, false, false, false] rfl rfl (by kernel_rfl) (fun _ _ _ h => h) (Or.inl ⟨by rfl, ?_⟩) ?_ ?_
                rotate_left
                ·intro w'
                 go_simp
                 with_reducible rfl
                rotate_left
                ·simp only [Act.put, List.setIfInBounds_toArray, List.set_cons_zero, List.set_cons_succ, i64_w, i32_w]
                 rfl
                refine pure_ (i := 4) (N := some 7) (v := ?_) (a' := ?_) #[true, true, true, false, true, false] rfl rfl (by kernel_rfl) (fun _ _ _ h => h) (Or.inl ⟨by rfl, ?_⟩) ?_ ?_
                rotate_left
                ·intro w'
                 go_simp
                 with_reducible rfl
                rotate_left
                ·simp only [Act.put, List.setIfInBounds_toArray, List.set_cons_zero, List.set_cons_succ, i64_w, i32_w]
                 rfl
                refine take_ (i := 3) (N := some 71) (v := ?_) (a' := ?_) #[true, true, true, true, true, false] rfl rfl (by kernel_rfl) (fun _ _ _ h => h) (Or.inl ⟨by rfl, ?_⟩) hHeld ?_ ?_
                rotate_left
                ·rintro w' ⟨s0, s1, s2, s3, s4, s5⟩
                 go_simp
                 with_reducible rfl
                rotate_left
                ·simp only [Act.put, List.setIfInBounds_toArray, List.set_cons_zero, List.set_cons_succ, i64_w, i32_w]
                 rfl
                refine one_ (i := 5) (N := none) #[true, true, true, true, true, true] rfl rfl (by kernel_rfl) (by decide) (fun K hK => ?_)
                have hs54 : w53.cell? ⟨gb425, 0, none⟩ = some (.int .i64 x426000_3) := (blk_cell BK425.out 0).trans rfl
                have hfs54 := blk_frozen BK425.out 0
                have hns54_1 := NB448_425.out
                have hms54_1 := NB425_448.out
                have hs55 : w53.cell? ⟨gb425, 1, none⟩ = some (.int .i64 x426001_3) := (blk_cell BK425.out 1).trans rfl
                have hfs55 := blk_frozen BK425.out 1
                have hns55_1 := NB448_425.out
                have hms55_1 := NB425_448.out
                have hs56 : w53.cell? ⟨gb425, 2, none⟩ = some (.string x426002_3) := (blk_cell BK425.out 2).trans rfl
                have hfs56 := blk_frozen BK425.out 2
                have hns56_1 := NB448_425.out
                have hms56_1 := NB425_448.out
                have hs57 : w53.cell? ⟨gb425, 3, none⟩ = some (.slice Ao25 x426003_3.length co25) := (blk_cell BK425.out 3).trans rfl
                have hfs57 := blk_frozen BK425.out 3
                have hns57_1 := NB448_425.out
                have hms57_1 := NB425_448.out
                have hs58 : w53.cell? ⟨gb425, 4, none⟩ = some (.string x426004_3) := (blk_cell BK425.out 4).trans rfl
                have hfs58 := blk_frozen BK425.out 4
                have hns58_1 := NB448_425.out
                have hms58_1 := NB425_448.out
                have hs59 : w53.cell? ⟨gb425, 5, none⟩ = some (.bool x426005_3) := (blk_cell BK425.out 5).trans rfl
                have hfs59 := blk_frozen BK425.out 5
                have hns59_1 := NB448_425.out
                have hms59_1 := NB425_448.out
                refine skip_ (w1 := ?_) (by rfl) rfl ?_ ?_
                rotate_left
                ·go_simp
                 rfl
                refine hK.out _ _ ⟨((cell_far (p := ⟨gb425, _, none⟩) NB448_425.out _).trans (((cell_far (p := ⟨gb425, _, none⟩) NB448_425.out _).trans (((cell_far (p := ⟨gb425, _, none⟩) NB448_425.out _).trans (((cell_far (p := ⟨gb425, _, none⟩) NB448_425.out _).trans (((cell_far (p := ⟨gb425, _, none⟩) NB448_425.out _).trans (((cell_far (p := ⟨gb425, _, none⟩) NB448_425.out _).trans (hHeld.1)))))))))))), ((cell_far (p := ⟨gb425, _, none⟩) NB448_425.out _).trans (((cell_far (p := ⟨gb425, _, none⟩) NB448_425.out _).trans (((cell_far (p := ⟨gb425, _, none⟩) NB448_425.out _).trans (((cell_far (p := ⟨gb425, _, none⟩) NB448_425.out _).trans (((cell_far (p := ⟨gb425, _, none⟩) NB448_425.out _).trans (((cell_far (p := ⟨gb425, _, none⟩) NB448_425.out _).trans (hHeld.2.1)))))))))))), ((cell_far (p := ⟨gb425, _, none⟩) NB448_425.out _).trans (((cell_far (p := ⟨gb425, _, none⟩) NB448_425.out _).trans (((cell_far (p := ⟨gb425, _, none⟩) NB448_425.out _).trans (((cell_far (p := ⟨gb425, _, none⟩) NB448_425.out _).trans (((cell_far (p := ⟨gb425, _, none⟩) NB448_425.out _).trans (((cell_far (p := ⟨gb425, _, none⟩) NB448_425.out _).trans (hHeld.2.2.1)))))))))))), ((cell_far (p := ⟨gb425, _, none⟩) NB448_425.out _).trans (((cell_far (p := ⟨gb425, _, none⟩) NB448_425.out _).trans (((cell_far (p := ⟨gb425, _, none⟩) NB448_425.out _).trans (((cell_far (p := ⟨gb425, _, none⟩) NB448_425.out _).trans (((cell_far (p := ⟨gb425, _, none⟩) NB448_425.out _).trans (((cell_far (p := ⟨gb425, _, none⟩) NB448_425.out _).trans (hHeld.2.2.2.1)))))))))))), ((cell_far (p := ⟨gb425, _, none⟩) NB448_425.out _).trans (((cell_far (p := ⟨gb425, _, none⟩) NB448_425.out _).trans (((cell_far (p := ⟨gb425, _, none⟩) NB448_425.out _).trans (((cell_far (p := ⟨gb425, _, none⟩) NB448_425.out _).trans (((cell_far (p := ⟨gb425, _, none⟩) NB448_425.out _).trans (((cell_far (p := ⟨gb425, _, none⟩) NB448_425.out _).trans (hHeld.2.2.2.2.1)))))))))))), ((cell_far (p := ⟨gb425, _, none⟩) NB448_425.out _).trans (((cell_far (p := ⟨gb425, _, none⟩) NB448_425.out _).trans (((cell_far (p := ⟨gb425, _, none⟩) NB448_425.out _).trans (((cell_far (p := ⟨gb425, _, none⟩) NB448_425.out _).trans (((cell_far (p := ⟨gb425, _, none⟩) NB448_425.out _).trans (((cell_far (p := ⟨gb425, _, none⟩) NB448_425.out _).trans (hHeld.2.2.2.2.2))))))))))))⟩ (fun hHeld => ?_)
                clear hK K
                refine done_ (by kernel_rfl) ?_
                try go_wp2
                go_roundg kj22
                case measure => have := HJ2.out; have := HJ11.out; have := HK3.out; have := HJ22.out; omega
                case rel => exact ⟨(x7_3 ++ t446), (wrap64 (x8_3 + 1)), (t438), (t439), (t440), (t441), (t444), (t445), (.slice Ao27 t441.length co27), (by first | rfl | (simp; done) | (simp [*]; done) | (generalize ByteArray.toList _ = l_; cases l_ <;> rfl)), (by first | rfl | (simp; done) | (simp [*]; done) | (generalize ByteArray.toList _ = l_; cases l_ <;> rfl)), H', ⟨by have := HJ2.out; have := HJ11.out; have := HK3.out; have := HJ22.out; omega⟩, ⟨by (with_reducible repeat (first | apply Kd.V_alloc | apply Kd.V_drewN | apply Kd.V_drew)); exact Kd.V_mono (Kd.V_far (p := ⟨gb425, 5, none⟩) (Kd.V_far (p := ⟨gb425, 4, none⟩) (Kd.V_far (p := ⟨gb425, 3, none⟩) (Kd.V_far (p := ⟨gb425, 2, none⟩) (Kd.V_far (p := ⟨gb425, 1, none⟩) (Kd.V_far (p := ⟨gb425, 0, none⟩) (Kd.V_mono HO_449003.out (fun k_ hk => (⟨hk, hk.1⟩ : _ ∧ k_ ≠ gb425))) (fun _ hk => hk.2) (.int .i64 t438)) (fun _ hk => hk.2) (.int .i64 t439)) (fun _ hk => hk.2) (.string t440)) (fun _ hk => hk.2) (.slice Ao27 t441.length co27)) (fun _ hk => hk.2) (.string t444)) (fun _ hk => hk.2) (.bool t445)) (fun _ hk => hk.1.1)⟩, ⟨by (with_reducible repeat (first | refine blk_drewN ?_ _ | refine blk_drew ?_ | refine blk_alloc ?_ _)); refine blk_put (cs := #[.int .i64 t438, .int .i64 t439, .string t440, .slice Ao27 t441.length co27, .string t444, .bool x426005_3]) ?_ 5 _ rfl; (with_reducible repeat (first | refine blk_drewN ?_ _ | refine blk_drew ?_ | refine blk_alloc ?_ _)); refine blk_put (cs := #[.int .i64 t438, .int .i64 t439, .string t440, .slice Ao27 t441.length co27, .string x426004_3, .bool x426005_3]) ?_ 4 _ rfl; (with_reducible repeat (first | refine blk_drewN ?_ _ | refine blk_drew ?_ | refine blk_alloc ?_ _)); refine blk_put (cs := #[.int .i64 t438, .int .i64 t439, .string t440, .slice Ao25 x426003_3.length co25, .string x426004_3, .bool x426005_3]) ?_ 3 _ rfl; (with_reducible repeat (first | refine blk_drewN ?_ _ | refine blk_drew ?_ | refine blk_alloc ?_ _)); refine blk_put (cs := #[.int .i64 t438, .int .i64 t439, .string x426002_3, .slice Ao25 x426003_3.length co25, .string x426004_3, .bool x426005_3]) ?_ 2 _ rfl; (with_reducible repeat (first | refine blk_drewN ?_ _ | refine blk_drew ?_ | refine blk_alloc ?_ _)); refine blk_put (cs := #[.int .i64 t438, .int .i64 x426001_3, .string x426002_3, .slice Ao25 x426003_3.length co25, .string x426004_3, .bool x426005_3]) ?_ 1 _ rfl; (with_reducible repeat (first | refine blk_drewN ?_ _ | refine blk_drew ?_ | refine blk_alloc ?_ _)); refine blk_put (cs := #[.int .i64 x426000_3, .int .i64 x426001_3, .string x426002_3, .slice Ao25 x426003_3.length co25, .string x426004_3, .bool x426005_3]) ?_ 0 _ rfl; (with_reducible repeat (first | refine blk_drewN ?_ _ | refine blk_drew ?_ | refine blk_alloc ?_ _)); exact BK425.out⟩, ⟨by repeat (first | (with_reducible first | exact HB.out | apply below_alloc | apply pw_below_drewN | apply below_drew1 | refine below_set ?_ GE425.out | refine below_set ?_ GE448.out) | exact HB.out)⟩⟩
              ·rw [if_neg c32] at H
               exact absurd H (by simp)
          ·rw [if_neg c21] at H
           have c21b0 : decide (x8_3 ≤ (a0.size : Int)) = false := decide_eq_false c21
           clear c21
           replace H := Option.bind_eq_some_iff.mp H
           obtain ⟨⟨t426, t427, t428, t429, t432, t433, t434, t435⟩, A600, H⟩ := H
           replace H : (if a0.size + 1 ≤ 9223372036854775807 then (if x7_3.toList = (a0 ++ (⟨#[10]⟩ : ByteArray)).toList then (if t435 = 2 then ((jobshelllaw26_awake.f k3).bind fun t437 => (some t437)) else (none)) else (none)) else (none)) = some r := H
           have A60 := Aside0.mk A600
           clear A600
           by_cases c61 : a0.size + 1 ≤ 9223372036854775807
           ·rw [if_pos c61] at H
            have c61b0 := eq_true c61
            have c61b1 : decide (a0.size + 1 ≤ 9223372036854775807) = true := decide_eq_true c61
            try have c61b2 : (9223372036854775807 < a0.size + 1) = False := eq_false (Nat.not_lt.2 c61)
            (try (have c61b3 := c61b2; simp only [Int.toNat_natCast, ByteArray.extract_zero_size] at c61b3))
            clear c61
            by_cases c62 : x7_3.toList = (a0 ++ (⟨#[10]⟩ : ByteArray)).toList
            ·rw [if_pos c62] at H
             have c62b0 : (x7_3.toList == (a0 ++ (⟨#[10]⟩ : ByteArray)).toList) = true := beq_iff_eq.mpr c62
             have c62b1 : (x7_3.toList != (a0 ++ (⟨#[10]⟩ : ByteArray)).toList) = false := bne_eq_false_iff_eq.mpr c62
             clear c62
             by_cases c63 : t435 = 2
             ·rw [if_pos c63] at H
              have c63b0 : (t435 == 2) = true := beq_iff_eq.mpr c63
              have c63b1 : (t435 != 2) = false := bne_eq_false_iff_eq.mpr c63
              clear c63
              replace H := Option.bind_eq_some_iff.mp H
              obtain ⟨t437, A640, H⟩ := H
              replace H : (some t437) = some r := H
              have A64 := Aside0.mk A640
              clear A640
              obtain rfl := Option.some.inj H
              have hcz65_0 : wr.cell? ⟨gb425, 0, none⟩ = some (.int .i64 x426000_3) := (blk_cell BK425.out 0).trans rfl
              have hcz65_1 : wr.cell? ⟨gb425, 1, none⟩ = some (.int .i64 x426001_3) := (blk_cell BK425.out 1).trans rfl
              have hcz65_2 : wr.cell? ⟨gb425, 2, none⟩ = some (.string x426002_3) := (blk_cell BK425.out 2).trans rfl
              have hcz65_3 : wr.cell? ⟨gb425, 3, none⟩ = some (u426003) := (blk_cell BK425.out 3).trans rfl
              have hcz65_4 : wr.cell? ⟨gb425, 4, none⟩ = some (.string x426004_3) := (blk_cell BK425.out 4).trans rfl
              have hcz65_5 : wr.cell? ⟨gb425, 5, none⟩ = some (.bool x426005_3) := (blk_cell BK425.out 5).trans rfl
              have hfz65_0 := blk_frozen BK425.out 0
              have hfz65_1 := blk_frozen BK425.out 1
              have hfz65_2 := blk_frozen BK425.out 2
              have hfz65_3 := blk_frozen BK425.out 3
              have hfz65_4 := blk_frozen BK425.out 4
              have hfz65_5 := blk_frozen BK425.out 5
              obtain ⟨Ao66, co66, eo66⟩ := Kd.V_slice HO_426003.out
              subst eo66
              go_wp2_with (first | ((with_reducible refine gate_callee (f := 18) rfl ?_); refine goesL_ (some 80) rfl rfl Try.func18 (by kernel_rfl) rfl #[.agg #[.int .i64 x426000_3, .int .i64 x426001_3, .string x426002_3, .slice Ao66 x426003_3.length co66, .string x426004_3, .bool x426005_3], .int .i64 a1] rfl (by (try simp only [List.map_toArray, List.map_cons, List.map_nil]); first | done | rfl | (simp only [List.length_drop, List.length_take]; rfl)) ?_; (with_reducible refine (tty_Read.calls x426000_3 x426001_3 x426002_3 (fun k_ => k_ ≠ gb425) _ _ x426003_3 x426004_3 x426005_3 a1 t426 t427 t428 t429 t432 t433 t434 t435 _ ?side1 A60.out).mono ?_); (case side1 => exact HO_426003.out); rintro e w67 ⟨v430, rfl, ho0, hb⟩; refine ⟨_, rfl, ?_⟩; have n0_ := Aside0.mk (Kd.V_below (by (with_reducible repeat (first | apply Kd.V_alloc | apply Kd.V_drewN | apply Kd.V_drew)); exact HO_426003.out) hb); have n1_ := Aside0.mk (Kd.V_lower (Kd.V_mono (ok' := fun k_ => k_ ≠ gb425) ho0 (fun k_ hk_ => Or.elim hk_ (fun hs_ => hs_) (fun hn_ => (Kd.freshB (g := gb425) (o := .cells #[.int .i64 x426000_3, .int .i64 x426001_3, .string x426002_3, .slice Ao66 x426003_3.length co66, .string x426004_3, .bool x426005_3] 24 (0, 0)) (by (with_reducible repeat (first | refine blk_drewN ?_ _ | refine blk_drew ?_ | refine blk_alloc ?_ _)); exact BK425.out) k_ hn_)))) (below_size (by repeat (first | (with_reducible first | exact HB.out | apply below_alloc | apply pw_below_drewN | apply below_drew1 | refine below_set ?_ GE425.out) | exact HB.out)))); have n2_ := Aside0.mk (blk_below (g := gb425) (o := .cells #[.int .i64 x426000_3, .int .i64 x426001_3, .string x426002_3, .slice Ao66 x426003_3.length co66, .string x426004_3, .bool x426005_3] 24 (0, 0)) (by (with_reducible repeat (first | refine blk_drewN ?_ _ | refine blk_drew ?_ | refine blk_alloc ?_ _)); exact BK425.out) hb); have n3_ := Aside0.mk (below_step (by repeat (first | (with_reducible first | exact HB.out | apply below_alloc | apply pw_below_drewN | apply below_drew1 | refine below_set ?_ GE425.out) | exact HB.out)) hb); clear HO_426003; clear BK425; clear HB; have HO_426003 := n0_; have HO431 := n1_; have BK425 := n2_; have HB := n3_; clear n0_ n1_ n2_ n3_; (try clear hb); (try clear hb2); (try clear hk); (try clear hi); (try clear ho0); obtain ⟨Ao68, co68, eo68⟩ := Kd.V_slice HO431.out; subst eo68) | ((with_reducible refine gate_dst (N := 12) rfl ?_); (try (refine gate_guard (by rfl) ?_; dsimp only)); refine box2_event 24 ?hg ?hg2 (N := 12) ?hd ?hd2 (.tmp 81) ?ho2 (cs0 := #[.int .i64 0, .int .i64 0, .string (⟨#[]⟩ : ByteArray), .slice none 0 0, .string (⟨#[]⟩ : ByteArray), .bool false]) (cs := #[.int .i64 t426, .int .i64 t427, .string t428, .slice Ao68 t429.length co68, .string t432, .bool t433]) ?hr ?hi ?hs ?h1 ?hp ?hv ?_; (case hd => rfl); (case hd2 => rfl); (case hg => rfl); (case hg2 => rfl); (case ho2 => rfl); (case hr => first | (go_simp; done) | (go_simp; rfl)); (case hi => kernel_rfl); (case hs => rfl); (case h1 => rfl); (case hp => intro v_; rfl); (case hv => intro v_; rfl); intro gb436 hg w69 hbox hb; have n0_ := Aside0.mk (Kd.V_below (Kd.V_elderB (by (with_reducible repeat (first | apply Kd.V_alloc | apply Kd.V_drewN | apply Kd.V_drew)); exact HO_426003.out) gb436 (Nat.le_of_eq hg.symm)) hb); have n1_ := Aside0.mk (Kd.V_below (Kd.V_elderB (by (with_reducible repeat (first | apply Kd.V_alloc | apply Kd.V_drewN | apply Kd.V_drew)); exact HO431.out) gb436 (Nat.le_of_eq hg.symm)) hb); have n2_ := Aside0.mk (blk_below (g := gb425) (o := .cells #[.int .i64 x426000_3, .int .i64 x426001_3, .string x426002_3, .slice Ao66 x426003_3.length co66, .string x426004_3, .bool x426005_3] 24 (0, 0)) (by (with_reducible repeat (first | refine blk_drewN ?_ _ | refine blk_drew ?_ | refine blk_alloc ?_ _)); exact BK425.out) hb); have n3_ := Aside0.mk (below_step (by repeat (first | (with_reducible first | exact HB.out | apply below_alloc | apply pw_below_drewN | apply below_drew1 | refine below_set ?_ GE425.out) | exact HB.out)) hb); have n4_ := Aside0.mk (hbox); have n5_ := Aside0.mk ((by rw [hg]; exact (below_size (by repeat (first | (with_reducible first | exact HB.out | apply below_alloc | apply pw_below_drewN | apply below_drew1 | refine below_set ?_ GE425.out) | exact HB.out))) : w.heap.size ≤ gb436)); have n6_ := Aside0.mk ((by rw [hg]; exact (below_size (by repeat (first | (with_reducible first | exact HB.out | apply below_alloc | apply pw_below_drewN | apply below_drew1 | refine below_set ?_ GE425.out) | exact HB.out))) : w.heap.size ≤ gb436)); have n7_ := Aside0.mk ((by rw [hg]; exact Nat.ne_of_lt (blk_lt (g := gb425) (o := .cells #[.int .i64 x426000_3, .int .i64 x426001_3, .string x426002_3, .slice Ao66 x426003_3.length co66, .string x426004_3, .bool x426005_3] 24 (0, 0)) (by (with_reducible repeat (first | refine blk_drewN ?_ _ | refine blk_drew ?_ | refine blk_alloc ?_ _)); exact BK425.out)) : gb425 ≠ gb436)); have n8_ := Aside0.mk ((by rw [hg]; exact Nat.ne_of_gt (blk_lt (g := gb425) (o := .cells #[.int .i64 x426000_3, .int .i64 x426001_3, .string x426002_3, .slice Ao66 x426003_3.length co66, .string x426004_3, .bool x426005_3] 24 (0, 0)) (by (with_reducible repeat (first | refine blk_drewN ?_ _ | refine blk_drew ?_ | refine blk_alloc ?_ _)); exact BK425.out)) : gb436 ≠ gb425)); clear HO_426003; clear HO431; clear BK425; clear HB; have HO_426003 := n0_; have HO431 := n1_; have BK425 := n2_; have HB := n3_; have BK436 := n4_; have GW436 := n5_; have GE436 := n6_; have NB425_436 := n7_; have NB436_425 := n8_; clear n0_ n1_ n2_ n3_ n4_ n5_ n6_ n7_ n8_; clear hb hbox hg) | (go_at_call 11; (with_reducible refine (jobshelllaw26_awake.calls k3  t437 _ A64.out).mono ?_); rintro e w70 ⟨rfl, hb⟩; have n0_ := Aside0.mk (Kd.V_below (by (with_reducible repeat (first | apply Kd.V_alloc | apply Kd.V_drewN | apply Kd.V_drew)); exact HO_426003.out) hb); have n1_ := Aside0.mk (Kd.V_below (by (with_reducible repeat (first | apply Kd.V_alloc | apply Kd.V_drewN | apply Kd.V_drew)); exact HO431.out) hb); have n2_ := Aside0.mk (blk_below (g := gb425) (o := .cells #[.int .i64 x426000_3, .int .i64 x426001_3, .string x426002_3, .slice Ao66 x426003_3.length co66, .string x426004_3, .bool x426005_3] 24 (0, 0)) (by (with_reducible repeat (first | refine blk_drewN ?_ _ | refine blk_drew ?_ | refine blk_alloc ?_ _)); exact BK425.out) hb); have n3_ := Aside0.mk (blk_below (g := gb436) (o := .cells #[.int .i64 t426, .int .i64 t427, .string t428, .slice Ao68 t429.length co68, .string t432, .bool t433] 24 (0, 0)) (by (with_reducible repeat (first | refine blk_drewN ?_ _ | refine blk_drew ?_ | refine blk_alloc ?_ _)); exact BK436.out) hb); have n4_ := Aside0.mk (below_step (by repeat (first | (with_reducible first | exact HB.out | apply below_alloc | apply pw_below_drewN | apply below_drew1 | refine below_set ?_ GE425.out | refine below_set ?_ GE436.out) | exact HB.out)) hb); clear HO_426003; clear HO431; clear BK425; clear BK436; clear HB; have HO_426003 := n0_; have HO431 := n1_; have BK425 := n2_; have BK436 := n3_; have HB := n4_; clear n0_ n1_ n2_ n3_ n4_; (try clear hb); (try clear hb2); (try clear hk); (try clear hi)))
              go_ret
              exact ⟨by first | rfl | (simp [errW_none, errW_some] <;> rfl) | (simp [*, errW_none, errW_some] <;> rfl), by repeat (first | (with_reducible first | exact HB.out | apply below_alloc | apply pw_below_drewN | apply below_drew1 | refine below_set ?_ GE425.out | refine below_set ?_ GE436.out) | exact HB.out)⟩
             ·rw [if_neg c63] at H
              exact absurd H (by simp)
            ·rw [if_neg c62] at H
             exact absurd H (by simp)
           ·rw [if_neg c61] at H
            exact absurd H (by simp)
    ·rw [if_neg c10] at H
     exact absurd H (by simp)

/-- THE ONE PURE STATEMENT of jobshelllaw26_TtyTyped: yours. -/
def jobshelllaw26_TtyTyped.Pure : Prop := ∀ (a0 : ByteArray) (a1 : Int), a0.size ≤ 140737488351232 → (Lit.int .i64 a1).wf = true → ∃ k, jobshelllaw26_TtyTyped.f k a0 a1 = some true
theorem jobshelllaw26_TtyTyped.walk (P : jobshelllaw26_TtyTyped.Pure) (a0 : ByteArray) (a1 : Int) (w : World) (w0 : a0.size ≤ 140737488351232) (w1 : (Lit.int .i64 a1).wf = true) :
  Calls Try.prog 5 #[.string a0, .int .i64 a1] w fun e w' => e = .returned (.bool true) ∧ Below w.heap.size w w' := by
 obtain ⟨k, h⟩ := P a0 a1 w0 w1
 refine (jobshelllaw26_TtyTyped.calls k a0 a1 true w h).mono ?_
 rintro e w' ⟨rfl, hd⟩
 exact ⟨rfl, hd⟩

end Go.Proofs.Ytoecolllimgbgaa.Q
