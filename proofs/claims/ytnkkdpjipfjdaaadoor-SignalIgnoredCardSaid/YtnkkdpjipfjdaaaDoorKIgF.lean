/- Own texts of one claim, put one behind the other by wip/tool/pack.py: words beside the print's, what each printed function computes, and the plain laws. -/
import Derived.Test.YtnkkdpjipfjdaaaDoorKIgE
import Derived.SizedLaws
import Derived.ProofKit
import Derived.WideShapes
import Derived.OpenShut
import Derived.ChangeArms
import Derived.Deep.Slices
import Derived.ChangeSame
import Derived.Test.YtnkkdpjipfjdaaaDoorRows
import Derived.LaidLaws
import Derived.LaidSub
import Derived.Lib.LaidTab
import Derived.KernelRfl
section
-- Written by wip/tool/myprint.py, a program of this repo that drives the kit's print over hand-written contracts; Lean checks it.
namespace Go.Proofs.YtnkkdpjipfjdaaaDoor.Q
open Go.RowKit Go.Proofs.YtnkkdpjipfjdaaaDoorW.PrintWords Go.Proofs.YtnkkdpjipfjdaaaDoorW.PrintLast Go.Proofs.YtnkkdpjipfjdaaaDoorW.PrintMore Go.Proofs.YtnkkdpjipfjdaaaDoorM
open Kd
attribute [local go_sem] max2_int min2_int max_two min_two max_three min_three max_four min_four   -- for this text's walks alone
set_option linter.unusedVariables false
set_option linter.unusedSimpArgs false
mutual
def jobshelllaw25_SignalIgnored.j0 : Nat → Int → Int → Bool → List Int → List Int → List Int → Option (Bool)
 | 0, _, _, _, _, _, _ => none
 | k + 1, x1, x2, x40, x474000, x474001, x474002 => if x40 = true then ((jobshelllaw25_awake.f k).bind fun t477 => (some t477)) else ((signal_Set.f k x474000 x474001 x474002 x1 1).bind fun bt478 => ((signal_Send.f k bt478.1 bt478.2.1 bt478.2.2.1 x1).bind fun bt489 => ((signal_Set.f k bt489.1 bt489.2.1 bt489.2.2 x1 x2).bind fun bt499 => (if bt478.2.2.2 = 0 then ((jobshellref25_Has.f k bt489.1 x1).bind fun t510 => (if t510 = true then (jobshelllaw25_SignalIgnored.j1 k x1 x2 true bt499.1 bt499.2.1 bt499.2.2.1) else ((jobshellref25_Has.f k bt499.1 x1).bind fun t511 => (if t511 = true then (jobshelllaw25_SignalIgnored.j1 k x1 x2 true bt499.1 bt499.2.1 bt499.2.2.1) else (if x2 ≥ 0 then (jobshelllaw25_SignalIgnored.j1 k x1 x2 ((bt499.2.2.2 == 0) != (decide (x2 ≤ 2))) bt499.1 bt499.2.1 bt499.2.2.1) else (jobshelllaw25_SignalIgnored.j1 k x1 x2 ((bt499.2.2.2 == 0) != false) bt499.1 bt499.2.1 bt499.2.2.1)))))) else (jobshelllaw25_SignalIgnored.j1 k x1 x2 true bt499.1 bt499.2.1 bt499.2.2.1)))))
def jobshelllaw25_SignalIgnored.j1 : Nat → Int → Int → Bool → List Int → List Int → List Int → Option (Bool)
 | 0, _, _, _, _, _, _ => none
 | k + 1, x1, x2, x82, x510000, x510001, x510002 => if x82 = true then (none) else ((signal_Send.f k x510000 x510001 x510002 x1).bind fun bt512 => ((jobshellref25_Has.f k bt512.1 x1).bind fun t521 => (if x2 = 0 then (if (t521 == true) = true then ((jobshelllaw25_awake.f k).bind fun t522 => (some t522)) else (none)) else (if (t521 == (x2 == 2)) = true then ((jobshelllaw25_awake.f k).bind fun t523 => (some t523)) else (none)))))
end
def jobshelllaw25_SignalIgnored.f (k : Nat) (l0_0 : List Int) (l0_1 : List Int) (l0_2 : List Int) (a1 : Int) (a2 : Int) : Option (Bool) := (jobshelllaw25_short.f l0_0 l0_1 l0_2).bind fun t474 => (if t474 = true then ((jobshellref25_Valid.f k l0_0 l0_1 l0_2).bind fun t475 => (if t475 = 0 then ((signal_Default.f a1).bind fun t476 => (if t476 = 0 then (if a1 = 17 then (if a1 = 18 then (jobshelllaw25_SignalIgnored.j0 k a1 a2 true l0_0 l0_1 l0_2) else (if a1 = 9 then (jobshelllaw25_SignalIgnored.j0 k a1 a2 true l0_0 l0_1 l0_2) else (jobshelllaw25_SignalIgnored.j0 k a1 a2 (a1 == 19) l0_0 l0_1 l0_2))) else (jobshelllaw25_SignalIgnored.j0 k a1 a2 true l0_0 l0_1 l0_2)) else (if a1 = 18 then (jobshelllaw25_SignalIgnored.j0 k a1 a2 true l0_0 l0_1 l0_2) else (if a1 = 9 then (jobshelllaw25_SignalIgnored.j0 k a1 a2 true l0_0 l0_1 l0_2) else (jobshelllaw25_SignalIgnored.j0 k a1 a2 (a1 == 19) l0_0 l0_1 l0_2))))) else (jobshelllaw25_SignalIgnored.j0 k a1 a2 true l0_0 l0_1 l0_2))) else (jobshelllaw25_SignalIgnored.j0 k a1 a2 true l0_0 l0_1 l0_2))
theorem jobshelllaw25_SignalIgnored.mono_l : ∀ k, (∀ y0 y1 y2 y3 y4 y5, LeO (jobshelllaw25_SignalIgnored.j0 k y0 y1 y2 y3 y4 y5) (jobshelllaw25_SignalIgnored.j0 (k + 1) y0 y1 y2 y3 y4 y5)) ∧ (∀ y0 y1 y2 y3 y4 y5, LeO (jobshelllaw25_SignalIgnored.j1 k y0 y1 y2 y3 y4 y5) (jobshelllaw25_SignalIgnored.j1 (k + 1) y0 y1 y2 y3 y4 y5))
 | 0 => ⟨fun _ _ _ _ _ _ r h => by simp [jobshelllaw25_SignalIgnored.j0] at h, fun _ _ _ _ _ _ r h => by simp [jobshelllaw25_SignalIgnored.j1] at h⟩
 | k + 1 => by
  obtain ⟨ih0, ih1⟩ := jobshelllaw25_SignalIgnored.mono_l k
  refine ⟨?_, ?_⟩
  ·intro y0 y1 y2 y3 y4 y5
   unfold jobshelllaw25_SignalIgnored.j0
   repeat' first
   | (with_reducible exact ih0 _ _ _ _ _ _)
   | (with_reducible exact ih1 _ _ _ _ _ _)
   | (with_reducible exact jobshelllaw25_awake.mono _)
   | (with_reducible exact jobshellref25_Has.mono _ _ _)
   | (with_reducible exact jobshellref25_Valid.mono _ _ _ _)
   | (with_reducible exact signal_Send.mono _ _ _ _ _)
   | (with_reducible exact signal_Set.mono _ _ _ _ _ _)
   | (with_reducible exact LeO.refl _)
   | (with_reducible exact LeO.none _)
   | (with_reducible refine LeO.ite ?_ ?_)
   | (with_reducible refine LeO.bind ?_ (fun _ => ?_))
   | exact ih0 _ _ _ _ _ _
   | exact ih1 _ _ _ _ _ _
   | exact jobshelllaw25_awake.mono _
   | exact jobshellref25_Has.mono _ _ _
   | exact jobshellref25_Valid.mono _ _ _ _
   | exact signal_Send.mono _ _ _ _ _
   | exact signal_Set.mono _ _ _ _ _ _
   | exact LeO.none _
   | refine LeO.ite ?_ ?_
   | refine LeO.bind ?_ (fun _ => ?_)
  ·intro y0 y1 y2 y3 y4 y5
   unfold jobshelllaw25_SignalIgnored.j1
   repeat' first
   | (with_reducible exact ih0 _ _ _ _ _ _)
   | (with_reducible exact ih1 _ _ _ _ _ _)
   | (with_reducible exact jobshelllaw25_awake.mono _)
   | (with_reducible exact jobshellref25_Has.mono _ _ _)
   | (with_reducible exact jobshellref25_Valid.mono _ _ _ _)
   | (with_reducible exact signal_Send.mono _ _ _ _ _)
   | (with_reducible exact signal_Set.mono _ _ _ _ _ _)
   | (with_reducible exact LeO.refl _)
   | (with_reducible exact LeO.none _)
   | (with_reducible refine LeO.ite ?_ ?_)
   | (with_reducible refine LeO.bind ?_ (fun _ => ?_))
   | exact ih0 _ _ _ _ _ _
   | exact ih1 _ _ _ _ _ _
   | exact jobshelllaw25_awake.mono _
   | exact jobshellref25_Has.mono _ _ _
   | exact jobshellref25_Valid.mono _ _ _ _
   | exact signal_Send.mono _ _ _ _ _
   | exact signal_Set.mono _ _ _ _ _ _
   | exact LeO.none _
   | refine LeO.ite ?_ ?_
   | refine LeO.bind ?_ (fun _ => ?_)
theorem jobshelllaw25_SignalIgnored.mono : ∀ a0 a1 a2 a3 a4 k, LeO (jobshelllaw25_SignalIgnored.f k a0 a1 a2 a3 a4) (jobshelllaw25_SignalIgnored.f (k + 1) a0 a1 a2 a3 a4) := by
 intro a0 a1 a2 a3 a4 k
 obtain ⟨ih0, ih1⟩ := jobshelllaw25_SignalIgnored.mono_l k
 unfold jobshelllaw25_SignalIgnored.f
 repeat' first
   | (with_reducible exact ih0 _ _ _ _ _ _)
   | (with_reducible exact ih1 _ _ _ _ _ _)
   | (with_reducible exact jobshelllaw25_awake.mono _)
   | (with_reducible exact jobshellref25_Has.mono _ _ _)
   | (with_reducible exact jobshellref25_Valid.mono _ _ _ _)
   | (with_reducible exact signal_Send.mono _ _ _ _ _)
   | (with_reducible exact signal_Set.mono _ _ _ _ _ _)
   | (with_reducible exact LeO.refl _)
   | (with_reducible exact LeO.none _)
   | (with_reducible refine LeO.ite ?_ ?_)
   | (with_reducible refine LeO.bind ?_ (fun _ => ?_))
   | exact ih0 _ _ _ _ _ _
   | exact ih1 _ _ _ _ _ _
   | exact jobshelllaw25_awake.mono _
   | exact jobshellref25_Has.mono _ _ _
   | exact jobshellref25_Valid.mono _ _ _ _
   | exact signal_Send.mono _ _ _ _ _
   | exact signal_Set.mono _ _ _ _ _ _
   | exact LeO.none _
   | refine LeO.ite ?_ ?_
   | refine LeO.bind ?_ (fun _ => ?_)
set_option maxHeartbeats 8000000 in
set_option maxRecDepth 10000000 in
theorem jobshelllaw25_SignalIgnored.calls (k : Nat) (A0_0 : Option Addr) (c0_0 : Nat) (l0_0 : List Int) (A0_1 : Option Addr) (c0_1 : Nat) (l0_1 : List Int) (A0_2 : Option Addr) (c0_2 : Nat) (l0_2 : List Int) (a1 : Int) (a2 : Int) (r : Bool) (w : World) (hr0_0 : Kd.C (Kd.int .i64) w A0_0 l0_0.length l0_0) (hc0_0 : l0_0.length ≤ c0_0) (hr0_1 : Kd.C (Kd.int .i64) w A0_1 l0_1.length l0_1) (hc0_1 : l0_1.length ≤ c0_1) (hr0_2 : Kd.C (Kd.int .i64) w A0_2 l0_2.length l0_2) (hc0_2 : l0_2.length ≤ c0_2) (h : jobshelllaw25_SignalIgnored.f k l0_0 l0_1 l0_2 a1 a2 = some r) :
  Calls Tryd.prog 6 #[.agg #[.slice A0_0 l0_0.length c0_0, .slice A0_1 l0_1.length c0_1, .slice A0_2 l0_2.length c0_2], .int .i64 a1, .int .i64 a2] w fun e w' => e = .returned (.bool r) ∧ Below w.heap.size w w' := by
 have hu30 := Tryd.underlying30
 have hfld30_0 : ∀ (u0_ u1_ u2_ : Value) (W : World), (Instr.field 30 (.agg #[u0_, u1_, u2_]) 0).run Tryd.prog W = .ok (u0_) W := fun u0_ u1_ u2_ W => by rfl
 have HR0_0 := Zk hr0_0
 have HC0_0 := Zk hc0_0
 clear hr0_0 hc0_0
 have HR0_1 := Zk hr0_1
 have HC0_1 := Zk hc0_1
 clear hr0_1 hc0_1
 have HR0_2 := Zk hr0_2
 have HC0_2 := Zk hc0_2
 clear hr0_2 hc0_2
 have HB := Zk (Below.refl w.heap.size w)
 have H : ((jobshelllaw25_short.f l0_0 l0_1 l0_2).bind fun t474 => (if t474 = true then ((jobshellref25_Valid.f k l0_0 l0_1 l0_2).bind fun t475 => (if t475 = 0 then ((signal_Default.f a1).bind fun t476 => (if t476 = 0 then (if a1 = 17 then (if a1 = 18 then (jobshelllaw25_SignalIgnored.j0 k a1 a2 true l0_0 l0_1 l0_2) else (if a1 = 9 then (jobshelllaw25_SignalIgnored.j0 k a1 a2 true l0_0 l0_1 l0_2) else (jobshelllaw25_SignalIgnored.j0 k a1 a2 (a1 == 19) l0_0 l0_1 l0_2))) else (jobshelllaw25_SignalIgnored.j0 k a1 a2 true l0_0 l0_1 l0_2)) else (if a1 = 18 then (jobshelllaw25_SignalIgnored.j0 k a1 a2 true l0_0 l0_1 l0_2) else (if a1 = 9 then (jobshelllaw25_SignalIgnored.j0 k a1 a2 true l0_0 l0_1 l0_2) else (jobshelllaw25_SignalIgnored.j0 k a1 a2 (a1 == 19) l0_0 l0_1 l0_2))))) else (jobshelllaw25_SignalIgnored.j0 k a1 a2 true l0_0 l0_1 l0_2))) else (jobshelllaw25_SignalIgnored.j0 k a1 a2 true l0_0 l0_1 l0_2))) = some r := h
 clear h
 have HC4 := Zk H
 clear H
 go_enter Tryd.func6, Tryd.ntmps6
 go_upto_region 1 with (first | ((with_reducible refine gate_dst (N := 3) rfl ?_); refine box_event ?hg (N := 3) ?hd (cs := #[.slice A0_0 l0_0.length c0_0, .slice A0_1 l0_1.length c0_1, .slice A0_2 l0_2.length c0_2]) (t := 30) ?hr ?_; (case hd => rfl); (case hg => rfl); (case hr => first | (go_simp; done) | (go_simp; rfl)); intro gb473 hg w5 hbox hb; have n0_ := Zk (below_step (by repeat (first | (with_reducible first | exact HB.out | apply below_alloc | apply pw_below_drewN | apply below_drew1) | exact HB.out)) hb); have n1_ := Zk (hbox); have n2_ := Zk ((by rw [hg]; exact (below_size (by repeat (first | (with_reducible first | exact HB.out | apply below_alloc | apply pw_below_drewN | apply below_drew1) | exact HB.out))) : w.heap.size ≤ gb473)); have n3_ := Zk ((by rw [hg]; exact (below_size (by repeat (first | (with_reducible first | exact HB.out | apply below_alloc | apply pw_below_drewN | apply below_drew1) | exact HB.out))) : w.heap.size ≤ gb473)); clear HB; have HB := n0_; have BK473 := n1_; have GW473 := n2_; have GE473 := n3_; clear n0_ n1_ n2_ n3_; clear hb hbox hg))
 (try simp only [Act.put, List.setIfInBounds_toArray, List.set_cons_zero, List.set_cons_succ])
 go_cut [40] (fun v40 wc => ∃ (kq : Nat) (x40_3 : Bool), v40 = .bool x40_3 ∧ Aside0 (jobshelllaw25_SignalIgnored.j0 kq a1 a2 x40_3 l0_0 l0_1 l0_2 = some r) ∧ Aside0 (kq ≤ k) ∧ Aside0 (wc.heap[gb473]? = some (.cells #[(.slice A0_0 l0_0.length c0_0), (.slice A0_1 l0_1.length c0_1), (.slice A0_2 l0_2.length c0_2)] 30 (0, 0))) ∧ Aside0 (Below w.heap.size w wc))
 case first =>
  have H := HC4.out
  clear HC4
  replace H := Option.bind_eq_some_iff.mp H
  obtain ⟨t474, A60, H⟩ := H
  replace H : (if t474 = true then ((jobshellref25_Valid.f k l0_0 l0_1 l0_2).bind fun t475 => (if t475 = 0 then ((signal_Default.f a1).bind fun t476 => (if t476 = 0 then (if a1 = 17 then (if a1 = 18 then (jobshelllaw25_SignalIgnored.j0 k a1 a2 true l0_0 l0_1 l0_2) else (if a1 = 9 then (jobshelllaw25_SignalIgnored.j0 k a1 a2 true l0_0 l0_1 l0_2) else (jobshelllaw25_SignalIgnored.j0 k a1 a2 (a1 == 19) l0_0 l0_1 l0_2))) else (jobshelllaw25_SignalIgnored.j0 k a1 a2 true l0_0 l0_1 l0_2)) else (if a1 = 18 then (jobshelllaw25_SignalIgnored.j0 k a1 a2 true l0_0 l0_1 l0_2) else (if a1 = 9 then (jobshelllaw25_SignalIgnored.j0 k a1 a2 true l0_0 l0_1 l0_2) else (jobshelllaw25_SignalIgnored.j0 k a1 a2 (a1 == 19) l0_0 l0_1 l0_2))))) else (jobshelllaw25_SignalIgnored.j0 k a1 a2 true l0_0 l0_1 l0_2))) else (jobshelllaw25_SignalIgnored.j0 k a1 a2 true l0_0 l0_1 l0_2)) = some r := H
  have A6 := Zk A60
  clear A60
  by_cases c7 : t474 = true
  ·subst c7
   have H1 : ((jobshellref25_Valid.f k l0_0 l0_1 l0_2).bind fun t475 => (if t475 = 0 then ((signal_Default.f a1).bind fun t476 => (if t476 = 0 then (if a1 = 17 then (if a1 = 18 then (jobshelllaw25_SignalIgnored.j0 k a1 a2 true l0_0 l0_1 l0_2) else (if a1 = 9 then (jobshelllaw25_SignalIgnored.j0 k a1 a2 true l0_0 l0_1 l0_2) else (jobshelllaw25_SignalIgnored.j0 k a1 a2 (a1 == 19) l0_0 l0_1 l0_2))) else (jobshelllaw25_SignalIgnored.j0 k a1 a2 true l0_0 l0_1 l0_2)) else (if a1 = 18 then (jobshelllaw25_SignalIgnored.j0 k a1 a2 true l0_0 l0_1 l0_2) else (if a1 = 9 then (jobshelllaw25_SignalIgnored.j0 k a1 a2 true l0_0 l0_1 l0_2) else (jobshelllaw25_SignalIgnored.j0 k a1 a2 (a1 == 19) l0_0 l0_1 l0_2))))) else (jobshelllaw25_SignalIgnored.j0 k a1 a2 true l0_0 l0_1 l0_2))) = some r := by rw [if_pos rfl] at H; exact H
   clear H
   have H := H1
   clear H1
   replace H := Option.bind_eq_some_iff.mp H
   obtain ⟨t475, A80, H⟩ := H
   replace H : (if t475 = 0 then ((signal_Default.f a1).bind fun t476 => (if t476 = 0 then (if a1 = 17 then (if a1 = 18 then (jobshelllaw25_SignalIgnored.j0 k a1 a2 true l0_0 l0_1 l0_2) else (if a1 = 9 then (jobshelllaw25_SignalIgnored.j0 k a1 a2 true l0_0 l0_1 l0_2) else (jobshelllaw25_SignalIgnored.j0 k a1 a2 (a1 == 19) l0_0 l0_1 l0_2))) else (jobshelllaw25_SignalIgnored.j0 k a1 a2 true l0_0 l0_1 l0_2)) else (if a1 = 18 then (jobshelllaw25_SignalIgnored.j0 k a1 a2 true l0_0 l0_1 l0_2) else (if a1 = 9 then (jobshelllaw25_SignalIgnored.j0 k a1 a2 true l0_0 l0_1 l0_2) else (jobshelllaw25_SignalIgnored.j0 k a1 a2 (a1 == 19) l0_0 l0_1 l0_2))))) else (jobshelllaw25_SignalIgnored.j0 k a1 a2 true l0_0 l0_1 l0_2)) = some r := H
   have A8 := Zk A80
   clear A80
   by_cases c9 : t475 = 0
   ·rw [if_pos c9] at H
    have c9b0 : (t475 == 0) = true := beq_iff_eq.mpr c9
    have c9b1 : (t475 != 0) = false := bne_eq_false_iff_eq.mpr c9
    clear c9
    (first | rw [c9b0] | (simp only [i64_w, i32_w]; rw [c9b0]) | skip)
    replace H := Option.bind_eq_some_iff.mp H
    obtain ⟨t476, A100, H⟩ := H
    replace H : (if t476 = 0 then (if a1 = 17 then (if a1 = 18 then (jobshelllaw25_SignalIgnored.j0 k a1 a2 true l0_0 l0_1 l0_2) else (if a1 = 9 then (jobshelllaw25_SignalIgnored.j0 k a1 a2 true l0_0 l0_1 l0_2) else (jobshelllaw25_SignalIgnored.j0 k a1 a2 (a1 == 19) l0_0 l0_1 l0_2))) else (jobshelllaw25_SignalIgnored.j0 k a1 a2 true l0_0 l0_1 l0_2)) else (if a1 = 18 then (jobshelllaw25_SignalIgnored.j0 k a1 a2 true l0_0 l0_1 l0_2) else (if a1 = 9 then (jobshelllaw25_SignalIgnored.j0 k a1 a2 true l0_0 l0_1 l0_2) else (jobshelllaw25_SignalIgnored.j0 k a1 a2 (a1 == 19) l0_0 l0_1 l0_2)))) = some r := H
    have A10 := Zk A100
    clear A100
    by_cases c11 : t476 = 0
    ·rw [if_pos c11] at H
     have c11b0 : (t476 == 0) = true := beq_iff_eq.mpr c11
     have c11b1 : (t476 != 0) = false := bne_eq_false_iff_eq.mpr c11
     clear c11
     by_cases c12 : a1 = 17
     ·rw [if_pos c12] at H
      have c12b0 : (a1 == 17) = true := beq_iff_eq.mpr c12
      have c12b1 : (a1 != 17) = false := bne_eq_false_iff_eq.mpr c12
      clear c12
      by_cases c13 : a1 = 18
      ·rw [if_pos c13] at H
       have c13b0 : (a1 == 18) = true := beq_iff_eq.mpr c13
       have c13b1 : (a1 != 18) = false := bne_eq_false_iff_eq.mpr c13
       clear c13
       have H' := Zk H
       clear H
       have hcz14_0 : w5.cell? ⟨gb473, 0, none⟩ = some (.slice A0_0 l0_0.length c0_0) := (blk_cell BK473.out 0).trans rfl
       have hcz14_1 : w5.cell? ⟨gb473, 1, none⟩ = some (.slice A0_1 l0_1.length c0_1) := (blk_cell BK473.out 1).trans rfl
       have hcz14_2 : w5.cell? ⟨gb473, 2, none⟩ = some (.slice A0_2 l0_2.length c0_2) := (blk_cell BK473.out 2).trans rfl
       have hfz14_0 := blk_frozen BK473.out 0
       have hfz14_1 := blk_frozen BK473.out 1
       have hfz14_2 := blk_frozen BK473.out 2
       go_wp2_with (first | ((with_reducible refine gate_callee (f := 17) rfl ?_); refine goesL_ (some 13) rfl rfl Tryd.func17 (by kernel_rfl) rfl #[.agg #[.slice A0_0 l0_0.length c0_0, .slice A0_1 l0_1.length c0_1, .slice A0_2 l0_2.length c0_2]] rfl (by (try simp only [List.map_toArray, List.map_cons, List.map_nil]); first | done | rfl | (simp only [List.length_drop, List.length_take]; rfl)) ?_; (with_reducible refine (jobshelllaw25_short.calls _ _ l0_0 _ _ l0_1 _ _ l0_2 true _ ?side1 ?side2 ?side3 ?side4 ?side5 ?side6 A6.out).mono ?_); (case side1 => repeat (first | exact (C_below HR0_0.out HB.out) | (with_reducible refine C_alloc ?_ _) | (with_reducible refine C_drewN ?_ _) | (with_reducible refine C_drew ?_))); (case side2 => exact HC0_0.out); (case side3 => repeat (first | exact (C_below HR0_1.out HB.out) | (with_reducible refine C_alloc ?_ _) | (with_reducible refine C_drewN ?_ _) | (with_reducible refine C_drew ?_))); (case side4 => exact HC0_1.out); (case side5 => repeat (first | exact (C_below HR0_2.out HB.out) | (with_reducible refine C_alloc ?_ _) | (with_reducible refine C_drewN ?_ _) | (with_reducible refine C_drew ?_))); (case side6 => exact HC0_2.out); rintro e w15 ⟨rfl, hb⟩; refine ⟨_, rfl, ?_⟩; have n0_ := Zk (blk_below (g := gb473) (o := .cells #[.slice A0_0 l0_0.length c0_0, .slice A0_1 l0_1.length c0_1, .slice A0_2 l0_2.length c0_2] 30 (0, 0)) (by (with_reducible repeat (first | refine blk_drewN ?_ _ | refine blk_drew ?_ | refine blk_alloc ?_ _)); exact BK473.out) hb); have n1_ := Zk (below_step (by repeat (first | (with_reducible first | exact HB.out | apply below_alloc | apply pw_below_drewN | apply below_drew1 | refine below_set ?_ GE473.out) | exact HB.out)) hb); clear BK473; clear HB; have BK473 := n0_; have HB := n1_; clear n0_ n1_; (try clear hb); (try clear hb2); (try clear hk); (try clear hi); have hcz16_0 : w15.cell? ⟨gb473, 0, none⟩ = some (.slice A0_0 l0_0.length c0_0) := (blk_cell BK473.out 0).trans rfl; have hcz16_1 : w15.cell? ⟨gb473, 1, none⟩ = some (.slice A0_1 l0_1.length c0_1) := (blk_cell BK473.out 1).trans rfl; have hcz16_2 : w15.cell? ⟨gb473, 2, none⟩ = some (.slice A0_2 l0_2.length c0_2) := (blk_cell BK473.out 2).trans rfl; have hfz16_0 := blk_frozen BK473.out 0; have hfz16_1 := blk_frozen BK473.out 1; have hfz16_2 := blk_frozen BK473.out 2) | (go_at_call 18; (with_reducible refine (jobshellref25_Valid.calls k _ _ l0_0 _ _ l0_1 _ _ l0_2 t475 _ ?side1 ?side2 ?side3 ?side4 ?side5 ?side6 A8.out).mono ?_); (case side1 => repeat (first | exact (C_below HR0_0.out HB.out) | (with_reducible refine C_alloc ?_ _) | (with_reducible refine C_drewN ?_ _) | (with_reducible refine C_drew ?_))); (case side2 => exact HC0_0.out); (case side3 => repeat (first | exact (C_below HR0_1.out HB.out) | (with_reducible refine C_alloc ?_ _) | (with_reducible refine C_drewN ?_ _) | (with_reducible refine C_drew ?_))); (case side4 => exact HC0_1.out); (case side5 => repeat (first | exact (C_below HR0_2.out HB.out) | (with_reducible refine C_alloc ?_ _) | (with_reducible refine C_drewN ?_ _) | (with_reducible refine C_drew ?_))); (case side6 => exact HC0_2.out); rintro e w17 ⟨rfl, hb⟩; have n0_ := Zk (blk_below (g := gb473) (o := .cells #[.slice A0_0 l0_0.length c0_0, .slice A0_1 l0_1.length c0_1, .slice A0_2 l0_2.length c0_2] 30 (0, 0)) (by (with_reducible repeat (first | refine blk_drewN ?_ _ | refine blk_drew ?_ | refine blk_alloc ?_ _)); exact BK473.out) hb); have n1_ := Zk (below_step (by repeat (first | (with_reducible first | exact HB.out | apply below_alloc | apply pw_below_drewN | apply below_drew1 | refine below_set ?_ GE473.out) | exact HB.out)) hb); clear BK473; clear HB; have BK473 := n0_; have HB := n1_; clear n0_ n1_; (try clear hb); (try clear hb2); (try clear hk); (try clear hi)) | (go_at_call 15; (with_reducible refine (signal_Default.calls a1 t476 _ A10.out).mono ?_); rintro e w18 ⟨rfl, hb⟩; have n0_ := Zk (blk_below (g := gb473) (o := .cells #[.slice A0_0 l0_0.length c0_0, .slice A0_1 l0_1.length c0_1, .slice A0_2 l0_2.length c0_2] 30 (0, 0)) (by (with_reducible repeat (first | refine blk_drewN ?_ _ | refine blk_drew ?_ | refine blk_alloc ?_ _)); exact BK473.out) hb); have n1_ := Zk (below_step (by repeat (first | (with_reducible first | exact HB.out | apply below_alloc | apply pw_below_drewN | apply below_drew1 | refine below_set ?_ GE473.out) | exact HB.out)) hb); clear BK473; clear HB; have BK473 := n0_; have HB := n1_; clear n0_ n1_; (try clear hb); (try clear hb2); (try clear hk); (try clear hi)))
       go_meet
       case rel => exact ⟨_, (true), (by first | rfl | (simp; done) | (simp [*]; done) | (generalize ByteArray.toList _ = l_; cases l_ <;> rfl)), H', ⟨by first | omega | exact Nat.le_refl _⟩, ⟨by (with_reducible repeat (first | refine blk_drewN ?_ _ | refine blk_drew ?_ | refine blk_alloc ?_ _)); exact BK473.out⟩, ⟨by repeat (first | (with_reducible first | exact HB.out | apply below_alloc | apply pw_below_drewN | apply below_drew1 | refine below_set ?_ GE473.out) | exact HB.out)⟩⟩
      ·rw [if_neg c13] at H
       have c13b0 : (a1 == 18) = false := beq_eq_false_iff_ne.mpr c13
       have c13b1 : (a1 != 18) = true := bne_iff_ne.mpr c13
       by_cases c19 : a1 = 9
       ·rw [if_pos c19] at H
        have c19b0 : (a1 == 9) = true := beq_iff_eq.mpr c19
        have c19b1 : (a1 != 9) = false := bne_eq_false_iff_eq.mpr c19
        clear c19
        have H' := Zk H
        clear H
        have hcz20_0 : w5.cell? ⟨gb473, 0, none⟩ = some (.slice A0_0 l0_0.length c0_0) := (blk_cell BK473.out 0).trans rfl
        have hcz20_1 : w5.cell? ⟨gb473, 1, none⟩ = some (.slice A0_1 l0_1.length c0_1) := (blk_cell BK473.out 1).trans rfl
        have hcz20_2 : w5.cell? ⟨gb473, 2, none⟩ = some (.slice A0_2 l0_2.length c0_2) := (blk_cell BK473.out 2).trans rfl
        have hfz20_0 := blk_frozen BK473.out 0
        have hfz20_1 := blk_frozen BK473.out 1
        have hfz20_2 := blk_frozen BK473.out 2
        go_wp2_with (first | ((with_reducible refine gate_callee (f := 17) rfl ?_); refine goesL_ (some 13) rfl rfl Tryd.func17 (by kernel_rfl) rfl #[.agg #[.slice A0_0 l0_0.length c0_0, .slice A0_1 l0_1.length c0_1, .slice A0_2 l0_2.length c0_2]] rfl (by (try simp only [List.map_toArray, List.map_cons, List.map_nil]); first | done | rfl | (simp only [List.length_drop, List.length_take]; rfl)) ?_; (with_reducible refine (jobshelllaw25_short.calls _ _ l0_0 _ _ l0_1 _ _ l0_2 true _ ?side1 ?side2 ?side3 ?side4 ?side5 ?side6 A6.out).mono ?_); (case side1 => repeat (first | exact (C_below HR0_0.out HB.out) | (with_reducible refine C_alloc ?_ _) | (with_reducible refine C_drewN ?_ _) | (with_reducible refine C_drew ?_))); (case side2 => exact HC0_0.out); (case side3 => repeat (first | exact (C_below HR0_1.out HB.out) | (with_reducible refine C_alloc ?_ _) | (with_reducible refine C_drewN ?_ _) | (with_reducible refine C_drew ?_))); (case side4 => exact HC0_1.out); (case side5 => repeat (first | exact (C_below HR0_2.out HB.out) | (with_reducible refine C_alloc ?_ _) | (with_reducible refine C_drewN ?_ _) | (with_reducible refine C_drew ?_))); (case side6 => exact HC0_2.out); rintro e w21 ⟨rfl, hb⟩; refine ⟨_, rfl, ?_⟩; have n0_ := Zk (blk_below (g := gb473) (o := .cells #[.slice A0_0 l0_0.length c0_0, .slice A0_1 l0_1.length c0_1, .slice A0_2 l0_2.length c0_2] 30 (0, 0)) (by (with_reducible repeat (first | refine blk_drewN ?_ _ | refine blk_drew ?_ | refine blk_alloc ?_ _)); exact BK473.out) hb); have n1_ := Zk (below_step (by repeat (first | (with_reducible first | exact HB.out | apply below_alloc | apply pw_below_drewN | apply below_drew1 | refine below_set ?_ GE473.out) | exact HB.out)) hb); clear BK473; clear HB; have BK473 := n0_; have HB := n1_; clear n0_ n1_; (try clear hb); (try clear hb2); (try clear hk); (try clear hi); have hcz22_0 : w21.cell? ⟨gb473, 0, none⟩ = some (.slice A0_0 l0_0.length c0_0) := (blk_cell BK473.out 0).trans rfl; have hcz22_1 : w21.cell? ⟨gb473, 1, none⟩ = some (.slice A0_1 l0_1.length c0_1) := (blk_cell BK473.out 1).trans rfl; have hcz22_2 : w21.cell? ⟨gb473, 2, none⟩ = some (.slice A0_2 l0_2.length c0_2) := (blk_cell BK473.out 2).trans rfl; have hfz22_0 := blk_frozen BK473.out 0; have hfz22_1 := blk_frozen BK473.out 1; have hfz22_2 := blk_frozen BK473.out 2) | (go_at_call 18; (with_reducible refine (jobshellref25_Valid.calls k _ _ l0_0 _ _ l0_1 _ _ l0_2 t475 _ ?side1 ?side2 ?side3 ?side4 ?side5 ?side6 A8.out).mono ?_); (case side1 => repeat (first | exact (C_below HR0_0.out HB.out) | (with_reducible refine C_alloc ?_ _) | (with_reducible refine C_drewN ?_ _) | (with_reducible refine C_drew ?_))); (case side2 => exact HC0_0.out); (case side3 => repeat (first | exact (C_below HR0_1.out HB.out) | (with_reducible refine C_alloc ?_ _) | (with_reducible refine C_drewN ?_ _) | (with_reducible refine C_drew ?_))); (case side4 => exact HC0_1.out); (case side5 => repeat (first | exact (C_below HR0_2.out HB.out) | (with_reducible refine C_alloc ?_ _) | (with_reducible refine C_drewN ?_ _) | (with_reducible refine C_drew ?_))); (case side6 => exact HC0_2.out); rintro e w23 ⟨rfl, hb⟩; have n0_ := Zk (blk_below (g := gb473) (o := .cells #[.slice A0_0 l0_0.length c0_0, .slice A0_1 l0_1.length c0_1, .slice A0_2 l0_2.length c0_2] 30 (0, 0)) (by (with_reducible repeat (first | refine blk_drewN ?_ _ | refine blk_drew ?_ | refine blk_alloc ?_ _)); exact BK473.out) hb); have n1_ := Zk (below_step (by repeat (first | (with_reducible first | exact HB.out | apply below_alloc | apply pw_below_drewN | apply below_drew1 | refine below_set ?_ GE473.out) | exact HB.out)) hb); clear BK473; clear HB; have BK473 := n0_; have HB := n1_; clear n0_ n1_; (try clear hb); (try clear hb2); (try clear hk); (try clear hi)) | (go_at_call 15; (with_reducible refine (signal_Default.calls a1 t476 _ A10.out).mono ?_); rintro e w24 ⟨rfl, hb⟩; have n0_ := Zk (blk_below (g := gb473) (o := .cells #[.slice A0_0 l0_0.length c0_0, .slice A0_1 l0_1.length c0_1, .slice A0_2 l0_2.length c0_2] 30 (0, 0)) (by (with_reducible repeat (first | refine blk_drewN ?_ _ | refine blk_drew ?_ | refine blk_alloc ?_ _)); exact BK473.out) hb); have n1_ := Zk (below_step (by repeat (first | (with_reducible first | exact HB.out | apply below_alloc | apply pw_below_drewN | apply below_drew1 | refine below_set ?_ GE473.out) | exact HB.out)) hb); clear BK473; clear HB; have BK473 := n0_; have HB := n1_; clear n0_ n1_; (try clear hb); (try clear hb2); (try clear hk); (try clear hi)))
        go_meet
        case rel => exact ⟨_, (true), (by first | rfl | (simp; done) | (simp [*]; done) | (generalize ByteArray.toList _ = l_; cases l_ <;> rfl)), H', ⟨by first | omega | exact Nat.le_refl _⟩, ⟨by (with_reducible repeat (first | refine blk_drewN ?_ _ | refine blk_drew ?_ | refine blk_alloc ?_ _)); exact BK473.out⟩, ⟨by repeat (first | (with_reducible first | exact HB.out | apply below_alloc | apply pw_below_drewN | apply below_drew1 | refine below_set ?_ GE473.out) | exact HB.out)⟩⟩
       ·rw [if_neg c19] at H
        have c19b0 : (a1 == 9) = false := beq_eq_false_iff_ne.mpr c19
        have c19b1 : (a1 != 9) = true := bne_iff_ne.mpr c19
        have H' := Zk H
        clear H
        have hcz25_0 : w5.cell? ⟨gb473, 0, none⟩ = some (.slice A0_0 l0_0.length c0_0) := (blk_cell BK473.out 0).trans rfl
        have hcz25_1 : w5.cell? ⟨gb473, 1, none⟩ = some (.slice A0_1 l0_1.length c0_1) := (blk_cell BK473.out 1).trans rfl
        have hcz25_2 : w5.cell? ⟨gb473, 2, none⟩ = some (.slice A0_2 l0_2.length c0_2) := (blk_cell BK473.out 2).trans rfl
        have hfz25_0 := blk_frozen BK473.out 0
        have hfz25_1 := blk_frozen BK473.out 1
        have hfz25_2 := blk_frozen BK473.out 2
        go_wp2_with (first | ((with_reducible refine gate_callee (f := 17) rfl ?_); refine goesL_ (some 13) rfl rfl Tryd.func17 (by kernel_rfl) rfl #[.agg #[.slice A0_0 l0_0.length c0_0, .slice A0_1 l0_1.length c0_1, .slice A0_2 l0_2.length c0_2]] rfl (by (try simp only [List.map_toArray, List.map_cons, List.map_nil]); first | done | rfl | (simp only [List.length_drop, List.length_take]; rfl)) ?_; (with_reducible refine (jobshelllaw25_short.calls _ _ l0_0 _ _ l0_1 _ _ l0_2 true _ ?side1 ?side2 ?side3 ?side4 ?side5 ?side6 A6.out).mono ?_); (case side1 => repeat (first | exact (C_below HR0_0.out HB.out) | (with_reducible refine C_alloc ?_ _) | (with_reducible refine C_drewN ?_ _) | (with_reducible refine C_drew ?_))); (case side2 => exact HC0_0.out); (case side3 => repeat (first | exact (C_below HR0_1.out HB.out) | (with_reducible refine C_alloc ?_ _) | (with_reducible refine C_drewN ?_ _) | (with_reducible refine C_drew ?_))); (case side4 => exact HC0_1.out); (case side5 => repeat (first | exact (C_below HR0_2.out HB.out) | (with_reducible refine C_alloc ?_ _) | (with_reducible refine C_drewN ?_ _) | (with_reducible refine C_drew ?_))); (case side6 => exact HC0_2.out); rintro e w26 ⟨rfl, hb⟩; refine ⟨_, rfl, ?_⟩; have n0_ := Zk (blk_below (g := gb473) (o := .cells #[.slice A0_0 l0_0.length c0_0, .slice A0_1 l0_1.length c0_1, .slice A0_2 l0_2.length c0_2] 30 (0, 0)) (by (with_reducible repeat (first | refine blk_drewN ?_ _ | refine blk_drew ?_ | refine blk_alloc ?_ _)); exact BK473.out) hb); have n1_ := Zk (below_step (by repeat (first | (with_reducible first | exact HB.out | apply below_alloc | apply pw_below_drewN | apply below_drew1 | refine below_set ?_ GE473.out) | exact HB.out)) hb); clear BK473; clear HB; have BK473 := n0_; have HB := n1_; clear n0_ n1_; (try clear hb); (try clear hb2); (try clear hk); (try clear hi); have hcz27_0 : w26.cell? ⟨gb473, 0, none⟩ = some (.slice A0_0 l0_0.length c0_0) := (blk_cell BK473.out 0).trans rfl; have hcz27_1 : w26.cell? ⟨gb473, 1, none⟩ = some (.slice A0_1 l0_1.length c0_1) := (blk_cell BK473.out 1).trans rfl; have hcz27_2 : w26.cell? ⟨gb473, 2, none⟩ = some (.slice A0_2 l0_2.length c0_2) := (blk_cell BK473.out 2).trans rfl; have hfz27_0 := blk_frozen BK473.out 0; have hfz27_1 := blk_frozen BK473.out 1; have hfz27_2 := blk_frozen BK473.out 2) | (go_at_call 18; (with_reducible refine (jobshellref25_Valid.calls k _ _ l0_0 _ _ l0_1 _ _ l0_2 t475 _ ?side1 ?side2 ?side3 ?side4 ?side5 ?side6 A8.out).mono ?_); (case side1 => repeat (first | exact (C_below HR0_0.out HB.out) | (with_reducible refine C_alloc ?_ _) | (with_reducible refine C_drewN ?_ _) | (with_reducible refine C_drew ?_))); (case side2 => exact HC0_0.out); (case side3 => repeat (first | exact (C_below HR0_1.out HB.out) | (with_reducible refine C_alloc ?_ _) | (with_reducible refine C_drewN ?_ _) | (with_reducible refine C_drew ?_))); (case side4 => exact HC0_1.out); (case side5 => repeat (first | exact (C_below HR0_2.out HB.out) | (with_reducible refine C_alloc ?_ _) | (with_reducible refine C_drewN ?_ _) | (with_reducible refine C_drew ?_))); (case side6 => exact HC0_2.out); rintro e w28 ⟨rfl, hb⟩; have n0_ := Zk (blk_below (g := gb473) (o := .cells #[.slice A0_0 l0_0.length c0_0, .slice A0_1 l0_1.length c0_1, .slice A0_2 l0_2.length c0_2] 30 (0, 0)) (by (with_reducible repeat (first | refine blk_drewN ?_ _ | refine blk_drew ?_ | refine blk_alloc ?_ _)); exact BK473.out) hb); have n1_ := Zk (below_step (by repeat (first | (with_reducible first | exact HB.out | apply below_alloc | apply pw_below_drewN | apply below_drew1 | refine below_set ?_ GE473.out) | exact HB.out)) hb); clear BK473; clear HB; have BK473 := n0_; have HB := n1_; clear n0_ n1_; (try clear hb); (try clear hb2); (try clear hk); (try clear hi)) | (go_at_call 15; (with_reducible refine (signal_Default.calls a1 t476 _ A10.out).mono ?_); rintro e w29 ⟨rfl, hb⟩; have n0_ := Zk (blk_below (g := gb473) (o := .cells #[.slice A0_0 l0_0.length c0_0, .slice A0_1 l0_1.length c0_1, .slice A0_2 l0_2.length c0_2] 30 (0, 0)) (by (with_reducible repeat (first | refine blk_drewN ?_ _ | refine blk_drew ?_ | refine blk_alloc ?_ _)); exact BK473.out) hb); have n1_ := Zk (below_step (by repeat (first | (with_reducible first | exact HB.out | apply below_alloc | apply pw_below_drewN | apply below_drew1 | refine below_set ?_ GE473.out) | exact HB.out)) hb); clear BK473; clear HB; have BK473 := n0_; have HB := n1_; clear n0_ n1_; (try clear hb); (try clear hb2); (try clear hk); (try clear hi)))
        go_meet
        case rel => exact ⟨_, ((a1 == 19)), (by first | rfl | (simp; done) | (simp [*]; done) | (generalize ByteArray.toList _ = l_; cases l_ <;> rfl)), H', ⟨by first | omega | exact Nat.le_refl _⟩, ⟨by (with_reducible repeat (first | refine blk_drewN ?_ _ | refine blk_drew ?_ | refine blk_alloc ?_ _)); exact BK473.out⟩, ⟨by repeat (first | (with_reducible first | exact HB.out | apply below_alloc | apply pw_below_drewN | apply below_drew1 | refine below_set ?_ GE473.out) | exact HB.out)⟩⟩
     ·rw [if_neg c12] at H
      have c12b0 : (a1 == 17) = false := beq_eq_false_iff_ne.mpr c12
      have c12b1 : (a1 != 17) = true := bne_iff_ne.mpr c12
      have H' := Zk H
      clear H
      have hcz30_0 : w5.cell? ⟨gb473, 0, none⟩ = some (.slice A0_0 l0_0.length c0_0) := (blk_cell BK473.out 0).trans rfl
      have hcz30_1 : w5.cell? ⟨gb473, 1, none⟩ = some (.slice A0_1 l0_1.length c0_1) := (blk_cell BK473.out 1).trans rfl
      have hcz30_2 : w5.cell? ⟨gb473, 2, none⟩ = some (.slice A0_2 l0_2.length c0_2) := (blk_cell BK473.out 2).trans rfl
      have hfz30_0 := blk_frozen BK473.out 0
      have hfz30_1 := blk_frozen BK473.out 1
      have hfz30_2 := blk_frozen BK473.out 2
      go_wp2_with (first | ((with_reducible refine gate_callee (f := 17) rfl ?_); refine goesL_ (some 13) rfl rfl Tryd.func17 (by kernel_rfl) rfl #[.agg #[.slice A0_0 l0_0.length c0_0, .slice A0_1 l0_1.length c0_1, .slice A0_2 l0_2.length c0_2]] rfl (by (try simp only [List.map_toArray, List.map_cons, List.map_nil]); first | done | rfl | (simp only [List.length_drop, List.length_take]; rfl)) ?_; (with_reducible refine (jobshelllaw25_short.calls _ _ l0_0 _ _ l0_1 _ _ l0_2 true _ ?side1 ?side2 ?side3 ?side4 ?side5 ?side6 A6.out).mono ?_); (case side1 => repeat (first | exact (C_below HR0_0.out HB.out) | (with_reducible refine C_alloc ?_ _) | (with_reducible refine C_drewN ?_ _) | (with_reducible refine C_drew ?_))); (case side2 => exact HC0_0.out); (case side3 => repeat (first | exact (C_below HR0_1.out HB.out) | (with_reducible refine C_alloc ?_ _) | (with_reducible refine C_drewN ?_ _) | (with_reducible refine C_drew ?_))); (case side4 => exact HC0_1.out); (case side5 => repeat (first | exact (C_below HR0_2.out HB.out) | (with_reducible refine C_alloc ?_ _) | (with_reducible refine C_drewN ?_ _) | (with_reducible refine C_drew ?_))); (case side6 => exact HC0_2.out); rintro e w31 ⟨rfl, hb⟩; refine ⟨_, rfl, ?_⟩; have n0_ := Zk (blk_below (g := gb473) (o := .cells #[.slice A0_0 l0_0.length c0_0, .slice A0_1 l0_1.length c0_1, .slice A0_2 l0_2.length c0_2] 30 (0, 0)) (by (with_reducible repeat (first | refine blk_drewN ?_ _ | refine blk_drew ?_ | refine blk_alloc ?_ _)); exact BK473.out) hb); have n1_ := Zk (below_step (by repeat (first | (with_reducible first | exact HB.out | apply below_alloc | apply pw_below_drewN | apply below_drew1 | refine below_set ?_ GE473.out) | exact HB.out)) hb); clear BK473; clear HB; have BK473 := n0_; have HB := n1_; clear n0_ n1_; (try clear hb); (try clear hb2); (try clear hk); (try clear hi); have hcz32_0 : w31.cell? ⟨gb473, 0, none⟩ = some (.slice A0_0 l0_0.length c0_0) := (blk_cell BK473.out 0).trans rfl; have hcz32_1 : w31.cell? ⟨gb473, 1, none⟩ = some (.slice A0_1 l0_1.length c0_1) := (blk_cell BK473.out 1).trans rfl; have hcz32_2 : w31.cell? ⟨gb473, 2, none⟩ = some (.slice A0_2 l0_2.length c0_2) := (blk_cell BK473.out 2).trans rfl; have hfz32_0 := blk_frozen BK473.out 0; have hfz32_1 := blk_frozen BK473.out 1; have hfz32_2 := blk_frozen BK473.out 2) | (go_at_call 18; (with_reducible refine (jobshellref25_Valid.calls k _ _ l0_0 _ _ l0_1 _ _ l0_2 t475 _ ?side1 ?side2 ?side3 ?side4 ?side5 ?side6 A8.out).mono ?_); (case side1 => repeat (first | exact (C_below HR0_0.out HB.out) | (with_reducible refine C_alloc ?_ _) | (with_reducible refine C_drewN ?_ _) | (with_reducible refine C_drew ?_))); (case side2 => exact HC0_0.out); (case side3 => repeat (first | exact (C_below HR0_1.out HB.out) | (with_reducible refine C_alloc ?_ _) | (with_reducible refine C_drewN ?_ _) | (with_reducible refine C_drew ?_))); (case side4 => exact HC0_1.out); (case side5 => repeat (first | exact (C_below HR0_2.out HB.out) | (with_reducible refine C_alloc ?_ _) | (with_reducible refine C_drewN ?_ _) | (with_reducible refine C_drew ?_))); (case side6 => exact HC0_2.out); rintro e w33 ⟨rfl, hb⟩; have n0_ := Zk (blk_below (g := gb473) (o := .cells #[.slice A0_0 l0_0.length c0_0, .slice A0_1 l0_1.length c0_1, .slice A0_2 l0_2.length c0_2] 30 (0, 0)) (by (with_reducible repeat (first | refine blk_drewN ?_ _ | refine blk_drew ?_ | refine blk_alloc ?_ _)); exact BK473.out) hb); have n1_ := Zk (below_step (by repeat (first | (with_reducible first | exact HB.out | apply below_alloc | apply pw_below_drewN | apply below_drew1 | refine below_set ?_ GE473.out) | exact HB.out)) hb); clear BK473; clear HB; have BK473 := n0_; have HB := n1_; clear n0_ n1_; (try clear hb); (try clear hb2); (try clear hk); (try clear hi)) | (go_at_call 15; (with_reducible refine (signal_Default.calls a1 t476 _ A10.out).mono ?_); rintro e w34 ⟨rfl, hb⟩; have n0_ := Zk (blk_below (g := gb473) (o := .cells #[.slice A0_0 l0_0.length c0_0, .slice A0_1 l0_1.length c0_1, .slice A0_2 l0_2.length c0_2] 30 (0, 0)) (by (with_reducible repeat (first | refine blk_drewN ?_ _ | refine blk_drew ?_ | refine blk_alloc ?_ _)); exact BK473.out) hb); have n1_ := Zk (below_step (by repeat (first | (with_reducible first | exact HB.out | apply below_alloc | apply pw_below_drewN | apply below_drew1 | refine below_set ?_ GE473.out) | exact HB.out)) hb); clear BK473; clear HB; have BK473 := n0_; have HB := n1_; clear n0_ n1_; (try clear hb); (try clear hb2); (try clear hk); (try clear hi)))
      go_meet
      case rel => exact ⟨_, (true), (by first | rfl | (simp; done) | (simp [*]; done) | (generalize ByteArray.toList _ = l_; cases l_ <;> rfl)), H', ⟨by first | omega | exact Nat.le_refl _⟩, ⟨by (with_reducible repeat (first | refine blk_drewN ?_ _ | refine blk_drew ?_ | refine blk_alloc ?_ _)); exact BK473.out⟩, ⟨by repeat (first | (with_reducible first | exact HB.out | apply below_alloc | apply pw_below_drewN | apply below_drew1 | refine below_set ?_ GE473.out) | exact HB.out)⟩⟩
    ·rw [if_neg c11] at H
     have c11b0 : (t476 == 0) = false := beq_eq_false_iff_ne.mpr c11
     have c11b1 : (t476 != 0) = true := bne_iff_ne.mpr c11
     by_cases c35 : a1 = 18
     ·rw [if_pos c35] at H
      have c35b0 : (a1 == 18) = true := beq_iff_eq.mpr c35
      have c35b1 : (a1 != 18) = false := bne_eq_false_iff_eq.mpr c35
      clear c35
      have H' := Zk H
      clear H
      have hcz36_0 : w5.cell? ⟨gb473, 0, none⟩ = some (.slice A0_0 l0_0.length c0_0) := (blk_cell BK473.out 0).trans rfl
      have hcz36_1 : w5.cell? ⟨gb473, 1, none⟩ = some (.slice A0_1 l0_1.length c0_1) := (blk_cell BK473.out 1).trans rfl
      have hcz36_2 : w5.cell? ⟨gb473, 2, none⟩ = some (.slice A0_2 l0_2.length c0_2) := (blk_cell BK473.out 2).trans rfl
      have hfz36_0 := blk_frozen BK473.out 0
      have hfz36_1 := blk_frozen BK473.out 1
      have hfz36_2 := blk_frozen BK473.out 2
      go_wp2_with (first | ((with_reducible refine gate_callee (f := 17) rfl ?_); refine goesL_ (some 13) rfl rfl Tryd.func17 (by kernel_rfl) rfl #[.agg #[.slice A0_0 l0_0.length c0_0, .slice A0_1 l0_1.length c0_1, .slice A0_2 l0_2.length c0_2]] rfl (by (try simp only [List.map_toArray, List.map_cons, List.map_nil]); first | done | rfl | (simp only [List.length_drop, List.length_take]; rfl)) ?_; (with_reducible refine (jobshelllaw25_short.calls _ _ l0_0 _ _ l0_1 _ _ l0_2 true _ ?side1 ?side2 ?side3 ?side4 ?side5 ?side6 A6.out).mono ?_); (case side1 => repeat (first | exact (C_below HR0_0.out HB.out) | (with_reducible refine C_alloc ?_ _) | (with_reducible refine C_drewN ?_ _) | (with_reducible refine C_drew ?_))); (case side2 => exact HC0_0.out); (case side3 => repeat (first | exact (C_below HR0_1.out HB.out) | (with_reducible refine C_alloc ?_ _) | (with_reducible refine C_drewN ?_ _) | (with_reducible refine C_drew ?_))); (case side4 => exact HC0_1.out); (case side5 => repeat (first | exact (C_below HR0_2.out HB.out) | (with_reducible refine C_alloc ?_ _) | (with_reducible refine C_drewN ?_ _) | (with_reducible refine C_drew ?_))); (case side6 => exact HC0_2.out); rintro e w37 ⟨rfl, hb⟩; refine ⟨_, rfl, ?_⟩; have n0_ := Zk (blk_below (g := gb473) (o := .cells #[.slice A0_0 l0_0.length c0_0, .slice A0_1 l0_1.length c0_1, .slice A0_2 l0_2.length c0_2] 30 (0, 0)) (by (with_reducible repeat (first | refine blk_drewN ?_ _ | refine blk_drew ?_ | refine blk_alloc ?_ _)); exact BK473.out) hb); have n1_ := Zk (below_step (by repeat (first | (with_reducible first | exact HB.out | apply below_alloc | apply pw_below_drewN | apply below_drew1 | refine below_set ?_ GE473.out) | exact HB.out)) hb); clear BK473; clear HB; have BK473 := n0_; have HB := n1_; clear n0_ n1_; (try clear hb); (try clear hb2); (try clear hk); (try clear hi); have hcz38_0 : w37.cell? ⟨gb473, 0, none⟩ = some (.slice A0_0 l0_0.length c0_0) := (blk_cell BK473.out 0).trans rfl; have hcz38_1 : w37.cell? ⟨gb473, 1, none⟩ = some (.slice A0_1 l0_1.length c0_1) := (blk_cell BK473.out 1).trans rfl; have hcz38_2 : w37.cell? ⟨gb473, 2, none⟩ = some (.slice A0_2 l0_2.length c0_2) := (blk_cell BK473.out 2).trans rfl; have hfz38_0 := blk_frozen BK473.out 0; have hfz38_1 := blk_frozen BK473.out 1; have hfz38_2 := blk_frozen BK473.out 2) | (go_at_call 18; (with_reducible refine (jobshellref25_Valid.calls k _ _ l0_0 _ _ l0_1 _ _ l0_2 t475 _ ?side1 ?side2 ?side3 ?side4 ?side5 ?side6 A8.out).mono ?_); (case side1 => repeat (first | exact (C_below HR0_0.out HB.out) | (with_reducible refine C_alloc ?_ _) | (with_reducible refine C_drewN ?_ _) | (with_reducible refine C_drew ?_))); (case side2 => exact HC0_0.out); (case side3 => repeat (first | exact (C_below HR0_1.out HB.out) | (with_reducible refine C_alloc ?_ _) | (with_reducible refine C_drewN ?_ _) | (with_reducible refine C_drew ?_))); (case side4 => exact HC0_1.out); (case side5 => repeat (first | exact (C_below HR0_2.out HB.out) | (with_reducible refine C_alloc ?_ _) | (with_reducible refine C_drewN ?_ _) | (with_reducible refine C_drew ?_))); (case side6 => exact HC0_2.out); rintro e w39 ⟨rfl, hb⟩; have n0_ := Zk (blk_below (g := gb473) (o := .cells #[.slice A0_0 l0_0.length c0_0, .slice A0_1 l0_1.length c0_1, .slice A0_2 l0_2.length c0_2] 30 (0, 0)) (by (with_reducible repeat (first | refine blk_drewN ?_ _ | refine blk_drew ?_ | refine blk_alloc ?_ _)); exact BK473.out) hb); have n1_ := Zk (below_step (by repeat (first | (with_reducible first | exact HB.out | apply below_alloc | apply pw_below_drewN | apply below_drew1 | refine below_set ?_ GE473.out) | exact HB.out)) hb); clear BK473; clear HB; have BK473 := n0_; have HB := n1_; clear n0_ n1_; (try clear hb); (try clear hb2); (try clear hk); (try clear hi)) | (go_at_call 15; (with_reducible refine (signal_Default.calls a1 t476 _ A10.out).mono ?_); rintro e w40 ⟨rfl, hb⟩; have n0_ := Zk (blk_below (g := gb473) (o := .cells #[.slice A0_0 l0_0.length c0_0, .slice A0_1 l0_1.length c0_1, .slice A0_2 l0_2.length c0_2] 30 (0, 0)) (by (with_reducible repeat (first | refine blk_drewN ?_ _ | refine blk_drew ?_ | refine blk_alloc ?_ _)); exact BK473.out) hb); have n1_ := Zk (below_step (by repeat (first | (with_reducible first | exact HB.out | apply below_alloc | apply pw_below_drewN | apply below_drew1 | refine below_set ?_ GE473.out) | exact HB.out)) hb); clear BK473; clear HB; have BK473 := n0_; have HB := n1_; clear n0_ n1_; (try clear hb); (try clear hb2); (try clear hk); (try clear hi)))
      go_meet
      case rel => exact ⟨_, (true), (by first | rfl | (simp; done) | (simp [*]; done) | (generalize ByteArray.toList _ = l_; cases l_ <;> rfl)), H', ⟨by first | omega | exact Nat.le_refl _⟩, ⟨by (with_reducible repeat (first | refine blk_drewN ?_ _ | refine blk_drew ?_ | refine blk_alloc ?_ _)); exact BK473.out⟩, ⟨by repeat (first | (with_reducible first | exact HB.out | apply below_alloc | apply pw_below_drewN | apply below_drew1 | refine below_set ?_ GE473.out) | exact HB.out)⟩⟩
     ·rw [if_neg c35] at H
      have c35b0 : (a1 == 18) = false := beq_eq_false_iff_ne.mpr c35
      have c35b1 : (a1 != 18) = true := bne_iff_ne.mpr c35
      by_cases c41 : a1 = 9
      ·rw [if_pos c41] at H
       have c41b0 : (a1 == 9) = true := beq_iff_eq.mpr c41
       have c41b1 : (a1 != 9) = false := bne_eq_false_iff_eq.mpr c41
       clear c41
       have H' := Zk H
       clear H
       have hcz42_0 : w5.cell? ⟨gb473, 0, none⟩ = some (.slice A0_0 l0_0.length c0_0) := (blk_cell BK473.out 0).trans rfl
       have hcz42_1 : w5.cell? ⟨gb473, 1, none⟩ = some (.slice A0_1 l0_1.length c0_1) := (blk_cell BK473.out 1).trans rfl
       have hcz42_2 : w5.cell? ⟨gb473, 2, none⟩ = some (.slice A0_2 l0_2.length c0_2) := (blk_cell BK473.out 2).trans rfl
       have hfz42_0 := blk_frozen BK473.out 0
       have hfz42_1 := blk_frozen BK473.out 1
       have hfz42_2 := blk_frozen BK473.out 2
       go_wp2_with (first | ((with_reducible refine gate_callee (f := 17) rfl ?_); refine goesL_ (some 13) rfl rfl Tryd.func17 (by kernel_rfl) rfl #[.agg #[.slice A0_0 l0_0.length c0_0, .slice A0_1 l0_1.length c0_1, .slice A0_2 l0_2.length c0_2]] rfl (by (try simp only [List.map_toArray, List.map_cons, List.map_nil]); first | done | rfl | (simp only [List.length_drop, List.length_take]; rfl)) ?_; (with_reducible refine (jobshelllaw25_short.calls _ _ l0_0 _ _ l0_1 _ _ l0_2 true _ ?side1 ?side2 ?side3 ?side4 ?side5 ?side6 A6.out).mono ?_); (case side1 => repeat (first | exact (C_below HR0_0.out HB.out) | (with_reducible refine C_alloc ?_ _) | (with_reducible refine C_drewN ?_ _) | (with_reducible refine C_drew ?_))); (case side2 => exact HC0_0.out); (case side3 => repeat (first | exact (C_below HR0_1.out HB.out) | (with_reducible refine C_alloc ?_ _) | (with_reducible refine C_drewN ?_ _) | (with_reducible refine C_drew ?_))); (case side4 => exact HC0_1.out); (case side5 => repeat (first | exact (C_below HR0_2.out HB.out) | (with_reducible refine C_alloc ?_ _) | (with_reducible refine C_drewN ?_ _) | (with_reducible refine C_drew ?_))); (case side6 => exact HC0_2.out); rintro e w43 ⟨rfl, hb⟩; refine ⟨_, rfl, ?_⟩; have n0_ := Zk (blk_below (g := gb473) (o := .cells #[.slice A0_0 l0_0.length c0_0, .slice A0_1 l0_1.length c0_1, .slice A0_2 l0_2.length c0_2] 30 (0, 0)) (by (with_reducible repeat (first | refine blk_drewN ?_ _ | refine blk_drew ?_ | refine blk_alloc ?_ _)); exact BK473.out) hb); have n1_ := Zk (below_step (by repeat (first | (with_reducible first | exact HB.out | apply below_alloc | apply pw_below_drewN | apply below_drew1 | refine below_set ?_ GE473.out) | exact HB.out)) hb); clear BK473; clear HB; have BK473 := n0_; have HB := n1_; clear n0_ n1_; (try clear hb); (try clear hb2); (try clear hk); (try clear hi); have hcz44_0 : w43.cell? ⟨gb473, 0, none⟩ = some (.slice A0_0 l0_0.length c0_0) := (blk_cell BK473.out 0).trans rfl; have hcz44_1 : w43.cell? ⟨gb473, 1, none⟩ = some (.slice A0_1 l0_1.length c0_1) := (blk_cell BK473.out 1).trans rfl; have hcz44_2 : w43.cell? ⟨gb473, 2, none⟩ = some (.slice A0_2 l0_2.length c0_2) := (blk_cell BK473.out 2).trans rfl; have hfz44_0 := blk_frozen BK473.out 0; have hfz44_1 := blk_frozen BK473.out 1; have hfz44_2 := blk_frozen BK473.out 2) | (go_at_call 18; (with_reducible refine (jobshellref25_Valid.calls k _ _ l0_0 _ _ l0_1 _ _ l0_2 t475 _ ?side1 ?side2 ?side3 ?side4 ?side5 ?side6 A8.out).mono ?_); (case side1 => repeat (first | exact (C_below HR0_0.out HB.out) | (with_reducible refine C_alloc ?_ _) | (with_reducible refine C_drewN ?_ _) | (with_reducible refine C_drew ?_))); (case side2 => exact HC0_0.out); (case side3 => repeat (first | exact (C_below HR0_1.out HB.out) | (with_reducible refine C_alloc ?_ _) | (with_reducible refine C_drewN ?_ _) | (with_reducible refine C_drew ?_))); (case side4 => exact HC0_1.out); (case side5 => repeat (first | exact (C_below HR0_2.out HB.out) | (with_reducible refine C_alloc ?_ _) | (with_reducible refine C_drewN ?_ _) | (with_reducible refine C_drew ?_))); (case side6 => exact HC0_2.out); rintro e w45 ⟨rfl, hb⟩; have n0_ := Zk (blk_below (g := gb473) (o := .cells #[.slice A0_0 l0_0.length c0_0, .slice A0_1 l0_1.length c0_1, .slice A0_2 l0_2.length c0_2] 30 (0, 0)) (by (with_reducible repeat (first | refine blk_drewN ?_ _ | refine blk_drew ?_ | refine blk_alloc ?_ _)); exact BK473.out) hb); have n1_ := Zk (below_step (by repeat (first | (with_reducible first | exact HB.out | apply below_alloc | apply pw_below_drewN | apply below_drew1 | refine below_set ?_ GE473.out) | exact HB.out)) hb); clear BK473; clear HB; have BK473 := n0_; have HB := n1_; clear n0_ n1_; (try clear hb); (try clear hb2); (try clear hk); (try clear hi)) | (go_at_call 15; (with_reducible refine (signal_Default.calls a1 t476 _ A10.out).mono ?_); rintro e w46 ⟨rfl, hb⟩; have n0_ := Zk (blk_below (g := gb473) (o := .cells #[.slice A0_0 l0_0.length c0_0, .slice A0_1 l0_1.length c0_1, .slice A0_2 l0_2.length c0_2] 30 (0, 0)) (by (with_reducible repeat (first | refine blk_drewN ?_ _ | refine blk_drew ?_ | refine blk_alloc ?_ _)); exact BK473.out) hb); have n1_ := Zk (below_step (by repeat (first | (with_reducible first | exact HB.out | apply below_alloc | apply pw_below_drewN | apply below_drew1 | refine below_set ?_ GE473.out) | exact HB.out)) hb); clear BK473; clear HB; have BK473 := n0_; have HB := n1_; clear n0_ n1_; (try clear hb); (try clear hb2); (try clear hk); (try clear hi)))
       go_meet
       case rel => exact ⟨_, (true), (by first | rfl | (simp; done) | (simp [*]; done) | (generalize ByteArray.toList _ = l_; cases l_ <;> rfl)), H', ⟨by first | omega | exact Nat.le_refl _⟩, ⟨by (with_reducible repeat (first | refine blk_drewN ?_ _ | refine blk_drew ?_ | refine blk_alloc ?_ _)); exact BK473.out⟩, ⟨by repeat (first | (with_reducible first | exact HB.out | apply below_alloc | apply pw_below_drewN | apply below_drew1 | refine below_set ?_ GE473.out) | exact HB.out)⟩⟩
      ·rw [if_neg c41] at H
       have c41b0 : (a1 == 9) = false := beq_eq_false_iff_ne.mpr c41
       have c41b1 : (a1 != 9) = true := bne_iff_ne.mpr c41
       have H' := Zk H
       clear H
       have hcz47_0 : w5.cell? ⟨gb473, 0, none⟩ = some (.slice A0_0 l0_0.length c0_0) := (blk_cell BK473.out 0).trans rfl
       have hcz47_1 : w5.cell? ⟨gb473, 1, none⟩ = some (.slice A0_1 l0_1.length c0_1) := (blk_cell BK473.out 1).trans rfl
       have hcz47_2 : w5.cell? ⟨gb473, 2, none⟩ = some (.slice A0_2 l0_2.length c0_2) := (blk_cell BK473.out 2).trans rfl
       have hfz47_0 := blk_frozen BK473.out 0
       have hfz47_1 := blk_frozen BK473.out 1
       have hfz47_2 := blk_frozen BK473.out 2
       go_wp2_with (first | ((with_reducible refine gate_callee (f := 17) rfl ?_); refine goesL_ (some 13) rfl rfl Tryd.func17 (by kernel_rfl) rfl #[.agg #[.slice A0_0 l0_0.length c0_0, .slice A0_1 l0_1.length c0_1, .slice A0_2 l0_2.length c0_2]] rfl (by (try simp only [List.map_toArray, List.map_cons, List.map_nil]); first | done | rfl | (simp only [List.length_drop, List.length_take]; rfl)) ?_; (with_reducible refine (jobshelllaw25_short.calls _ _ l0_0 _ _ l0_1 _ _ l0_2 true _ ?side1 ?side2 ?side3 ?side4 ?side5 ?side6 A6.out).mono ?_); (case side1 => repeat (first | exact (C_below HR0_0.out HB.out) | (with_reducible refine C_alloc ?_ _) | (with_reducible refine C_drewN ?_ _) | (with_reducible refine C_drew ?_))); (case side2 => exact HC0_0.out); (case side3 => repeat (first | exact (C_below HR0_1.out HB.out) | (with_reducible refine C_alloc ?_ _) | (with_reducible refine C_drewN ?_ _) | (with_reducible refine C_drew ?_))); (case side4 => exact HC0_1.out); (case side5 => repeat (first | exact (C_below HR0_2.out HB.out) | (with_reducible refine C_alloc ?_ _) | (with_reducible refine C_drewN ?_ _) | (with_reducible refine C_drew ?_))); (case side6 => exact HC0_2.out); rintro e w48 ⟨rfl, hb⟩; refine ⟨_, rfl, ?_⟩; have n0_ := Zk (blk_below (g := gb473) (o := .cells #[.slice A0_0 l0_0.length c0_0, .slice A0_1 l0_1.length c0_1, .slice A0_2 l0_2.length c0_2] 30 (0, 0)) (by (with_reducible repeat (first | refine blk_drewN ?_ _ | refine blk_drew ?_ | refine blk_alloc ?_ _)); exact BK473.out) hb); have n1_ := Zk (below_step (by repeat (first | (with_reducible first | exact HB.out | apply below_alloc | apply pw_below_drewN | apply below_drew1 | refine below_set ?_ GE473.out) | exact HB.out)) hb); clear BK473; clear HB; have BK473 := n0_; have HB := n1_; clear n0_ n1_; (try clear hb); (try clear hb2); (try clear hk); (try clear hi); have hcz49_0 : w48.cell? ⟨gb473, 0, none⟩ = some (.slice A0_0 l0_0.length c0_0) := (blk_cell BK473.out 0).trans rfl; have hcz49_1 : w48.cell? ⟨gb473, 1, none⟩ = some (.slice A0_1 l0_1.length c0_1) := (blk_cell BK473.out 1).trans rfl; have hcz49_2 : w48.cell? ⟨gb473, 2, none⟩ = some (.slice A0_2 l0_2.length c0_2) := (blk_cell BK473.out 2).trans rfl; have hfz49_0 := blk_frozen BK473.out 0; have hfz49_1 := blk_frozen BK473.out 1; have hfz49_2 := blk_frozen BK473.out 2) | (go_at_call 18; (with_reducible refine (jobshellref25_Valid.calls k _ _ l0_0 _ _ l0_1 _ _ l0_2 t475 _ ?side1 ?side2 ?side3 ?side4 ?side5 ?side6 A8.out).mono ?_); (case side1 => repeat (first | exact (C_below HR0_0.out HB.out) | (with_reducible refine C_alloc ?_ _) | (with_reducible refine C_drewN ?_ _) | (with_reducible refine C_drew ?_))); (case side2 => exact HC0_0.out); (case side3 => repeat (first | exact (C_below HR0_1.out HB.out) | (with_reducible refine C_alloc ?_ _) | (with_reducible refine C_drewN ?_ _) | (with_reducible refine C_drew ?_))); (case side4 => exact HC0_1.out); (case side5 => repeat (first | exact (C_below HR0_2.out HB.out) | (with_reducible refine C_alloc ?_ _) | (with_reducible refine C_drewN ?_ _) | (with_reducible refine C_drew ?_))); (case side6 => exact HC0_2.out); rintro e w50 ⟨rfl, hb⟩; have n0_ := Zk (blk_below (g := gb473) (o := .cells #[.slice A0_0 l0_0.length c0_0, .slice A0_1 l0_1.length c0_1, .slice A0_2 l0_2.length c0_2] 30 (0, 0)) (by (with_reducible repeat (first | refine blk_drewN ?_ _ | refine blk_drew ?_ | refine blk_alloc ?_ _)); exact BK473.out) hb); have n1_ := Zk (below_step (by repeat (first | (with_reducible first | exact HB.out | apply below_alloc | apply pw_below_drewN | apply below_drew1 | refine below_set ?_ GE473.out) | exact HB.out)) hb); clear BK473; clear HB; have BK473 := n0_; have HB := n1_; clear n0_ n1_; (try clear hb); (try clear hb2); (try clear hk); (try clear hi)) | (go_at_call 15; (with_reducible refine (signal_Default.calls a1 t476 _ A10.out).mono ?_); rintro e w51 ⟨rfl, hb⟩; have n0_ := Zk (blk_below (g := gb473) (o := .cells #[.slice A0_0 l0_0.length c0_0, .slice A0_1 l0_1.length c0_1, .slice A0_2 l0_2.length c0_2] 30 (0, 0)) (by (with_reducible repeat (first | refine blk_drewN ?_ _ | refine blk_drew ?_ | refine blk_alloc ?_ _)); exact BK473.out) hb); have n1_ := Zk (below_step (by repeat (first | (with_reducible first | exact HB.out | apply below_alloc | apply pw_below_drewN | apply below_drew1 | refine below_set ?_ GE473.out) | exact HB.out)) hb); clear BK473; clear HB; have BK473 := n0_; have HB := n1_; clear n0_ n1_; (try clear hb); (try clear hb2); (try clear hk); (try clear hi)))
       go_meet
       case rel => exact ⟨_, ((a1 == 19)), (by first | rfl | (simp; done) | (simp [*]; done) | (generalize ByteArray.toList _ = l_; cases l_ <;> rfl)), H', ⟨by first | omega | exact Nat.le_refl _⟩, ⟨by (with_reducible repeat (first | refine blk_drewN ?_ _ | refine blk_drew ?_ | refine blk_alloc ?_ _)); exact BK473.out⟩, ⟨by repeat (first | (with_reducible first | exact HB.out | apply below_alloc | apply pw_below_drewN | apply below_drew1 | refine below_set ?_ GE473.out) | exact HB.out)⟩⟩
   ·rw [if_neg c9] at H
    have c9b0 : (t475 == 0) = false := beq_eq_false_iff_ne.mpr c9
    have c9b1 : (t475 != 0) = true := bne_iff_ne.mpr c9
    (first | rw [c9b0] | (simp only [i64_w, i32_w]; rw [c9b0]) | skip)
    have H' := Zk H
    clear H
    have hcz52_0 : w5.cell? ⟨gb473, 0, none⟩ = some (.slice A0_0 l0_0.length c0_0) := (blk_cell BK473.out 0).trans rfl
    have hcz52_1 : w5.cell? ⟨gb473, 1, none⟩ = some (.slice A0_1 l0_1.length c0_1) := (blk_cell BK473.out 1).trans rfl
    have hcz52_2 : w5.cell? ⟨gb473, 2, none⟩ = some (.slice A0_2 l0_2.length c0_2) := (blk_cell BK473.out 2).trans rfl
    have hfz52_0 := blk_frozen BK473.out 0
    have hfz52_1 := blk_frozen BK473.out 1
    have hfz52_2 := blk_frozen BK473.out 2
    go_wp2_with (first | ((with_reducible refine gate_callee (f := 17) rfl ?_); refine goesL_ (some 13) rfl rfl Tryd.func17 (by kernel_rfl) rfl #[.agg #[.slice A0_0 l0_0.length c0_0, .slice A0_1 l0_1.length c0_1, .slice A0_2 l0_2.length c0_2]] rfl (by (try simp only [List.map_toArray, List.map_cons, List.map_nil]); first | done | rfl | (simp only [List.length_drop, List.length_take]; rfl)) ?_; (with_reducible refine (jobshelllaw25_short.calls _ _ l0_0 _ _ l0_1 _ _ l0_2 true _ ?side1 ?side2 ?side3 ?side4 ?side5 ?side6 A6.out).mono ?_); (case side1 => repeat (first | exact (C_below HR0_0.out HB.out) | (with_reducible refine C_alloc ?_ _) | (with_reducible refine C_drewN ?_ _) | (with_reducible refine C_drew ?_))); (case side2 => exact HC0_0.out); (case side3 => repeat (first | exact (C_below HR0_1.out HB.out) | (with_reducible refine C_alloc ?_ _) | (with_reducible refine C_drewN ?_ _) | (with_reducible refine C_drew ?_))); (case side4 => exact HC0_1.out); (case side5 => repeat (first | exact (C_below HR0_2.out HB.out) | (with_reducible refine C_alloc ?_ _) | (with_reducible refine C_drewN ?_ _) | (with_reducible refine C_drew ?_))); (case side6 => exact HC0_2.out); rintro e w53 ⟨rfl, hb⟩; refine ⟨_, rfl, ?_⟩; have n0_ := Zk (blk_below (g := gb473) (o := .cells #[.slice A0_0 l0_0.length c0_0, .slice A0_1 l0_1.length c0_1, .slice A0_2 l0_2.length c0_2] 30 (0, 0)) (by (with_reducible repeat (first | refine blk_drewN ?_ _ | refine blk_drew ?_ | refine blk_alloc ?_ _)); exact BK473.out) hb); have n1_ := Zk (below_step (by repeat (first | (with_reducible first | exact HB.out | apply below_alloc | apply pw_below_drewN | apply below_drew1 | refine below_set ?_ GE473.out) | exact HB.out)) hb); clear BK473; clear HB; have BK473 := n0_; have HB := n1_; clear n0_ n1_; (try clear hb); (try clear hb2); (try clear hk); (try clear hi); have hcz54_0 : w53.cell? ⟨gb473, 0, none⟩ = some (.slice A0_0 l0_0.length c0_0) := (blk_cell BK473.out 0).trans rfl; have hcz54_1 : w53.cell? ⟨gb473, 1, none⟩ = some (.slice A0_1 l0_1.length c0_1) := (blk_cell BK473.out 1).trans rfl; have hcz54_2 : w53.cell? ⟨gb473, 2, none⟩ = some (.slice A0_2 l0_2.length c0_2) := (blk_cell BK473.out 2).trans rfl; have hfz54_0 := blk_frozen BK473.out 0; have hfz54_1 := blk_frozen BK473.out 1; have hfz54_2 := blk_frozen BK473.out 2) | (go_at_call 18; (with_reducible refine (jobshellref25_Valid.calls k _ _ l0_0 _ _ l0_1 _ _ l0_2 t475 _ ?side1 ?side2 ?side3 ?side4 ?side5 ?side6 A8.out).mono ?_); (case side1 => repeat (first | exact (C_below HR0_0.out HB.out) | (with_reducible refine C_alloc ?_ _) | (with_reducible refine C_drewN ?_ _) | (with_reducible refine C_drew ?_))); (case side2 => exact HC0_0.out); (case side3 => repeat (first | exact (C_below HR0_1.out HB.out) | (with_reducible refine C_alloc ?_ _) | (with_reducible refine C_drewN ?_ _) | (with_reducible refine C_drew ?_))); (case side4 => exact HC0_1.out); (case side5 => repeat (first | exact (C_below HR0_2.out HB.out) | (with_reducible refine C_alloc ?_ _) | (with_reducible refine C_drewN ?_ _) | (with_reducible refine C_drew ?_))); (case side6 => exact HC0_2.out); rintro e w55 ⟨rfl, hb⟩; have n0_ := Zk (blk_below (g := gb473) (o := .cells #[.slice A0_0 l0_0.length c0_0, .slice A0_1 l0_1.length c0_1, .slice A0_2 l0_2.length c0_2] 30 (0, 0)) (by (with_reducible repeat (first | refine blk_drewN ?_ _ | refine blk_drew ?_ | refine blk_alloc ?_ _)); exact BK473.out) hb); have n1_ := Zk (below_step (by repeat (first | (with_reducible first | exact HB.out | apply below_alloc | apply pw_below_drewN | apply below_drew1 | refine below_set ?_ GE473.out) | exact HB.out)) hb); clear BK473; clear HB; have BK473 := n0_; have HB := n1_; clear n0_ n1_; (try clear hb); (try clear hb2); (try clear hk); (try clear hi)))
    go_meet
    case rel => exact ⟨_, (true), (by first | rfl | (simp; done) | (simp [*]; done) | (generalize ByteArray.toList _ = l_; cases l_ <;> rfl)), H', ⟨by first | omega | exact Nat.le_refl _⟩, ⟨by (with_reducible repeat (first | refine blk_drewN ?_ _ | refine blk_drew ?_ | refine blk_alloc ?_ _)); exact BK473.out⟩, ⟨by repeat (first | (with_reducible first | exact HB.out | apply below_alloc | apply pw_below_drewN | apply below_drew1 | refine below_set ?_ GE473.out) | exact HB.out)⟩⟩
  ·replace c7 := Bool.eq_false_iff.mpr c7
   subst c7
   have H1 : (jobshelllaw25_SignalIgnored.j0 k a1 a2 true l0_0 l0_1 l0_2) = some r := by rw [if_neg (show ¬ (false = true) by decide)] at H; exact H
   clear H
   have H := H1
   clear H1
   have H' := Zk H
   clear H
   have hcz56_0 : w5.cell? ⟨gb473, 0, none⟩ = some (.slice A0_0 l0_0.length c0_0) := (blk_cell BK473.out 0).trans rfl
   have hcz56_1 : w5.cell? ⟨gb473, 1, none⟩ = some (.slice A0_1 l0_1.length c0_1) := (blk_cell BK473.out 1).trans rfl
   have hcz56_2 : w5.cell? ⟨gb473, 2, none⟩ = some (.slice A0_2 l0_2.length c0_2) := (blk_cell BK473.out 2).trans rfl
   have hfz56_0 := blk_frozen BK473.out 0
   have hfz56_1 := blk_frozen BK473.out 1
   have hfz56_2 := blk_frozen BK473.out 2
   go_wp2_with (first | ((with_reducible refine gate_callee (f := 17) rfl ?_); refine goesL_ (some 13) rfl rfl Tryd.func17 (by kernel_rfl) rfl #[.agg #[.slice A0_0 l0_0.length c0_0, .slice A0_1 l0_1.length c0_1, .slice A0_2 l0_2.length c0_2]] rfl (by (try simp only [List.map_toArray, List.map_cons, List.map_nil]); first | done | rfl | (simp only [List.length_drop, List.length_take]; rfl)) ?_; (with_reducible refine (jobshelllaw25_short.calls _ _ l0_0 _ _ l0_1 _ _ l0_2 false _ ?side1 ?side2 ?side3 ?side4 ?side5 ?side6 A6.out).mono ?_); (case side1 => repeat (first | exact (C_below HR0_0.out HB.out) | (with_reducible refine C_alloc ?_ _) | (with_reducible refine C_drewN ?_ _) | (with_reducible refine C_drew ?_))); (case side2 => exact HC0_0.out); (case side3 => repeat (first | exact (C_below HR0_1.out HB.out) | (with_reducible refine C_alloc ?_ _) | (with_reducible refine C_drewN ?_ _) | (with_reducible refine C_drew ?_))); (case side4 => exact HC0_1.out); (case side5 => repeat (first | exact (C_below HR0_2.out HB.out) | (with_reducible refine C_alloc ?_ _) | (with_reducible refine C_drewN ?_ _) | (with_reducible refine C_drew ?_))); (case side6 => exact HC0_2.out); rintro e w57 ⟨rfl, hb⟩; refine ⟨_, rfl, ?_⟩; have n0_ := Zk (blk_below (g := gb473) (o := .cells #[.slice A0_0 l0_0.length c0_0, .slice A0_1 l0_1.length c0_1, .slice A0_2 l0_2.length c0_2] 30 (0, 0)) (by (with_reducible repeat (first | refine blk_drewN ?_ _ | refine blk_drew ?_ | refine blk_alloc ?_ _)); exact BK473.out) hb); have n1_ := Zk (below_step (by repeat (first | (with_reducible first | exact HB.out | apply below_alloc | apply pw_below_drewN | apply below_drew1 | refine below_set ?_ GE473.out) | exact HB.out)) hb); clear BK473; clear HB; have BK473 := n0_; have HB := n1_; clear n0_ n1_; (try clear hb); (try clear hb2); (try clear hk); (try clear hi)))
   go_meet
   case rel => exact ⟨_, (true), (by first | rfl | (simp; done) | (simp [*]; done) | (generalize ByteArray.toList _ = l_; cases l_ <;> rfl)), H', ⟨by first | omega | exact Nat.le_refl _⟩, ⟨by (with_reducible repeat (first | refine blk_drewN ?_ _ | refine blk_drew ?_ | refine blk_alloc ?_ _)); exact BK473.out⟩, ⟨by repeat (first | (with_reducible first | exact HB.out | apply below_alloc | apply pw_below_drewN | apply below_drew1 | refine below_set ?_ GE473.out) | exact HB.out)⟩⟩
 case rest =>
  clear HC4
  try clear c1
  try clear p2
  try clear c3
  try clear c4
  try clear c6
  try clear c7
  try clear c9
  try clear c9b0
  try clear c9b1
  try clear c11
  try clear c11b0
  try clear c11b1
  try clear c12
  try clear c12b0
  try clear c12b1
  try clear c13
  try clear c13b0
  try clear c13b1
  try clear c17
  try clear c19
  try clear c19b0
  try clear c19b1
  try clear c35
  try clear c35b0
  try clear c35b1
  try clear c41
  try clear c41b0
  try clear c41b1
  try clear hcz14_0
  try clear hcz14_1
  try clear hcz14_2
  try clear hcz16_0
  try clear hcz16_1
  try clear hcz16_2
  try clear hcz20_0
  try clear hcz20_1
  try clear hcz20_2
  try clear hcz22_0
  try clear hcz22_1
  try clear hcz22_2
  try clear hcz25_0
  try clear hcz25_1
  try clear hcz25_2
  try clear hcz27_0
  try clear hcz27_1
  try clear hcz27_2
  try clear hcz30_0
  try clear hcz30_1
  try clear hcz30_2
  try clear hcz32_0
  try clear hcz32_1
  try clear hcz32_2
  try clear hcz36_0
  try clear hcz36_1
  try clear hcz36_2
  try clear hcz38_0
  try clear hcz38_1
  try clear hcz38_2
  try clear hcz42_0
  try clear hcz42_1
  try clear hcz42_2
  try clear hcz44_0
  try clear hcz44_1
  try clear hcz44_2
  try clear hcz47_0
  try clear hcz47_1
  try clear hcz47_2
  try clear hcz49_0
  try clear hcz49_1
  try clear hcz49_2
  try clear hcz52_0
  try clear hcz52_1
  try clear hcz52_2
  try clear hcz54_0
  try clear hcz54_1
  try clear hcz54_2
  try clear hcz56_0
  try clear hcz56_1
  try clear hcz56_2
  try clear hfz14_0
  try clear hfz14_1
  try clear hfz14_2
  try clear hfz16_0
  try clear hfz16_1
  try clear hfz16_2
  try clear hfz20_0
  try clear hfz20_1
  try clear hfz20_2
  try clear hfz22_0
  try clear hfz22_1
  try clear hfz22_2
  try clear hfz25_0
  try clear hfz25_1
  try clear hfz25_2
  try clear hfz27_0
  try clear hfz27_1
  try clear hfz27_2
  try clear hfz30_0
  try clear hfz30_1
  try clear hfz30_2
  try clear hfz32_0
  try clear hfz32_1
  try clear hfz32_2
  try clear hfz36_0
  try clear hfz36_1
  try clear hfz36_2
  try clear hfz38_0
  try clear hfz38_1
  try clear hfz38_2
  try clear hfz42_0
  try clear hfz42_1
  try clear hfz42_2
  try clear hfz44_0
  try clear hfz44_1
  try clear hfz44_2
  try clear hfz47_0
  try clear hfz47_1
  try clear hfz47_2
  try clear hfz49_0
  try clear hfz49_1
  try clear hfz49_2
  try clear hfz52_0
  try clear hfz52_1
  try clear hfz52_2
  try clear hfz54_0
  try clear hfz54_1
  try clear hfz54_2
  try clear hfz56_0
  try clear hfz56_1
  try clear hfz56_2
  obtain ⟨kq, x40_3, rfl, HA, HJ3, BK473, HB⟩ := hcut
  cases kq with
  | zero => exact absurd HA.out (by simp [jobshelllaw25_SignalIgnored.j0])
  | succ kj3 =>
   have H := HA.out
   clear HA
   simp only [jobshelllaw25_SignalIgnored.j0] at H
   by_cases c58 : x40_3 = true
   ·subst c58
    have H1 : ((jobshelllaw25_awake.f kj3).bind fun t477 => (some t477)) = some r := by rw [if_pos rfl] at H; exact H
    clear H
    have H := H1
    clear H1
    replace H := Option.bind_eq_some_iff.mp H
    obtain ⟨t477, A590, H⟩ := H
    replace H : (some t477) = some r := H
    have A59 := Zk A590
    clear A590
    obtain rfl := Option.some.inj H
    go_wp2_with (first | ((with_reducible refine gate_callee (f := 10) rfl ?_); refine goesL_ (some 41) rfl rfl Tryd.func10 (by kernel_rfl) rfl #[] rfl (by (try simp only [List.map_toArray, List.map_cons, List.map_nil]); first | done | rfl | (simp only [List.length_drop, List.length_take]; rfl)) ?_; (with_reducible refine (jobshelllaw25_awake.calls kj3  t477 _ A59.out).mono ?_); rintro e w60 ⟨rfl, hb⟩; refine ⟨_, rfl, ?_⟩; have n0_ := Zk (blk_below (g := gb473) (o := .cells #[.slice A0_0 l0_0.length c0_0, .slice A0_1 l0_1.length c0_1, .slice A0_2 l0_2.length c0_2] 30 (0, 0)) (by (with_reducible repeat (first | refine blk_drewN ?_ _ | refine blk_drew ?_ | refine blk_alloc ?_ _)); exact BK473.out) hb); have n1_ := Zk (below_step (by repeat (first | (with_reducible first | exact HB.out | apply below_alloc | apply pw_below_drewN | apply below_drew1 | refine below_set ?_ GE473.out) | exact HB.out)) hb); clear BK473; clear HB; have BK473 := n0_; have HB := n1_; clear n0_ n1_; (try clear hb); (try clear hb2); (try clear hk); (try clear hi)))
    go_ret
    exact ⟨by first | rfl | (simp [errW_none, errW_some] <;> rfl) | (simp [*, errW_none, errW_some] <;> rfl), by repeat (first | (with_reducible first | exact HB.out | apply below_alloc | apply pw_below_drewN | apply below_drew1 | refine below_set ?_ GE473.out) | exact HB.out)⟩
   ·replace c58 := Bool.eq_false_iff.mpr c58
    subst c58
    have H1 : ((signal_Set.f kj3 l0_0 l0_1 l0_2 a1 1).bind fun bt478 => ((signal_Send.f kj3 bt478.1 bt478.2.1 bt478.2.2.1 a1).bind fun bt489 => ((signal_Set.f kj3 bt489.1 bt489.2.1 bt489.2.2 a1 a2).bind fun bt499 => (if bt478.2.2.2 = 0 then ((jobshellref25_Has.f kj3 bt489.1 a1).bind fun t510 => (if t510 = true then (jobshelllaw25_SignalIgnored.j1 kj3 a1 a2 true bt499.1 bt499.2.1 bt499.2.2.1) else ((jobshellref25_Has.f kj3 bt499.1 a1).bind fun t511 => (if t511 = true then (jobshelllaw25_SignalIgnored.j1 kj3 a1 a2 true bt499.1 bt499.2.1 bt499.2.2.1) else (if a2 ≥ 0 then (jobshelllaw25_SignalIgnored.j1 kj3 a1 a2 ((bt499.2.2.2 == 0) != (decide (a2 ≤ 2))) bt499.1 bt499.2.1 bt499.2.2.1) else (jobshelllaw25_SignalIgnored.j1 kj3 a1 a2 ((bt499.2.2.2 == 0) != false) bt499.1 bt499.2.1 bt499.2.2.1)))))) else (jobshelllaw25_SignalIgnored.j1 kj3 a1 a2 true bt499.1 bt499.2.1 bt499.2.2.1))))) = some r := by rw [if_neg (show ¬ (false = true) by decide)] at H; exact H
    clear H
    have H := H1
    clear H1
    replace H := Option.bind_eq_some_iff.mp H
    obtain ⟨⟨t478, t481, t484, t487⟩, A610, H⟩ := H
    replace H : ((signal_Send.f kj3 t478 t481 t484 a1).bind fun bt489 => ((signal_Set.f kj3 bt489.1 bt489.2.1 bt489.2.2 a1 a2).bind fun bt499 => (if t487 = 0 then ((jobshellref25_Has.f kj3 bt489.1 a1).bind fun t510 => (if t510 = true then (jobshelllaw25_SignalIgnored.j1 kj3 a1 a2 true bt499.1 bt499.2.1 bt499.2.2.1) else ((jobshellref25_Has.f kj3 bt499.1 a1).bind fun t511 => (if t511 = true then (jobshelllaw25_SignalIgnored.j1 kj3 a1 a2 true bt499.1 bt499.2.1 bt499.2.2.1) else (if a2 ≥ 0 then (jobshelllaw25_SignalIgnored.j1 kj3 a1 a2 ((bt499.2.2.2 == 0) != (decide (a2 ≤ 2))) bt499.1 bt499.2.1 bt499.2.2.1) else (jobshelllaw25_SignalIgnored.j1 kj3 a1 a2 ((bt499.2.2.2 == 0) != false) bt499.1 bt499.2.1 bt499.2.2.1)))))) else (jobshelllaw25_SignalIgnored.j1 kj3 a1 a2 true bt499.1 bt499.2.1 bt499.2.2.1)))) = some r := H
    have A61 := Zk A610
    clear A610
    replace H := Option.bind_eq_some_iff.mp H
    obtain ⟨⟨t489, t492, t495⟩, A620, H⟩ := H
    replace H : ((signal_Set.f kj3 t489 t492 t495 a1 a2).bind fun bt499 => (if t487 = 0 then ((jobshellref25_Has.f kj3 t489 a1).bind fun t510 => (if t510 = true then (jobshelllaw25_SignalIgnored.j1 kj3 a1 a2 true bt499.1 bt499.2.1 bt499.2.2.1) else ((jobshellref25_Has.f kj3 bt499.1 a1).bind fun t511 => (if t511 = true then (jobshelllaw25_SignalIgnored.j1 kj3 a1 a2 true bt499.1 bt499.2.1 bt499.2.2.1) else (if a2 ≥ 0 then (jobshelllaw25_SignalIgnored.j1 kj3 a1 a2 ((bt499.2.2.2 == 0) != (decide (a2 ≤ 2))) bt499.1 bt499.2.1 bt499.2.2.1) else (jobshelllaw25_SignalIgnored.j1 kj3 a1 a2 ((bt499.2.2.2 == 0) != false) bt499.1 bt499.2.1 bt499.2.2.1)))))) else (jobshelllaw25_SignalIgnored.j1 kj3 a1 a2 true bt499.1 bt499.2.1 bt499.2.2.1))) = some r := H
    have A62 := Zk A620
    clear A620
    replace H := Option.bind_eq_some_iff.mp H
    obtain ⟨⟨t499, t502, t505, t508⟩, A630, H⟩ := H
    replace H : (if t487 = 0 then ((jobshellref25_Has.f kj3 t489 a1).bind fun t510 => (if t510 = true then (jobshelllaw25_SignalIgnored.j1 kj3 a1 a2 true t499 t502 t505) else ((jobshellref25_Has.f kj3 t499 a1).bind fun t511 => (if t511 = true then (jobshelllaw25_SignalIgnored.j1 kj3 a1 a2 true t499 t502 t505) else (if a2 ≥ 0 then (jobshelllaw25_SignalIgnored.j1 kj3 a1 a2 ((t508 == 0) != (decide (a2 ≤ 2))) t499 t502 t505) else (jobshelllaw25_SignalIgnored.j1 kj3 a1 a2 ((t508 == 0) != false) t499 t502 t505)))))) else (jobshelllaw25_SignalIgnored.j1 kj3 a1 a2 true t499 t502 t505)) = some r := H
    have A63 := Zk A630
    clear A630
    have HC64 := Zk H
    clear H
    have hcz65_0 : wc.cell? ⟨gb473, 0, none⟩ = some (.slice A0_0 l0_0.length c0_0) := (blk_cell BK473.out 0).trans rfl
    have hcz65_1 : wc.cell? ⟨gb473, 1, none⟩ = some (.slice A0_1 l0_1.length c0_1) := (blk_cell BK473.out 1).trans rfl
    have hcz65_2 : wc.cell? ⟨gb473, 2, none⟩ = some (.slice A0_2 l0_2.length c0_2) := (blk_cell BK473.out 2).trans rfl
    have hfz65_0 := blk_frozen BK473.out 0
    have hfz65_1 := blk_frozen BK473.out 1
    have hfz65_2 := blk_frozen BK473.out 2
    go_upto_region 6 with (first | ((with_reducible refine gate_callee (f := 25) rfl ?_); refine goesL_ (some 45) rfl rfl Tryd.func25 (by kernel_rfl) rfl #[.agg #[.slice A0_0 l0_0.length c0_0, .slice A0_1 l0_1.length c0_1, .slice A0_2 l0_2.length c0_2], .int .i64 a1, .int .i64 1] rfl (by (try simp only [List.map_toArray, List.map_cons, List.map_nil]); first | done | rfl | (simp only [List.length_drop, List.length_take]; rfl)) ?_; (with_reducible refine (signal_Set.calls kj3 (fun k_ => k_ < w.heap.size) _ _ l0_0 (fun k_ => k_ < w.heap.size) _ _ l0_1 (fun k_ => k_ < w.heap.size) _ _ l0_2 a1 1 t478 t481 t484 t487 _ ?side1 ?side2 ?side3 A61.out).mono ?_); (case side1 => exact V_mk HC0_0.out (Kd.F_below (C_F (Kd.heap_int .i64) HR0_0.out) (by repeat (first | (with_reducible first | exact HB.out | apply below_alloc | apply pw_below_drewN | apply below_drew1 | refine below_set ?_ GE473.out) | exact HB.out)))); (case side2 => exact V_mk HC0_1.out (Kd.F_below (C_F (Kd.heap_int .i64) HR0_1.out) (by repeat (first | (with_reducible first | exact HB.out | apply below_alloc | apply pw_below_drewN | apply below_drew1 | refine below_set ?_ GE473.out) | exact HB.out)))); (case side3 => exact V_mk HC0_2.out (Kd.F_below (C_F (Kd.heap_int .i64) HR0_2.out) (by repeat (first | (with_reducible first | exact HB.out | apply below_alloc | apply pw_below_drewN | apply below_drew1 | refine below_set ?_ GE473.out) | exact HB.out)))); rintro e w66 ⟨v479, v482, v485, rfl, ho0, ho1, ho2, hb⟩; refine ⟨_, rfl, ?_⟩; have n0_ := Zk (V_lower (V_mono (ok' := fun k_ => k_ ≠ gb473) ho0 (fun k_ hk_ => Or.elim hk_ (fun hs_ => Or.elim hs_ (fun hs_ => fun e_ => Nat.not_le.2 hs_ (by rw [e_]; exact GW473.out)) (fun hs_ => Or.elim hs_ (fun hs_ => fun e_ => Nat.not_le.2 hs_ (by rw [e_]; exact GW473.out)) (fun hs_ => fun e_ => Nat.not_le.2 hs_ (by rw [e_]; exact GW473.out)))) (fun hn_ => (Kd.freshB (g := gb473) (o := .cells #[.slice A0_0 l0_0.length c0_0, .slice A0_1 l0_1.length c0_1, .slice A0_2 l0_2.length c0_2] 30 (0, 0)) (by (with_reducible repeat (first | refine blk_drewN ?_ _ | refine blk_drew ?_ | refine blk_alloc ?_ _)); exact BK473.out) k_ hn_)))) (below_size (by repeat (first | (with_reducible first | exact HB.out | apply below_alloc | apply pw_below_drewN | apply below_drew1 | refine below_set ?_ GE473.out) | exact HB.out)))); have n1_ := Zk (V_lower (V_mono (ok' := fun k_ => k_ ≠ gb473) ho1 (fun k_ hk_ => Or.elim hk_ (fun hs_ => Or.elim hs_ (fun hs_ => fun e_ => Nat.not_le.2 hs_ (by rw [e_]; exact GW473.out)) (fun hs_ => Or.elim hs_ (fun hs_ => fun e_ => Nat.not_le.2 hs_ (by rw [e_]; exact GW473.out)) (fun hs_ => fun e_ => Nat.not_le.2 hs_ (by rw [e_]; exact GW473.out)))) (fun hn_ => (Kd.freshB (g := gb473) (o := .cells #[.slice A0_0 l0_0.length c0_0, .slice A0_1 l0_1.length c0_1, .slice A0_2 l0_2.length c0_2] 30 (0, 0)) (by (with_reducible repeat (first | refine blk_drewN ?_ _ | refine blk_drew ?_ | refine blk_alloc ?_ _)); exact BK473.out) k_ hn_)))) (below_size (by repeat (first | (with_reducible first | exact HB.out | apply below_alloc | apply pw_below_drewN | apply below_drew1 | refine below_set ?_ GE473.out) | exact HB.out)))); have n2_ := Zk (V_lower (V_mono (ok' := fun k_ => k_ ≠ gb473) ho2 (fun k_ hk_ => Or.elim hk_ (fun hs_ => Or.elim hs_ (fun hs_ => fun e_ => Nat.not_le.2 hs_ (by rw [e_]; exact GW473.out)) (fun hs_ => Or.elim hs_ (fun hs_ => fun e_ => Nat.not_le.2 hs_ (by rw [e_]; exact GW473.out)) (fun hs_ => fun e_ => Nat.not_le.2 hs_ (by rw [e_]; exact GW473.out)))) (fun hn_ => (Kd.freshB (g := gb473) (o := .cells #[.slice A0_0 l0_0.length c0_0, .slice A0_1 l0_1.length c0_1, .slice A0_2 l0_2.length c0_2] 30 (0, 0)) (by (with_reducible repeat (first | refine blk_drewN ?_ _ | refine blk_drew ?_ | refine blk_alloc ?_ _)); exact BK473.out) k_ hn_)))) (below_size (by repeat (first | (with_reducible first | exact HB.out | apply below_alloc | apply pw_below_drewN | apply below_drew1 | refine below_set ?_ GE473.out) | exact HB.out)))); have n3_ := Zk (blk_below (g := gb473) (o := .cells #[.slice A0_0 l0_0.length c0_0, .slice A0_1 l0_1.length c0_1, .slice A0_2 l0_2.length c0_2] 30 (0, 0)) (by (with_reducible repeat (first | refine blk_drewN ?_ _ | refine blk_drew ?_ | refine blk_alloc ?_ _)); exact BK473.out) hb); have n4_ := Zk (below_step (by repeat (first | (with_reducible first | exact HB.out | apply below_alloc | apply pw_below_drewN | apply below_drew1 | refine below_set ?_ GE473.out) | exact HB.out)) hb); clear BK473; clear HB; have HO480 := n0_; have HO483 := n1_; have HO486 := n2_; have BK473 := n3_; have HB := n4_; clear n0_ n1_ n2_ n3_ n4_; (try clear hb); (try clear hb2); (try clear hk); (try clear hi); (try clear ho0); (try clear ho1); (try clear ho2)) | ((with_reducible refine gate_dst (N := 7) rfl ?_); refine box_event ?hg (N := 7) ?hd (cs := #[.slice none 0 0, .slice none 0 0, .slice none 0 0]) (t := 30) ?hr ?_; (case hd => rfl); (case hg => rfl); (case hr => first | (go_simp; done) | (go_simp; rfl)); intro gb488 hg w67 hbox hb; have n0_ := Zk (V_below (V_elderB (by (with_reducible repeat (first | apply V_alloc | apply V_drewN | apply V_drew)); exact HO480.out) gb488 (Nat.le_of_eq hg.symm)) hb); have n1_ := Zk (V_below (V_elderB (by (with_reducible repeat (first | apply V_alloc | apply V_drewN | apply V_drew)); exact HO483.out) gb488 (Nat.le_of_eq hg.symm)) hb); have n2_ := Zk (V_below (V_elderB (by (with_reducible repeat (first | apply V_alloc | apply V_drewN | apply V_drew)); exact HO486.out) gb488 (Nat.le_of_eq hg.symm)) hb); have n3_ := Zk (blk_below (g := gb473) (o := .cells #[.slice A0_0 l0_0.length c0_0, .slice A0_1 l0_1.length c0_1, .slice A0_2 l0_2.length c0_2] 30 (0, 0)) (by (with_reducible repeat (first | refine blk_drewN ?_ _ | refine blk_drew ?_ | refine blk_alloc ?_ _)); exact BK473.out) hb); have n4_ := Zk (below_step (by repeat (first | (with_reducible first | exact HB.out | apply below_alloc | apply pw_below_drewN | apply below_drew1 | refine below_set ?_ GE473.out) | exact HB.out)) hb); have n5_ := Zk (hbox); have n6_ := Zk ((by rw [hg]; exact (below_size (by repeat (first | (with_reducible first | exact HB.out | apply below_alloc | apply pw_below_drewN | apply below_drew1 | refine below_set ?_ GE473.out) | exact HB.out))) : w.heap.size ≤ gb488)); have n7_ := Zk ((by rw [hg]; exact (below_size (by repeat (first | (with_reducible first | exact HB.out | apply below_alloc | apply pw_below_drewN | apply below_drew1 | refine below_set ?_ GE473.out) | exact HB.out))) : w.heap.size ≤ gb488)); have n8_ := Zk ((by rw [hg]; exact Nat.ne_of_lt (blk_lt (g := gb473) (o := .cells #[.slice A0_0 l0_0.length c0_0, .slice A0_1 l0_1.length c0_1, .slice A0_2 l0_2.length c0_2] 30 (0, 0)) (by (with_reducible repeat (first | refine blk_drewN ?_ _ | refine blk_drew ?_ | refine blk_alloc ?_ _)); exact BK473.out)) : gb473 ≠ gb488)); have n9_ := Zk ((by rw [hg]; exact Nat.ne_of_gt (blk_lt (g := gb473) (o := .cells #[.slice A0_0 l0_0.length c0_0, .slice A0_1 l0_1.length c0_1, .slice A0_2 l0_2.length c0_2] 30 (0, 0)) (by (with_reducible repeat (first | refine blk_drewN ?_ _ | refine blk_drew ?_ | refine blk_alloc ?_ _)); exact BK473.out)) : gb488 ≠ gb473)); clear HO480; clear HO483; clear HO486; clear BK473; clear HB; have HO480 := n0_; have HO483 := n1_; have HO486 := n2_; have BK473 := n3_; have HB := n4_; have BK488 := n5_; have GW488 := n6_; have GE488 := n7_; have NB473_488 := n8_; have NB488_473 := n9_; clear n0_ n1_ n2_ n3_ n4_ n5_ n6_ n7_ n8_ n9_; clear hb hbox hg; obtain ⟨Ao68, co68, eo68⟩ := V_slice HO480.out; subst eo68; have hnb69 := NB488_473.out; have hnc69 := NB473_488.out; have hcz70_0 : w67.cell? ⟨gb488, 0, none⟩ = some (.slice none 0 0) := (blk_cell BK488.out 0).trans rfl; have hcz70_1 : w67.cell? ⟨gb488, 1, none⟩ = some (.slice none 0 0) := (blk_cell BK488.out 1).trans rfl; have hcz70_2 : w67.cell? ⟨gb488, 2, none⟩ = some (.slice none 0 0) := (blk_cell BK488.out 2).trans rfl; have hfz70_0 := blk_frozen BK488.out 0; have hfz70_1 := blk_frozen BK488.out 1; have hfz70_2 := blk_frozen BK488.out 2; obtain ⟨Ao71, co71, eo71⟩ := V_slice HO483.out; subst eo71; obtain ⟨Ao72, co72, eo72⟩ := V_slice HO486.out; subst eo72) | ((with_reducible refine gate_store (t := 30) (p := 7) rfl ?_); refine store_event (t := 30) (p := 7) (v := ?vo_w73) (w1 := (((w67.setCell ⟨gb488, 0, none⟩ (.slice Ao68 t478.length co68)).setCell ⟨gb488, 1, none⟩ (.slice Ao71 t481.length co71)).setCell ⟨gb488, 2, none⟩ (.slice Ao72 t484.length co72))) ?hg ?ho ?hn ?hr ?_; (case ho => rfl); (case hg => rfl); (case hn => rfl); (case hr => first | (go_simp; done) | (go_simp; rfl)); intro w73 hw; have n0_ : Aside0 (Kd.V (Kd.int .i64) 3 w73 w.heap.size (fun k_ => k_ ≠ gb473 ∧ k_ ≠ gb488) (.slice Ao68 t478.length co68) t478) := ⟨(by rw [hw]; exact (by (with_reducible repeat (first | apply V_alloc | apply V_drewN | apply V_drew)); exact V_mono (V_far (p := ⟨gb488, 2, none⟩) (V_far (p := ⟨gb488, 1, none⟩) (V_far (p := ⟨gb488, 0, none⟩) (V_mono HO480.out (fun k_ hk => (⟨hk, hk.2⟩ : _ ∧ k_ ≠ gb488))) (fun _ hk => hk.2) (.slice Ao68 t478.length co68)) (fun _ hk => hk.2) (.slice Ao71 t481.length co71)) (fun _ hk => hk.2) (.slice Ao72 t484.length co72)) (fun _ hk => ⟨hk.1.1, hk.1.2⟩)))⟩; have n1_ : Aside0 (Kd.V (Kd.int .i64) 3 w73 w.heap.size (fun k_ => k_ ≠ gb473 ∧ k_ ≠ gb488) (.slice Ao71 t481.length co71) t481) := ⟨(by rw [hw]; exact (by (with_reducible repeat (first | apply V_alloc | apply V_drewN | apply V_drew)); exact V_mono (V_far (p := ⟨gb488, 2, none⟩) (V_far (p := ⟨gb488, 1, none⟩) (V_far (p := ⟨gb488, 0, none⟩) (V_mono HO483.out (fun k_ hk => (⟨hk, hk.2⟩ : _ ∧ k_ ≠ gb488))) (fun _ hk => hk.2) (.slice Ao68 t478.length co68)) (fun _ hk => hk.2) (.slice Ao71 t481.length co71)) (fun _ hk => hk.2) (.slice Ao72 t484.length co72)) (fun _ hk => ⟨hk.1.1, hk.1.2⟩)))⟩; have n2_ : Aside0 (Kd.V (Kd.int .i64) 3 w73 w.heap.size (fun k_ => k_ ≠ gb473 ∧ k_ ≠ gb488) (.slice Ao72 t484.length co72) t484) := ⟨(by rw [hw]; exact (by (with_reducible repeat (first | apply V_alloc | apply V_drewN | apply V_drew)); exact V_mono (V_far (p := ⟨gb488, 2, none⟩) (V_far (p := ⟨gb488, 1, none⟩) (V_far (p := ⟨gb488, 0, none⟩) (V_mono HO486.out (fun k_ hk => (⟨hk, hk.2⟩ : _ ∧ k_ ≠ gb488))) (fun _ hk => hk.2) (.slice Ao68 t478.length co68)) (fun _ hk => hk.2) (.slice Ao71 t481.length co71)) (fun _ hk => hk.2) (.slice Ao72 t484.length co72)) (fun _ hk => ⟨hk.1.1, hk.1.2⟩)))⟩; have n3_ : Aside0 (w73.heap[gb473]? = some (.cells #[.slice A0_0 l0_0.length c0_0, .slice A0_1 l0_1.length c0_1, .slice A0_2 l0_2.length c0_2] 30 (0, 0))) := ⟨(by rw [hw]; exact (by (with_reducible repeat (first | refine blk_drewN ?_ _ | refine blk_drew ?_ | refine blk_alloc ?_ _)); refine blk_far ?_ NB473_488.out _; (with_reducible repeat (first | refine blk_drewN ?_ _ | refine blk_drew ?_ | refine blk_alloc ?_ _)); refine blk_far ?_ NB473_488.out _; (with_reducible repeat (first | refine blk_drewN ?_ _ | refine blk_drew ?_ | refine blk_alloc ?_ _)); refine blk_far ?_ NB473_488.out _; (with_reducible repeat (first | refine blk_drewN ?_ _ | refine blk_drew ?_ | refine blk_alloc ?_ _)); exact BK473.out))⟩; have n4_ : Aside0 (w73.heap[gb488]? = some (.cells #[.slice Ao68 t478.length co68, .slice Ao71 t481.length co71, .slice Ao72 t484.length co72] 30 (0, 0))) := ⟨(by rw [hw]; exact (by (with_reducible repeat (first | refine blk_drewN ?_ _ | refine blk_drew ?_ | refine blk_alloc ?_ _)); refine blk_put (cs := #[.slice Ao68 t478.length co68, .slice Ao71 t481.length co71, .slice none 0 0]) ?_ 2 _ rfl; (with_reducible repeat (first | refine blk_drewN ?_ _ | refine blk_drew ?_ | refine blk_alloc ?_ _)); refine blk_put (cs := #[.slice Ao68 t478.length co68, .slice none 0 0, .slice none 0 0]) ?_ 1 _ rfl; (with_reducible repeat (first | refine blk_drewN ?_ _ | refine blk_drew ?_ | refine blk_alloc ?_ _)); refine blk_put (cs := #[.slice none 0 0, .slice none 0 0, .slice none 0 0]) ?_ 0 _ rfl; (with_reducible repeat (first | refine blk_drewN ?_ _ | refine blk_drew ?_ | refine blk_alloc ?_ _)); exact BK488.out))⟩; have n5_ : Aside0 (Below w.heap.size w w73) := ⟨(by rw [hw]; exact (by repeat (first | (with_reducible first | exact HB.out | apply below_alloc | apply pw_below_drewN | apply below_drew1 | refine below_set ?_ GE473.out | refine below_set ?_ GE488.out) | exact HB.out)))⟩; clear hw; clear HO480; clear HO483; clear HO486; clear BK473; clear BK488; clear HB; have HO480 := n0_; have HO483 := n1_; have HO486 := n2_; have BK473 := n3_; have BK488 := n4_; have HB := n5_; clear n0_ n1_ n2_ n3_ n4_ n5_; have hcz74_0 : w73.cell? ⟨gb488, 0, none⟩ = some (.slice Ao68 t478.length co68) := (blk_cell BK488.out 0).trans rfl; have hcz74_1 : w73.cell? ⟨gb488, 1, none⟩ = some (.slice Ao71 t481.length co71) := (blk_cell BK488.out 1).trans rfl; have hcz74_2 : w73.cell? ⟨gb488, 2, none⟩ = some (.slice Ao72 t484.length co72) := (blk_cell BK488.out 2).trans rfl; have hfz74_0 := blk_frozen BK488.out 0; have hfz74_1 := blk_frozen BK488.out 1; have hfz74_2 := blk_frozen BK488.out 2) | ((with_reducible refine gate_callee (f := 22) rfl ?_); refine goesL_ (some 50) rfl rfl Tryd.func22 (by kernel_rfl) rfl #[.agg #[.slice Ao68 t478.length co68, .slice Ao71 t481.length co71, .slice Ao72 t484.length co72], .int .i64 a1] rfl (by (try simp only [List.map_toArray, List.map_cons, List.map_nil]); first | done | rfl | (simp only [List.length_drop, List.length_take]; rfl)) ?_; (with_reducible refine (signal_Send.calls kj3 (fun k_ => (k_ ≠ gb473 ∧ k_ ≠ gb488)) _ _ t478 (fun k_ => (k_ ≠ gb473 ∧ k_ ≠ gb488)) _ _ t481 (fun k_ => (k_ ≠ gb473 ∧ k_ ≠ gb488)) _ _ t484 a1 t489 t492 t495 _ ?side1 ?side2 ?side3 A62.out).mono ?_); (case side1 => exact HO480.out); (case side2 => exact HO483.out); (case side3 => exact HO486.out); rintro e w75 ⟨v490, v493, v496, rfl, ho0, ho1, ho2, hb⟩; refine ⟨_, rfl, ?_⟩; have n0_ := Zk (V_below (by (with_reducible repeat (first | apply V_alloc | apply V_drewN | apply V_drew)); exact HO480.out) hb); have n1_ := Zk (V_below (by (with_reducible repeat (first | apply V_alloc | apply V_drewN | apply V_drew)); exact HO483.out) hb); have n2_ := Zk (V_below (by (with_reducible repeat (first | apply V_alloc | apply V_drewN | apply V_drew)); exact HO486.out) hb); have n3_ := Zk (V_lower (V_mono (ok' := fun k_ => k_ ≠ gb473 ∧ k_ ≠ gb488) ho0 (fun k_ hk_ => ⟨Or.elim hk_ (fun hs_ => Or.elim hs_ (fun hs_ => hs_.1) (fun hs_ => Or.elim hs_ (fun hs_ => hs_.1) (fun hs_ => hs_.1))) (fun hn_ => (Kd.freshB (g := gb473) (o := .cells #[.slice A0_0 l0_0.length c0_0, .slice A0_1 l0_1.length c0_1, .slice A0_2 l0_2.length c0_2] 30 (0, 0)) (by (with_reducible repeat (first | refine blk_drewN ?_ _ | refine blk_drew ?_ | refine blk_alloc ?_ _)); exact BK473.out) k_ hn_)), Or.elim hk_ (fun hs_ => Or.elim hs_ (fun hs_ => hs_.2) (fun hs_ => Or.elim hs_ (fun hs_ => hs_.2) (fun hs_ => hs_.2))) (fun hn_ => (Kd.freshB (g := gb488) (o := .cells #[.slice Ao68 t478.length co68, .slice Ao71 t481.length co71, .slice Ao72 t484.length co72] 30 (0, 0)) (by (with_reducible repeat (first | refine blk_drewN ?_ _ | refine blk_drew ?_ | refine blk_alloc ?_ _)); exact BK488.out) k_ hn_))⟩)) (below_size (by repeat (first | (with_reducible first | exact HB.out | apply below_alloc | apply pw_below_drewN | apply below_drew1 | refine below_set ?_ GE473.out | refine below_set ?_ GE488.out) | exact HB.out)))); have n4_ := Zk (V_lower (V_mono (ok' := fun k_ => k_ ≠ gb473 ∧ k_ ≠ gb488) ho1 (fun k_ hk_ => ⟨Or.elim hk_ (fun hs_ => Or.elim hs_ (fun hs_ => hs_.1) (fun hs_ => Or.elim hs_ (fun hs_ => hs_.1) (fun hs_ => hs_.1))) (fun hn_ => (Kd.freshB (g := gb473) (o := .cells #[.slice A0_0 l0_0.length c0_0, .slice A0_1 l0_1.length c0_1, .slice A0_2 l0_2.length c0_2] 30 (0, 0)) (by (with_reducible repeat (first | refine blk_drewN ?_ _ | refine blk_drew ?_ | refine blk_alloc ?_ _)); exact BK473.out) k_ hn_)), Or.elim hk_ (fun hs_ => Or.elim hs_ (fun hs_ => hs_.2) (fun hs_ => Or.elim hs_ (fun hs_ => hs_.2) (fun hs_ => hs_.2))) (fun hn_ => (Kd.freshB (g := gb488) (o := .cells #[.slice Ao68 t478.length co68, .slice Ao71 t481.length co71, .slice Ao72 t484.length co72] 30 (0, 0)) (by (with_reducible repeat (first | refine blk_drewN ?_ _ | refine blk_drew ?_ | refine blk_alloc ?_ _)); exact BK488.out) k_ hn_))⟩)) (below_size (by repeat (first | (with_reducible first | exact HB.out | apply below_alloc | apply pw_below_drewN | apply below_drew1 | refine below_set ?_ GE473.out | refine below_set ?_ GE488.out) | exact HB.out)))); have n5_ := Zk (V_lower (V_mono (ok' := fun k_ => k_ ≠ gb473 ∧ k_ ≠ gb488) ho2 (fun k_ hk_ => ⟨Or.elim hk_ (fun hs_ => Or.elim hs_ (fun hs_ => hs_.1) (fun hs_ => Or.elim hs_ (fun hs_ => hs_.1) (fun hs_ => hs_.1))) (fun hn_ => (Kd.freshB (g := gb473) (o := .cells #[.slice A0_0 l0_0.length c0_0, .slice A0_1 l0_1.length c0_1, .slice A0_2 l0_2.length c0_2] 30 (0, 0)) (by (with_reducible repeat (first | refine blk_drewN ?_ _ | refine blk_drew ?_ | refine blk_alloc ?_ _)); exact BK473.out) k_ hn_)), Or.elim hk_ (fun hs_ => Or.elim hs_ (fun hs_ => hs_.2) (fun hs_ => Or.elim hs_ (fun hs_ => hs_.2) (fun hs_ => hs_.2))) (fun hn_ => (Kd.freshB (g := gb488) (o := .cells #[.slice Ao68 t478.length co68, .slice Ao71 t481.length co71, .slice Ao72 t484.length co72] 30 (0, 0)) (by (with_reducible repeat (first | refine blk_drewN ?_ _ | refine blk_drew ?_ | refine blk_alloc ?_ _)); exact BK488.out) k_ hn_))⟩)) (below_size (by repeat (first | (with_reducible first | exact HB.out | apply below_alloc | apply pw_below_drewN | apply below_drew1 | refine below_set ?_ GE473.out | refine below_set ?_ GE488.out) | exact HB.out)))); have n6_ := Zk (blk_below (g := gb473) (o := .cells #[.slice A0_0 l0_0.length c0_0, .slice A0_1 l0_1.length c0_1, .slice A0_2 l0_2.length c0_2] 30 (0, 0)) (by (with_reducible repeat (first | refine blk_drewN ?_ _ | refine blk_drew ?_ | refine blk_alloc ?_ _)); exact BK473.out) hb); have n7_ := Zk (blk_below (g := gb488) (o := .cells #[.slice Ao68 t478.length co68, .slice Ao71 t481.length co71, .slice Ao72 t484.length co72] 30 (0, 0)) (by (with_reducible repeat (first | refine blk_drewN ?_ _ | refine blk_drew ?_ | refine blk_alloc ?_ _)); exact BK488.out) hb); have n8_ := Zk (below_step (by repeat (first | (with_reducible first | exact HB.out | apply below_alloc | apply pw_below_drewN | apply below_drew1 | refine below_set ?_ GE473.out | refine below_set ?_ GE488.out) | exact HB.out)) hb); clear HO480; clear HO483; clear HO486; clear BK473; clear BK488; clear HB; have HO480 := n0_; have HO483 := n1_; have HO486 := n2_; have HO491 := n3_; have HO494 := n4_; have HO497 := n5_; have BK473 := n6_; have BK488 := n7_; have HB := n8_; clear n0_ n1_ n2_ n3_ n4_ n5_ n6_ n7_ n8_; (try clear hb); (try clear hb2); (try clear hk); (try clear hi); (try clear ho0); (try clear ho1); (try clear ho2)) | ((with_reducible refine gate_dst (N := 9) rfl ?_); refine box_event ?hg (N := 9) ?hd (cs := #[.slice none 0 0, .slice none 0 0, .slice none 0 0]) (t := 30) ?hr ?_; (case hd => rfl); (case hg => rfl); (case hr => first | (go_simp; done) | (go_simp; rfl)); intro gb498 hg w76 hbox hb; have n0_ := Zk (V_below (V_elderB (by (with_reducible repeat (first | apply V_alloc | apply V_drewN | apply V_drew)); exact HO480.out) gb498 (Nat.le_of_eq hg.symm)) hb); have n1_ := Zk (V_below (V_elderB (by (with_reducible repeat (first | apply V_alloc | apply V_drewN | apply V_drew)); exact HO483.out) gb498 (Nat.le_of_eq hg.symm)) hb); have n2_ := Zk (V_below (V_elderB (by (with_reducible repeat (first | apply V_alloc | apply V_drewN | apply V_drew)); exact HO486.out) gb498 (Nat.le_of_eq hg.symm)) hb); have n3_ := Zk (V_below (V_elderB (by (with_reducible repeat (first | apply V_alloc | apply V_drewN | apply V_drew)); exact HO491.out) gb498 (Nat.le_of_eq hg.symm)) hb); have n4_ := Zk (V_below (V_elderB (by (with_reducible repeat (first | apply V_alloc | apply V_drewN | apply V_drew)); exact HO494.out) gb498 (Nat.le_of_eq hg.symm)) hb); have n5_ := Zk (V_below (V_elderB (by (with_reducible repeat (first | apply V_alloc | apply V_drewN | apply V_drew)); exact HO497.out) gb498 (Nat.le_of_eq hg.symm)) hb); have n6_ := Zk (blk_below (g := gb473) (o := .cells #[.slice A0_0 l0_0.length c0_0, .slice A0_1 l0_1.length c0_1, .slice A0_2 l0_2.length c0_2] 30 (0, 0)) (by (with_reducible repeat (first | refine blk_drewN ?_ _ | refine blk_drew ?_ | refine blk_alloc ?_ _)); exact BK473.out) hb); have n7_ := Zk (blk_below (g := gb488) (o := .cells #[.slice Ao68 t478.length co68, .slice Ao71 t481.length co71, .slice Ao72 t484.length co72] 30 (0, 0)) (by (with_reducible repeat (first | refine blk_drewN ?_ _ | refine blk_drew ?_ | refine blk_alloc ?_ _)); exact BK488.out) hb); have n8_ := Zk (below_step (by repeat (first | (with_reducible first | exact HB.out | apply below_alloc | apply pw_below_drewN | apply below_drew1 | refine below_set ?_ GE473.out | refine below_set ?_ GE488.out) | exact HB.out)) hb); have n9_ := Zk (hbox); have n10_ := Zk ((by rw [hg]; exact (below_size (by repeat (first | (with_reducible first | exact HB.out | apply below_alloc | apply pw_below_drewN | apply below_drew1 | refine below_set ?_ GE473.out | refine below_set ?_ GE488.out) | exact HB.out))) : w.heap.size ≤ gb498)); have n11_ := Zk ((by rw [hg]; exact (below_size (by repeat (first | (with_reducible first | exact HB.out | apply below_alloc | apply pw_below_drewN | apply below_drew1 | refine below_set ?_ GE473.out | refine below_set ?_ GE488.out) | exact HB.out))) : w.heap.size ≤ gb498)); have n12_ := Zk ((by rw [hg]; exact Nat.ne_of_lt (blk_lt (g := gb473) (o := .cells #[.slice A0_0 l0_0.length c0_0, .slice A0_1 l0_1.length c0_1, .slice A0_2 l0_2.length c0_2] 30 (0, 0)) (by (with_reducible repeat (first | refine blk_drewN ?_ _ | refine blk_drew ?_ | refine blk_alloc ?_ _)); exact BK473.out)) : gb473 ≠ gb498)); have n13_ := Zk ((by rw [hg]; exact Nat.ne_of_gt (blk_lt (g := gb473) (o := .cells #[.slice A0_0 l0_0.length c0_0, .slice A0_1 l0_1.length c0_1, .slice A0_2 l0_2.length c0_2] 30 (0, 0)) (by (with_reducible repeat (first | refine blk_drewN ?_ _ | refine blk_drew ?_ | refine blk_alloc ?_ _)); exact BK473.out)) : gb498 ≠ gb473)); have n14_ := Zk ((by rw [hg]; exact Nat.ne_of_lt (blk_lt (g := gb488) (o := .cells #[.slice Ao68 t478.length co68, .slice Ao71 t481.length co71, .slice Ao72 t484.length co72] 30 (0, 0)) (by (with_reducible repeat (first | refine blk_drewN ?_ _ | refine blk_drew ?_ | refine blk_alloc ?_ _)); exact BK488.out)) : gb488 ≠ gb498)); have n15_ := Zk ((by rw [hg]; exact Nat.ne_of_gt (blk_lt (g := gb488) (o := .cells #[.slice Ao68 t478.length co68, .slice Ao71 t481.length co71, .slice Ao72 t484.length co72] 30 (0, 0)) (by (with_reducible repeat (first | refine blk_drewN ?_ _ | refine blk_drew ?_ | refine blk_alloc ?_ _)); exact BK488.out)) : gb498 ≠ gb488)); clear HO480; clear HO483; clear HO486; clear HO491; clear HO494; clear HO497; clear BK473; clear BK488; clear HB; have HO480 := n0_; have HO483 := n1_; have HO486 := n2_; have HO491 := n3_; have HO494 := n4_; have HO497 := n5_; have BK473 := n6_; have BK488 := n7_; have HB := n8_; have BK498 := n9_; have GW498 := n10_; have GE498 := n11_; have NB473_498 := n12_; have NB498_473 := n13_; have NB488_498 := n14_; have NB498_488 := n15_; clear n0_ n1_ n2_ n3_ n4_ n5_ n6_ n7_ n8_ n9_ n10_ n11_ n12_ n13_ n14_ n15_; clear hb hbox hg; obtain ⟨Ao77, co77, eo77⟩ := V_slice HO491.out; subst eo77; have hnb78 := NB498_473.out; have hnc78 := NB473_498.out; have hnb79 := NB498_488.out; have hnc79 := NB488_498.out; have hcz80_0 : w76.cell? ⟨gb498, 0, none⟩ = some (.slice none 0 0) := (blk_cell BK498.out 0).trans rfl; have hcz80_1 : w76.cell? ⟨gb498, 1, none⟩ = some (.slice none 0 0) := (blk_cell BK498.out 1).trans rfl; have hcz80_2 : w76.cell? ⟨gb498, 2, none⟩ = some (.slice none 0 0) := (blk_cell BK498.out 2).trans rfl; have hfz80_0 := blk_frozen BK498.out 0; have hfz80_1 := blk_frozen BK498.out 1; have hfz80_2 := blk_frozen BK498.out 2; obtain ⟨Ao81, co81, eo81⟩ := V_slice HO494.out; subst eo81; obtain ⟨Ao82, co82, eo82⟩ := V_slice HO497.out; subst eo82) | ((with_reducible refine gate_store (t := 30) (p := 9) rfl ?_); refine store_event (t := 30) (p := 9) (v := ?vo_w83) (w1 := (((w76.setCell ⟨gb498, 0, none⟩ (.slice Ao77 t489.length co77)).setCell ⟨gb498, 1, none⟩ (.slice Ao81 t492.length co81)).setCell ⟨gb498, 2, none⟩ (.slice Ao82 t495.length co82))) ?hg ?ho ?hn ?hr ?_; (case ho => rfl); (case hg => rfl); (case hn => rfl); (case hr => first | (go_simp; done) | (go_simp; rfl)); intro w83 hw; have n0_ : Aside0 (Kd.V (Kd.int .i64) 3 w83 w.heap.size (fun k_ => k_ ≠ gb473 ∧ k_ ≠ gb488 ∧ k_ ≠ gb498) (.slice Ao68 t478.length co68) t478) := ⟨(by rw [hw]; exact (by (with_reducible repeat (first | apply V_alloc | apply V_drewN | apply V_drew)); exact V_mono (V_far (p := ⟨gb498, 2, none⟩) (V_far (p := ⟨gb498, 1, none⟩) (V_far (p := ⟨gb498, 0, none⟩) (V_mono HO480.out (fun k_ hk => (⟨hk, hk.2⟩ : _ ∧ k_ ≠ gb498))) (fun _ hk => hk.2) (.slice Ao77 t489.length co77)) (fun _ hk => hk.2) (.slice Ao81 t492.length co81)) (fun _ hk => hk.2) (.slice Ao82 t495.length co82)) (fun _ hk => ⟨hk.1.1.1, ⟨hk.1.1.2, hk.1.2⟩⟩)))⟩; have n1_ : Aside0 (Kd.V (Kd.int .i64) 3 w83 w.heap.size (fun k_ => k_ ≠ gb473 ∧ k_ ≠ gb488 ∧ k_ ≠ gb498) (.slice Ao71 t481.length co71) t481) := ⟨(by rw [hw]; exact (by (with_reducible repeat (first | apply V_alloc | apply V_drewN | apply V_drew)); exact V_mono (V_far (p := ⟨gb498, 2, none⟩) (V_far (p := ⟨gb498, 1, none⟩) (V_far (p := ⟨gb498, 0, none⟩) (V_mono HO483.out (fun k_ hk => (⟨hk, hk.2⟩ : _ ∧ k_ ≠ gb498))) (fun _ hk => hk.2) (.slice Ao77 t489.length co77)) (fun _ hk => hk.2) (.slice Ao81 t492.length co81)) (fun _ hk => hk.2) (.slice Ao82 t495.length co82)) (fun _ hk => ⟨hk.1.1.1, ⟨hk.1.1.2, hk.1.2⟩⟩)))⟩; have n2_ : Aside0 (Kd.V (Kd.int .i64) 3 w83 w.heap.size (fun k_ => k_ ≠ gb473 ∧ k_ ≠ gb488 ∧ k_ ≠ gb498) (.slice Ao72 t484.length co72) t484) := ⟨(by rw [hw]; exact (by (with_reducible repeat (first | apply V_alloc | apply V_drewN | apply V_drew)); exact V_mono (V_far (p := ⟨gb498, 2, none⟩) (V_far (p := ⟨gb498, 1, none⟩) (V_far (p := ⟨gb498, 0, none⟩) (V_mono HO486.out (fun k_ hk => (⟨hk, hk.2⟩ : _ ∧ k_ ≠ gb498))) (fun _ hk => hk.2) (.slice Ao77 t489.length co77)) (fun _ hk => hk.2) (.slice Ao81 t492.length co81)) (fun _ hk => hk.2) (.slice Ao82 t495.length co82)) (fun _ hk => ⟨hk.1.1.1, ⟨hk.1.1.2, hk.1.2⟩⟩)))⟩; have n3_ : Aside0 (Kd.V (Kd.int .i64) 3 w83 w.heap.size (fun k_ => k_ ≠ gb473 ∧ k_ ≠ gb488 ∧ k_ ≠ gb498) (.slice Ao77 t489.length co77) t489) := ⟨(by rw [hw]; exact (by (with_reducible repeat (first | apply V_alloc | apply V_drewN | apply V_drew)); exact V_mono (V_far (p := ⟨gb498, 2, none⟩) (V_far (p := ⟨gb498, 1, none⟩) (V_far (p := ⟨gb498, 0, none⟩) (V_mono HO491.out (fun k_ hk => (⟨hk, hk.2⟩ : _ ∧ k_ ≠ gb498))) (fun _ hk => hk.2) (.slice Ao77 t489.length co77)) (fun _ hk => hk.2) (.slice Ao81 t492.length co81)) (fun _ hk => hk.2) (.slice Ao82 t495.length co82)) (fun _ hk => ⟨hk.1.1.1, ⟨hk.1.1.2, hk.1.2⟩⟩)))⟩; have n4_ : Aside0 (Kd.V (Kd.int .i64) 3 w83 w.heap.size (fun k_ => k_ ≠ gb473 ∧ k_ ≠ gb488 ∧ k_ ≠ gb498) (.slice Ao81 t492.length co81) t492) := ⟨(by rw [hw]; exact (by (with_reducible repeat (first | apply V_alloc | apply V_drewN | apply V_drew)); exact V_mono (V_far (p := ⟨gb498, 2, none⟩) (V_far (p := ⟨gb498, 1, none⟩) (V_far (p := ⟨gb498, 0, none⟩) (V_mono HO494.out (fun k_ hk => (⟨hk, hk.2⟩ : _ ∧ k_ ≠ gb498))) (fun _ hk => hk.2) (.slice Ao77 t489.length co77)) (fun _ hk => hk.2) (.slice Ao81 t492.length co81)) (fun _ hk => hk.2) (.slice Ao82 t495.length co82)) (fun _ hk => ⟨hk.1.1.1, ⟨hk.1.1.2, hk.1.2⟩⟩)))⟩; have n5_ : Aside0 (Kd.V (Kd.int .i64) 3 w83 w.heap.size (fun k_ => k_ ≠ gb473 ∧ k_ ≠ gb488 ∧ k_ ≠ gb498) (.slice Ao82 t495.length co82) t495) := ⟨(by rw [hw]; exact (by (with_reducible repeat (first | apply V_alloc | apply V_drewN | apply V_drew)); exact V_mono (V_far (p := ⟨gb498, 2, none⟩) (V_far (p := ⟨gb498, 1, none⟩) (V_far (p := ⟨gb498, 0, none⟩) (V_mono HO497.out (fun k_ hk => (⟨hk, hk.2⟩ : _ ∧ k_ ≠ gb498))) (fun _ hk => hk.2) (.slice Ao77 t489.length co77)) (fun _ hk => hk.2) (.slice Ao81 t492.length co81)) (fun _ hk => hk.2) (.slice Ao82 t495.length co82)) (fun _ hk => ⟨hk.1.1.1, ⟨hk.1.1.2, hk.1.2⟩⟩)))⟩; have n6_ : Aside0 (w83.heap[gb473]? = some (.cells #[.slice A0_0 l0_0.length c0_0, .slice A0_1 l0_1.length c0_1, .slice A0_2 l0_2.length c0_2] 30 (0, 0))) := ⟨(by rw [hw]; exact (by (with_reducible repeat (first | refine blk_drewN ?_ _ | refine blk_drew ?_ | refine blk_alloc ?_ _)); refine blk_far ?_ NB473_498.out _; (with_reducible repeat (first | refine blk_drewN ?_ _ | refine blk_drew ?_ | refine blk_alloc ?_ _)); refine blk_far ?_ NB473_498.out _; (with_reducible repeat (first | refine blk_drewN ?_ _ | refine blk_drew ?_ | refine blk_alloc ?_ _)); refine blk_far ?_ NB473_498.out _; (with_reducible repeat (first | refine blk_drewN ?_ _ | refine blk_drew ?_ | refine blk_alloc ?_ _)); exact BK473.out))⟩; have n7_ : Aside0 (w83.heap[gb488]? = some (.cells #[.slice Ao68 t478.length co68, .slice Ao71 t481.length co71, .slice Ao72 t484.length co72] 30 (0, 0))) := ⟨(by rw [hw]; exact (by (with_reducible repeat (first | refine blk_drewN ?_ _ | refine blk_drew ?_ | refine blk_alloc ?_ _)); refine blk_far ?_ NB488_498.out _; (with_reducible repeat (first | refine blk_drewN ?_ _ | refine blk_drew ?_ | refine blk_alloc ?_ _)); refine blk_far ?_ NB488_498.out _; (with_reducible repeat (first | refine blk_drewN ?_ _ | refine blk_drew ?_ | refine blk_alloc ?_ _)); refine blk_far ?_ NB488_498.out _; (with_reducible repeat (first | refine blk_drewN ?_ _ | refine blk_drew ?_ | refine blk_alloc ?_ _)); exact BK488.out))⟩; have n8_ : Aside0 (w83.heap[gb498]? = some (.cells #[.slice Ao77 t489.length co77, .slice Ao81 t492.length co81, .slice Ao82 t495.length co82] 30 (0, 0))) := ⟨(by rw [hw]; exact (by (with_reducible repeat (first | refine blk_drewN ?_ _ | refine blk_drew ?_ | refine blk_alloc ?_ _)); refine blk_put (cs := #[.slice Ao77 t489.length co77, .slice Ao81 t492.length co81, .slice none 0 0]) ?_ 2 _ rfl; (with_reducible repeat (first | refine blk_drewN ?_ _ | refine blk_drew ?_ | refine blk_alloc ?_ _)); refine blk_put (cs := #[.slice Ao77 t489.length co77, .slice none 0 0, .slice none 0 0]) ?_ 1 _ rfl; (with_reducible repeat (first | refine blk_drewN ?_ _ | refine blk_drew ?_ | refine blk_alloc ?_ _)); refine blk_put (cs := #[.slice none 0 0, .slice none 0 0, .slice none 0 0]) ?_ 0 _ rfl; (with_reducible repeat (first | refine blk_drewN ?_ _ | refine blk_drew ?_ | refine blk_alloc ?_ _)); exact BK498.out))⟩; have n9_ : Aside0 (Below w.heap.size w w83) := ⟨(by rw [hw]; exact (by repeat (first | (with_reducible first | exact HB.out | apply below_alloc | apply pw_below_drewN | apply below_drew1 | refine below_set ?_ GE473.out | refine below_set ?_ GE488.out | refine below_set ?_ GE498.out) | exact HB.out)))⟩; clear hw; clear HO480; clear HO483; clear HO486; clear HO491; clear HO494; clear HO497; clear BK473; clear BK488; clear BK498; clear HB; have HO480 := n0_; have HO483 := n1_; have HO486 := n2_; have HO491 := n3_; have HO494 := n4_; have HO497 := n5_; have BK473 := n6_; have BK488 := n7_; have BK498 := n8_; have HB := n9_; clear n0_ n1_ n2_ n3_ n4_ n5_ n6_ n7_ n8_ n9_; have hcz84_0 : w83.cell? ⟨gb498, 0, none⟩ = some (.slice Ao77 t489.length co77) := (blk_cell BK498.out 0).trans rfl; have hcz84_1 : w83.cell? ⟨gb498, 1, none⟩ = some (.slice Ao81 t492.length co81) := (blk_cell BK498.out 1).trans rfl; have hcz84_2 : w83.cell? ⟨gb498, 2, none⟩ = some (.slice Ao82 t495.length co82) := (blk_cell BK498.out 2).trans rfl; have hfz84_0 := blk_frozen BK498.out 0; have hfz84_1 := blk_frozen BK498.out 1; have hfz84_2 := blk_frozen BK498.out 2) | ((with_reducible refine gate_callee (f := 25) rfl ?_); refine goesL_ (some 55) rfl rfl Tryd.func25 (by kernel_rfl) rfl #[.agg #[.slice Ao77 t489.length co77, .slice Ao81 t492.length co81, .slice Ao82 t495.length co82], .int .i64 a1, .int .i64 a2] rfl (by (try simp only [List.map_toArray, List.map_cons, List.map_nil]); first | done | rfl | (simp only [List.length_drop, List.length_take]; rfl)) ?_; (with_reducible refine (signal_Set.calls kj3 (fun k_ => (k_ ≠ gb473 ∧ (k_ ≠ gb488 ∧ k_ ≠ gb498))) _ _ t489 (fun k_ => (k_ ≠ gb473 ∧ (k_ ≠ gb488 ∧ k_ ≠ gb498))) _ _ t492 (fun k_ => (k_ ≠ gb473 ∧ (k_ ≠ gb488 ∧ k_ ≠ gb498))) _ _ t495 a1 a2 t499 t502 t505 t508 _ ?side1 ?side2 ?side3 A63.out).mono ?_); (case side1 => exact HO491.out); (case side2 => exact HO494.out); (case side3 => exact HO497.out); rintro e w85 ⟨v500, v503, v506, rfl, ho0, ho1, ho2, hb⟩; refine ⟨_, rfl, ?_⟩; have n0_ := Zk (V_below (by (with_reducible repeat (first | apply V_alloc | apply V_drewN | apply V_drew)); exact HO480.out) hb); have n1_ := Zk (V_below (by (with_reducible repeat (first | apply V_alloc | apply V_drewN | apply V_drew)); exact HO483.out) hb); have n2_ := Zk (V_below (by (with_reducible repeat (first | apply V_alloc | apply V_drewN | apply V_drew)); exact HO486.out) hb); have n3_ := Zk (V_below (by (with_reducible repeat (first | apply V_alloc | apply V_drewN | apply V_drew)); exact HO491.out) hb); have n4_ := Zk (V_below (by (with_reducible repeat (first | apply V_alloc | apply V_drewN | apply V_drew)); exact HO494.out) hb); have n5_ := Zk (V_below (by (with_reducible repeat (first | apply V_alloc | apply V_drewN | apply V_drew)); exact HO497.out) hb); have n6_ := Zk (V_lower (V_mono (ok' := fun k_ => k_ ≠ gb473 ∧ k_ ≠ gb488 ∧ k_ ≠ gb498) ho0 (fun k_ hk_ => ⟨Or.elim hk_ (fun hs_ => Or.elim hs_ (fun hs_ => hs_.1) (fun hs_ => Or.elim hs_ (fun hs_ => hs_.1) (fun hs_ => hs_.1))) (fun hn_ => (Kd.freshB (g := gb473) (o := .cells #[.slice A0_0 l0_0.length c0_0, .slice A0_1 l0_1.length c0_1, .slice A0_2 l0_2.length c0_2] 30 (0, 0)) (by (with_reducible repeat (first | refine blk_drewN ?_ _ | refine blk_drew ?_ | refine blk_alloc ?_ _)); exact BK473.out) k_ hn_)), Or.elim hk_ (fun hs_ => Or.elim hs_ (fun hs_ => hs_.2.1) (fun hs_ => Or.elim hs_ (fun hs_ => hs_.2.1) (fun hs_ => hs_.2.1))) (fun hn_ => (Kd.freshB (g := gb488) (o := .cells #[.slice Ao68 t478.length co68, .slice Ao71 t481.length co71, .slice Ao72 t484.length co72] 30 (0, 0)) (by (with_reducible repeat (first | refine blk_drewN ?_ _ | refine blk_drew ?_ | refine blk_alloc ?_ _)); exact BK488.out) k_ hn_)), Or.elim hk_ (fun hs_ => Or.elim hs_ (fun hs_ => hs_.2.2) (fun hs_ => Or.elim hs_ (fun hs_ => hs_.2.2) (fun hs_ => hs_.2.2))) (fun hn_ => (Kd.freshB (g := gb498) (o := .cells #[.slice Ao77 t489.length co77, .slice Ao81 t492.length co81, .slice Ao82 t495.length co82] 30 (0, 0)) (by (with_reducible repeat (first | refine blk_drewN ?_ _ | refine blk_drew ?_ | refine blk_alloc ?_ _)); exact BK498.out) k_ hn_))⟩)) (below_size (by repeat (first | (with_reducible first | exact HB.out | apply below_alloc | apply pw_below_drewN | apply below_drew1 | refine below_set ?_ GE473.out | refine below_set ?_ GE488.out | refine below_set ?_ GE498.out) | exact HB.out)))); have n7_ := Zk (V_lower (V_mono (ok' := fun k_ => k_ ≠ gb473 ∧ k_ ≠ gb488 ∧ k_ ≠ gb498) ho1 (fun k_ hk_ => ⟨Or.elim hk_ (fun hs_ => Or.elim hs_ (fun hs_ => hs_.1) (fun hs_ => Or.elim hs_ (fun hs_ => hs_.1) (fun hs_ => hs_.1))) (fun hn_ => (Kd.freshB (g := gb473) (o := .cells #[.slice A0_0 l0_0.length c0_0, .slice A0_1 l0_1.length c0_1, .slice A0_2 l0_2.length c0_2] 30 (0, 0)) (by (with_reducible repeat (first | refine blk_drewN ?_ _ | refine blk_drew ?_ | refine blk_alloc ?_ _)); exact BK473.out) k_ hn_)), Or.elim hk_ (fun hs_ => Or.elim hs_ (fun hs_ => hs_.2.1) (fun hs_ => Or.elim hs_ (fun hs_ => hs_.2.1) (fun hs_ => hs_.2.1))) (fun hn_ => (Kd.freshB (g := gb488) (o := .cells #[.slice Ao68 t478.length co68, .slice Ao71 t481.length co71, .slice Ao72 t484.length co72] 30 (0, 0)) (by (with_reducible repeat (first | refine blk_drewN ?_ _ | refine blk_drew ?_ | refine blk_alloc ?_ _)); exact BK488.out) k_ hn_)), Or.elim hk_ (fun hs_ => Or.elim hs_ (fun hs_ => hs_.2.2) (fun hs_ => Or.elim hs_ (fun hs_ => hs_.2.2) (fun hs_ => hs_.2.2))) (fun hn_ => (Kd.freshB (g := gb498) (o := .cells #[.slice Ao77 t489.length co77, .slice Ao81 t492.length co81, .slice Ao82 t495.length co82] 30 (0, 0)) (by (with_reducible repeat (first | refine blk_drewN ?_ _ | refine blk_drew ?_ | refine blk_alloc ?_ _)); exact BK498.out) k_ hn_))⟩)) (below_size (by repeat (first | (with_reducible first | exact HB.out | apply below_alloc | apply pw_below_drewN | apply below_drew1 | refine below_set ?_ GE473.out | refine below_set ?_ GE488.out | refine below_set ?_ GE498.out) | exact HB.out)))); have n8_ := Zk (V_lower (V_mono (ok' := fun k_ => k_ ≠ gb473 ∧ k_ ≠ gb488 ∧ k_ ≠ gb498) ho2 (fun k_ hk_ => ⟨Or.elim hk_ (fun hs_ => Or.elim hs_ (fun hs_ => hs_.1) (fun hs_ => Or.elim hs_ (fun hs_ => hs_.1) (fun hs_ => hs_.1))) (fun hn_ => (Kd.freshB (g := gb473) (o := .cells #[.slice A0_0 l0_0.length c0_0, .slice A0_1 l0_1.length c0_1, .slice A0_2 l0_2.length c0_2] 30 (0, 0)) (by (with_reducible repeat (first | refine blk_drewN ?_ _ | refine blk_drew ?_ | refine blk_alloc ?_ _)); exact BK473.out) k_ hn_)), Or.elim hk_ (fun hs_ => Or.elim hs_ (fun hs_ => hs_.2.1) (fun hs_ => Or.elim hs_ (fun hs_ => hs_.2.1) (fun hs_ => hs_.2.1))) (fun hn_ => (Kd.freshB (g := gb488) (o := .cells #[.slice Ao68 t478.length co68, .slice Ao71 t481.length co71, .slice Ao72 t484.length co72] 30 (0, 0)) (by (with_reducible repeat (first | refine blk_drewN ?_ _ | refine blk_drew ?_ | refine blk_alloc ?_ _)); exact BK488.out) k_ hn_)), Or.elim hk_ (fun hs_ => Or.elim hs_ (fun hs_ => hs_.2.2) (fun hs_ => Or.elim hs_ (fun hs_ => hs_.2.2) (fun hs_ => hs_.2.2))) (fun hn_ => (Kd.freshB (g := gb498) (o := .cells #[.slice Ao77 t489.length co77, .slice Ao81 t492.length co81, .slice Ao82 t495.length co82] 30 (0, 0)) (by (with_reducible repeat (first | refine blk_drewN ?_ _ | refine blk_drew ?_ | refine blk_alloc ?_ _)); exact BK498.out) k_ hn_))⟩)) (below_size (by repeat (first | (with_reducible first | exact HB.out | apply below_alloc | apply pw_below_drewN | apply below_drew1 | refine below_set ?_ GE473.out | refine below_set ?_ GE488.out | refine below_set ?_ GE498.out) | exact HB.out)))); have n9_ := Zk (blk_below (g := gb473) (o := .cells #[.slice A0_0 l0_0.length c0_0, .slice A0_1 l0_1.length c0_1, .slice A0_2 l0_2.length c0_2] 30 (0, 0)) (by (with_reducible repeat (first | refine blk_drewN ?_ _ | refine blk_drew ?_ | refine blk_alloc ?_ _)); exact BK473.out) hb); have n10_ := Zk (blk_below (g := gb488) (o := .cells #[.slice Ao68 t478.length co68, .slice Ao71 t481.length co71, .slice Ao72 t484.length co72] 30 (0, 0)) (by (with_reducible repeat (first | refine blk_drewN ?_ _ | refine blk_drew ?_ | refine blk_alloc ?_ _)); exact BK488.out) hb); have n11_ := Zk (blk_below (g := gb498) (o := .cells #[.slice Ao77 t489.length co77, .slice Ao81 t492.length co81, .slice Ao82 t495.length co82] 30 (0, 0)) (by (with_reducible repeat (first | refine blk_drewN ?_ _ | refine blk_drew ?_ | refine blk_alloc ?_ _)); exact BK498.out) hb); have n12_ := Zk (below_step (by repeat (first | (with_reducible first | exact HB.out | apply below_alloc | apply pw_below_drewN | apply below_drew1 | refine below_set ?_ GE473.out | refine below_set ?_ GE488.out | refine below_set ?_ GE498.out) | exact HB.out)) hb); clear HO480; clear HO483; clear HO486; clear HO491; clear HO494; clear HO497; clear BK473; clear BK488; clear BK498; clear HB; have HO480 := n0_; have HO483 := n1_; have HO486 := n2_; have HO491 := n3_; have HO494 := n4_; have HO497 := n5_; have HO501 := n6_; have HO504 := n7_; have HO507 := n8_; have BK473 := n9_; have BK488 := n10_; have BK498 := n11_; have HB := n12_; clear n0_ n1_ n2_ n3_ n4_ n5_ n6_ n7_ n8_ n9_ n10_ n11_ n12_; (try clear hb); (try clear hb2); (try clear hk); (try clear hi); (try clear ho0); (try clear ho1); (try clear ho2)) | ((with_reducible refine gate_dst (N := 10) rfl ?_); refine box_event ?hg (N := 10) ?hd (cs := #[.slice none 0 0, .slice none 0 0, .slice none 0 0]) (t := 30) ?hr ?_; (case hd => rfl); (case hg => rfl); (case hr => first | (go_simp; done) | (go_simp; rfl)); intro gb509 hg w86 hbox hb; have n0_ := Zk (V_below (V_elderB (by (with_reducible repeat (first | apply V_alloc | apply V_drewN | apply V_drew)); exact HO480.out) gb509 (Nat.le_of_eq hg.symm)) hb); have n1_ := Zk (V_below (V_elderB (by (with_reducible repeat (first | apply V_alloc | apply V_drewN | apply V_drew)); exact HO483.out) gb509 (Nat.le_of_eq hg.symm)) hb); have n2_ := Zk (V_below (V_elderB (by (with_reducible repeat (first | apply V_alloc | apply V_drewN | apply V_drew)); exact HO486.out) gb509 (Nat.le_of_eq hg.symm)) hb); have n3_ := Zk (V_below (V_elderB (by (with_reducible repeat (first | apply V_alloc | apply V_drewN | apply V_drew)); exact HO491.out) gb509 (Nat.le_of_eq hg.symm)) hb); have n4_ := Zk (V_below (V_elderB (by (with_reducible repeat (first | apply V_alloc | apply V_drewN | apply V_drew)); exact HO494.out) gb509 (Nat.le_of_eq hg.symm)) hb); have n5_ := Zk (V_below (V_elderB (by (with_reducible repeat (first | apply V_alloc | apply V_drewN | apply V_drew)); exact HO497.out) gb509 (Nat.le_of_eq hg.symm)) hb); have n6_ := Zk (V_below (V_elderB (by (with_reducible repeat (first | apply V_alloc | apply V_drewN | apply V_drew)); exact HO501.out) gb509 (Nat.le_of_eq hg.symm)) hb); have n7_ := Zk (V_below (V_elderB (by (with_reducible repeat (first | apply V_alloc | apply V_drewN | apply V_drew)); exact HO504.out) gb509 (Nat.le_of_eq hg.symm)) hb); have n8_ := Zk (V_below (V_elderB (by (with_reducible repeat (first | apply V_alloc | apply V_drewN | apply V_drew)); exact HO507.out) gb509 (Nat.le_of_eq hg.symm)) hb); have n9_ := Zk (blk_below (g := gb473) (o := .cells #[.slice A0_0 l0_0.length c0_0, .slice A0_1 l0_1.length c0_1, .slice A0_2 l0_2.length c0_2] 30 (0, 0)) (by (with_reducible repeat (first | refine blk_drewN ?_ _ | refine blk_drew ?_ | refine blk_alloc ?_ _)); exact BK473.out) hb); have n10_ := Zk (blk_below (g := gb488) (o := .cells #[.slice Ao68 t478.length co68, .slice Ao71 t481.length co71, .slice Ao72 t484.length co72] 30 (0, 0)) (by (with_reducible repeat (first | refine blk_drewN ?_ _ | refine blk_drew ?_ | refine blk_alloc ?_ _)); exact BK488.out) hb); have n11_ := Zk (blk_below (g := gb498) (o := .cells #[.slice Ao77 t489.length co77, .slice Ao81 t492.length co81, .slice Ao82 t495.length co82] 30 (0, 0)) (by (with_reducible repeat (first | refine blk_drewN ?_ _ | refine blk_drew ?_ | refine blk_alloc ?_ _)); exact BK498.out) hb); have n12_ := Zk (below_step (by repeat (first | (with_reducible first | exact HB.out | apply below_alloc | apply pw_below_drewN | apply below_drew1 | refine below_set ?_ GE473.out | refine below_set ?_ GE488.out | refine below_set ?_ GE498.out) | exact HB.out)) hb); have n13_ := Zk (hbox); have n14_ := Zk ((by rw [hg]; exact (below_size (by repeat (first | (with_reducible first | exact HB.out | apply below_alloc | apply pw_below_drewN | apply below_drew1 | refine below_set ?_ GE473.out | refine below_set ?_ GE488.out | refine below_set ?_ GE498.out) | exact HB.out))) : w.heap.size ≤ gb509)); have n15_ := Zk ((by rw [hg]; exact (below_size (by repeat (first | (with_reducible first | exact HB.out | apply below_alloc | apply pw_below_drewN | apply below_drew1 | refine below_set ?_ GE473.out | refine below_set ?_ GE488.out | refine below_set ?_ GE498.out) | exact HB.out))) : w.heap.size ≤ gb509)); have n16_ := Zk ((by rw [hg]; exact Nat.ne_of_lt (blk_lt (g := gb473) (o := .cells #[.slice A0_0 l0_0.length c0_0, .slice A0_1 l0_1.length c0_1, .slice A0_2 l0_2.length c0_2] 30 (0, 0)) (by (with_reducible repeat (first | refine blk_drewN ?_ _ | refine blk_drew ?_ | refine blk_alloc ?_ _)); exact BK473.out)) : gb473 ≠ gb509)); have n17_ := Zk ((by rw [hg]; exact Nat.ne_of_gt (blk_lt (g := gb473) (o := .cells #[.slice A0_0 l0_0.length c0_0, .slice A0_1 l0_1.length c0_1, .slice A0_2 l0_2.length c0_2] 30 (0, 0)) (by (with_reducible repeat (first | refine blk_drewN ?_ _ | refine blk_drew ?_ | refine blk_alloc ?_ _)); exact BK473.out)) : gb509 ≠ gb473)); have n18_ := Zk ((by rw [hg]; exact Nat.ne_of_lt (blk_lt (g := gb488) (o := .cells #[.slice Ao68 t478.length co68, .slice Ao71 t481.length co71, .slice Ao72 t484.length co72] 30 (0, 0)) (by (with_reducible repeat (first | refine blk_drewN ?_ _ | refine blk_drew ?_ | refine blk_alloc ?_ _)); exact BK488.out)) : gb488 ≠ gb509)); have n19_ := Zk ((by rw [hg]; exact Nat.ne_of_gt (blk_lt (g := gb488) (o := .cells #[.slice Ao68 t478.length co68, .slice Ao71 t481.length co71, .slice Ao72 t484.length co72] 30 (0, 0)) (by (with_reducible repeat (first | refine blk_drewN ?_ _ | refine blk_drew ?_ | refine blk_alloc ?_ _)); exact BK488.out)) : gb509 ≠ gb488)); have n20_ := Zk ((by rw [hg]; exact Nat.ne_of_lt (blk_lt (g := gb498) (o := .cells #[.slice Ao77 t489.length co77, .slice Ao81 t492.length co81, .slice Ao82 t495.length co82] 30 (0, 0)) (by (with_reducible repeat (first | refine blk_drewN ?_ _ | refine blk_drew ?_ | refine blk_alloc ?_ _)); exact BK498.out)) : gb498 ≠ gb509)); have n21_ := Zk ((by rw [hg]; exact Nat.ne_of_gt (blk_lt (g := gb498) (o := .cells #[.slice Ao77 t489.length co77, .slice Ao81 t492.length co81, .slice Ao82 t495.length co82] 30 (0, 0)) (by (with_reducible repeat (first | refine blk_drewN ?_ _ | refine blk_drew ?_ | refine blk_alloc ?_ _)); exact BK498.out)) : gb509 ≠ gb498)); clear HO480; clear HO483; clear HO486; clear HO491; clear HO494; clear HO497; clear HO501; clear HO504; clear HO507; clear BK473; clear BK488; clear BK498; clear HB; have HO480 := n0_; have HO483 := n1_; have HO486 := n2_; have HO491 := n3_; have HO494 := n4_; have HO497 := n5_; have HO501 := n6_; have HO504 := n7_; have HO507 := n8_; have BK473 := n9_; have BK488 := n10_; have BK498 := n11_; have HB := n12_; have BK509 := n13_; have GW509 := n14_; have GE509 := n15_; have NB473_509 := n16_; have NB509_473 := n17_; have NB488_509 := n18_; have NB509_488 := n19_; have NB498_509 := n20_; have NB509_498 := n21_; clear n0_ n1_ n2_ n3_ n4_ n5_ n6_ n7_ n8_ n9_ n10_ n11_ n12_ n13_ n14_ n15_ n16_ n17_ n18_ n19_ n20_ n21_; clear hb hbox hg; obtain ⟨Ao87, co87, eo87⟩ := V_slice HO501.out; subst eo87; have hnb88 := NB509_473.out; have hnc88 := NB473_509.out; have hnb89 := NB509_488.out; have hnc89 := NB488_509.out; have hnb90 := NB509_498.out; have hnc90 := NB498_509.out; have hcz91_0 : w86.cell? ⟨gb509, 0, none⟩ = some (.slice none 0 0) := (blk_cell BK509.out 0).trans rfl; have hcz91_1 : w86.cell? ⟨gb509, 1, none⟩ = some (.slice none 0 0) := (blk_cell BK509.out 1).trans rfl; have hcz91_2 : w86.cell? ⟨gb509, 2, none⟩ = some (.slice none 0 0) := (blk_cell BK509.out 2).trans rfl; have hfz91_0 := blk_frozen BK509.out 0; have hfz91_1 := blk_frozen BK509.out 1; have hfz91_2 := blk_frozen BK509.out 2; obtain ⟨Ao92, co92, eo92⟩ := V_slice HO504.out; subst eo92; obtain ⟨Ao93, co93, eo93⟩ := V_slice HO507.out; subst eo93) | ((with_reducible refine gate_store (t := 30) (p := 10) rfl ?_); refine store_event (t := 30) (p := 10) (v := ?vo_w94) (w1 := (((w86.setCell ⟨gb509, 0, none⟩ (.slice Ao87 t499.length co87)).setCell ⟨gb509, 1, none⟩ (.slice Ao92 t502.length co92)).setCell ⟨gb509, 2, none⟩ (.slice Ao93 t505.length co93))) ?hg ?ho ?hn ?hr ?_; (case ho => rfl); (case hg => rfl); (case hn => rfl); (case hr => first | (go_simp; done) | (go_simp; rfl)); intro w94 hw; have n0_ : Aside0 (Kd.V (Kd.int .i64) 3 w94 w.heap.size (fun k_ => k_ ≠ gb473 ∧ k_ ≠ gb488 ∧ k_ ≠ gb498 ∧ k_ ≠ gb509) (.slice Ao68 t478.length co68) t478) := ⟨(by rw [hw]; exact (by (with_reducible repeat (first | apply V_alloc | apply V_drewN | apply V_drew)); exact V_mono (V_far (p := ⟨gb509, 2, none⟩) (V_far (p := ⟨gb509, 1, none⟩) (V_far (p := ⟨gb509, 0, none⟩) (V_mono HO480.out (fun k_ hk => (⟨hk, hk.2⟩ : _ ∧ k_ ≠ gb509))) (fun _ hk => hk.2) (.slice Ao87 t499.length co87)) (fun _ hk => hk.2) (.slice Ao92 t502.length co92)) (fun _ hk => hk.2) (.slice Ao93 t505.length co93)) (fun _ hk => ⟨hk.1.1.1, ⟨hk.1.1.2.1, ⟨hk.1.1.2.2, hk.1.2⟩⟩⟩)))⟩; have n1_ : Aside0 (Kd.V (Kd.int .i64) 3 w94 w.heap.size (fun k_ => k_ ≠ gb473 ∧ k_ ≠ gb488 ∧ k_ ≠ gb498 ∧ k_ ≠ gb509) (.slice Ao71 t481.length co71) t481) := ⟨(by rw [hw]; exact (by (with_reducible repeat (first | apply V_alloc | apply V_drewN | apply V_drew)); exact V_mono (V_far (p := ⟨gb509, 2, none⟩) (V_far (p := ⟨gb509, 1, none⟩) (V_far (p := ⟨gb509, 0, none⟩) (V_mono HO483.out (fun k_ hk => (⟨hk, hk.2⟩ : _ ∧ k_ ≠ gb509))) (fun _ hk => hk.2) (.slice Ao87 t499.length co87)) (fun _ hk => hk.2) (.slice Ao92 t502.length co92)) (fun _ hk => hk.2) (.slice Ao93 t505.length co93)) (fun _ hk => ⟨hk.1.1.1, ⟨hk.1.1.2.1, ⟨hk.1.1.2.2, hk.1.2⟩⟩⟩)))⟩; have n2_ : Aside0 (Kd.V (Kd.int .i64) 3 w94 w.heap.size (fun k_ => k_ ≠ gb473 ∧ k_ ≠ gb488 ∧ k_ ≠ gb498 ∧ k_ ≠ gb509) (.slice Ao72 t484.length co72) t484) := ⟨(by rw [hw]; exact (by (with_reducible repeat (first | apply V_alloc | apply V_drewN | apply V_drew)); exact V_mono (V_far (p := ⟨gb509, 2, none⟩) (V_far (p := ⟨gb509, 1, none⟩) (V_far (p := ⟨gb509, 0, none⟩) (V_mono HO486.out (fun k_ hk => (⟨hk, hk.2⟩ : _ ∧ k_ ≠ gb509))) (fun _ hk => hk.2) (.slice Ao87 t499.length co87)) (fun _ hk => hk.2) (.slice Ao92 t502.length co92)) (fun _ hk => hk.2) (.slice Ao93 t505.length co93)) (fun _ hk => ⟨hk.1.1.1, ⟨hk.1.1.2.1, ⟨hk.1.1.2.2, hk.1.2⟩⟩⟩)))⟩; have n3_ : Aside0 (Kd.V (Kd.int .i64) 3 w94 w.heap.size (fun k_ => k_ ≠ gb473 ∧ k_ ≠ gb488 ∧ k_ ≠ gb498 ∧ k_ ≠ gb509) (.slice Ao77 t489.length co77) t489) := ⟨(by rw [hw]; exact (by (with_reducible repeat (first | apply V_alloc | apply V_drewN | apply V_drew)); exact V_mono (V_far (p := ⟨gb509, 2, none⟩) (V_far (p := ⟨gb509, 1, none⟩) (V_far (p := ⟨gb509, 0, none⟩) (V_mono HO491.out (fun k_ hk => (⟨hk, hk.2⟩ : _ ∧ k_ ≠ gb509))) (fun _ hk => hk.2) (.slice Ao87 t499.length co87)) (fun _ hk => hk.2) (.slice Ao92 t502.length co92)) (fun _ hk => hk.2) (.slice Ao93 t505.length co93)) (fun _ hk => ⟨hk.1.1.1, ⟨hk.1.1.2.1, ⟨hk.1.1.2.2, hk.1.2⟩⟩⟩)))⟩; have n4_ : Aside0 (Kd.V (Kd.int .i64) 3 w94 w.heap.size (fun k_ => k_ ≠ gb473 ∧ k_ ≠ gb488 ∧ k_ ≠ gb498 ∧ k_ ≠ gb509) (.slice Ao81 t492.length co81) t492) := ⟨(by rw [hw]; exact (by (with_reducible repeat (first | apply V_alloc | apply V_drewN | apply V_drew)); exact V_mono (V_far (p := ⟨gb509, 2, none⟩) (V_far (p := ⟨gb509, 1, none⟩) (V_far (p := ⟨gb509, 0, none⟩) (V_mono HO494.out (fun k_ hk => (⟨hk, hk.2⟩ : _ ∧ k_ ≠ gb509))) (fun _ hk => hk.2) (.slice Ao87 t499.length co87)) (fun _ hk => hk.2) (.slice Ao92 t502.length co92)) (fun _ hk => hk.2) (.slice Ao93 t505.length co93)) (fun _ hk => ⟨hk.1.1.1, ⟨hk.1.1.2.1, ⟨hk.1.1.2.2, hk.1.2⟩⟩⟩)))⟩; have n5_ : Aside0 (Kd.V (Kd.int .i64) 3 w94 w.heap.size (fun k_ => k_ ≠ gb473 ∧ k_ ≠ gb488 ∧ k_ ≠ gb498 ∧ k_ ≠ gb509) (.slice Ao82 t495.length co82) t495) := ⟨(by rw [hw]; exact (by (with_reducible repeat (first | apply V_alloc | apply V_drewN | apply V_drew)); exact V_mono (V_far (p := ⟨gb509, 2, none⟩) (V_far (p := ⟨gb509, 1, none⟩) (V_far (p := ⟨gb509, 0, none⟩) (V_mono HO497.out (fun k_ hk => (⟨hk, hk.2⟩ : _ ∧ k_ ≠ gb509))) (fun _ hk => hk.2) (.slice Ao87 t499.length co87)) (fun _ hk => hk.2) (.slice Ao92 t502.length co92)) (fun _ hk => hk.2) (.slice Ao93 t505.length co93)) (fun _ hk => ⟨hk.1.1.1, ⟨hk.1.1.2.1, ⟨hk.1.1.2.2, hk.1.2⟩⟩⟩)))⟩; have n6_ : Aside0 (Kd.V (Kd.int .i64) 3 w94 w.heap.size (fun k_ => k_ ≠ gb473 ∧ k_ ≠ gb488 ∧ k_ ≠ gb498 ∧ k_ ≠ gb509) (.slice Ao87 t499.length co87) t499) := ⟨(by rw [hw]; exact (by (with_reducible repeat (first | apply V_alloc | apply V_drewN | apply V_drew)); exact V_mono (V_far (p := ⟨gb509, 2, none⟩) (V_far (p := ⟨gb509, 1, none⟩) (V_far (p := ⟨gb509, 0, none⟩) (V_mono HO501.out (fun k_ hk => (⟨hk, hk.2⟩ : _ ∧ k_ ≠ gb509))) (fun _ hk => hk.2) (.slice Ao87 t499.length co87)) (fun _ hk => hk.2) (.slice Ao92 t502.length co92)) (fun _ hk => hk.2) (.slice Ao93 t505.length co93)) (fun _ hk => ⟨hk.1.1.1, ⟨hk.1.1.2.1, ⟨hk.1.1.2.2, hk.1.2⟩⟩⟩)))⟩; have n7_ : Aside0 (Kd.V (Kd.int .i64) 3 w94 w.heap.size (fun k_ => k_ ≠ gb473 ∧ k_ ≠ gb488 ∧ k_ ≠ gb498 ∧ k_ ≠ gb509) (.slice Ao92 t502.length co92) t502) := ⟨(by rw [hw]; exact (by (with_reducible repeat (first | apply V_alloc | apply V_drewN | apply V_drew)); exact V_mono (V_far (p := ⟨gb509, 2, none⟩) (V_far (p := ⟨gb509, 1, none⟩) (V_far (p := ⟨gb509, 0, none⟩) (V_mono HO504.out (fun k_ hk => (⟨hk, hk.2⟩ : _ ∧ k_ ≠ gb509))) (fun _ hk => hk.2) (.slice Ao87 t499.length co87)) (fun _ hk => hk.2) (.slice Ao92 t502.length co92)) (fun _ hk => hk.2) (.slice Ao93 t505.length co93)) (fun _ hk => ⟨hk.1.1.1, ⟨hk.1.1.2.1, ⟨hk.1.1.2.2, hk.1.2⟩⟩⟩)))⟩; have n8_ : Aside0 (Kd.V (Kd.int .i64) 3 w94 w.heap.size (fun k_ => k_ ≠ gb473 ∧ k_ ≠ gb488 ∧ k_ ≠ gb498 ∧ k_ ≠ gb509) (.slice Ao93 t505.length co93) t505) := ⟨(by rw [hw]; exact (by (with_reducible repeat (first | apply V_alloc | apply V_drewN | apply V_drew)); exact V_mono (V_far (p := ⟨gb509, 2, none⟩) (V_far (p := ⟨gb509, 1, none⟩) (V_far (p := ⟨gb509, 0, none⟩) (V_mono HO507.out (fun k_ hk => (⟨hk, hk.2⟩ : _ ∧ k_ ≠ gb509))) (fun _ hk => hk.2) (.slice Ao87 t499.length co87)) (fun _ hk => hk.2) (.slice Ao92 t502.length co92)) (fun _ hk => hk.2) (.slice Ao93 t505.length co93)) (fun _ hk => ⟨hk.1.1.1, ⟨hk.1.1.2.1, ⟨hk.1.1.2.2, hk.1.2⟩⟩⟩)))⟩; have n9_ : Aside0 (w94.heap[gb473]? = some (.cells #[.slice A0_0 l0_0.length c0_0, .slice A0_1 l0_1.length c0_1, .slice A0_2 l0_2.length c0_2] 30 (0, 0))) := ⟨(by rw [hw]; exact (by (with_reducible repeat (first | refine blk_drewN ?_ _ | refine blk_drew ?_ | refine blk_alloc ?_ _)); refine blk_far ?_ NB473_509.out _; (with_reducible repeat (first | refine blk_drewN ?_ _ | refine blk_drew ?_ | refine blk_alloc ?_ _)); refine blk_far ?_ NB473_509.out _; (with_reducible repeat (first | refine blk_drewN ?_ _ | refine blk_drew ?_ | refine blk_alloc ?_ _)); refine blk_far ?_ NB473_509.out _; (with_reducible repeat (first | refine blk_drewN ?_ _ | refine blk_drew ?_ | refine blk_alloc ?_ _)); exact BK473.out))⟩; have n10_ : Aside0 (w94.heap[gb488]? = some (.cells #[.slice Ao68 t478.length co68, .slice Ao71 t481.length co71, .slice Ao72 t484.length co72] 30 (0, 0))) := ⟨(by rw [hw]; exact (by (with_reducible repeat (first | refine blk_drewN ?_ _ | refine blk_drew ?_ | refine blk_alloc ?_ _)); refine blk_far ?_ NB488_509.out _; (with_reducible repeat (first | refine blk_drewN ?_ _ | refine blk_drew ?_ | refine blk_alloc ?_ _)); refine blk_far ?_ NB488_509.out _; (with_reducible repeat (first | refine blk_drewN ?_ _ | refine blk_drew ?_ | refine blk_alloc ?_ _)); refine blk_far ?_ NB488_509.out _; (with_reducible repeat (first | refine blk_drewN ?_ _ | refine blk_drew ?_ | refine blk_alloc ?_ _)); exact BK488.out))⟩; have n11_ : Aside0 (w94.heap[gb498]? = some (.cells #[.slice Ao77 t489.length co77, .slice Ao81 t492.length co81, .slice Ao82 t495.length co82] 30 (0, 0))) := ⟨(by rw [hw]; exact (by (with_reducible repeat (first | refine blk_drewN ?_ _ | refine blk_drew ?_ | refine blk_alloc ?_ _)); refine blk_far ?_ NB498_509.out _; (with_reducible repeat (first | refine blk_drewN ?_ _ | refine blk_drew ?_ | refine blk_alloc ?_ _)); refine blk_far ?_ NB498_509.out _; (with_reducible repeat (first | refine blk_drewN ?_ _ | refine blk_drew ?_ | refine blk_alloc ?_ _)); refine blk_far ?_ NB498_509.out _; (with_reducible repeat (first | refine blk_drewN ?_ _ | refine blk_drew ?_ | refine blk_alloc ?_ _)); exact BK498.out))⟩; have n12_ : Aside0 (w94.heap[gb509]? = some (.cells #[.slice Ao87 t499.length co87, .slice Ao92 t502.length co92, .slice Ao93 t505.length co93] 30 (0, 0))) := ⟨(by rw [hw]; exact (by (with_reducible repeat (first | refine blk_drewN ?_ _ | refine blk_drew ?_ | refine blk_alloc ?_ _)); refine blk_put (cs := #[.slice Ao87 t499.length co87, .slice Ao92 t502.length co92, .slice none 0 0]) ?_ 2 _ rfl; (with_reducible repeat (first | refine blk_drewN ?_ _ | refine blk_drew ?_ | refine blk_alloc ?_ _)); refine blk_put (cs := #[.slice Ao87 t499.length co87, .slice none 0 0, .slice none 0 0]) ?_ 1 _ rfl; (with_reducible repeat (first | refine blk_drewN ?_ _ | refine blk_drew ?_ | refine blk_alloc ?_ _)); refine blk_put (cs := #[.slice none 0 0, .slice none 0 0, .slice none 0 0]) ?_ 0 _ rfl; (with_reducible repeat (first | refine blk_drewN ?_ _ | refine blk_drew ?_ | refine blk_alloc ?_ _)); exact BK509.out))⟩; have n13_ : Aside0 (Below w.heap.size w w94) := ⟨(by rw [hw]; exact (by repeat (first | (with_reducible first | exact HB.out | apply below_alloc | apply pw_below_drewN | apply below_drew1 | refine below_set ?_ GE473.out | refine below_set ?_ GE488.out | refine below_set ?_ GE498.out | refine below_set ?_ GE509.out) | exact HB.out)))⟩; clear hw; clear HO480; clear HO483; clear HO486; clear HO491; clear HO494; clear HO497; clear HO501; clear HO504; clear HO507; clear BK473; clear BK488; clear BK498; clear BK509; clear HB; have HO480 := n0_; have HO483 := n1_; have HO486 := n2_; have HO491 := n3_; have HO494 := n4_; have HO497 := n5_; have HO501 := n6_; have HO504 := n7_; have HO507 := n8_; have BK473 := n9_; have BK488 := n10_; have BK498 := n11_; have BK509 := n12_; have HB := n13_; clear n0_ n1_ n2_ n3_ n4_ n5_ n6_ n7_ n8_ n9_ n10_ n11_ n12_ n13_))
    (try simp only [Act.put, List.setIfInBounds_toArray, List.set_cons_zero, List.set_cons_succ])
    go_cut [82] (fun v82 wc => ∃ (kq : Nat) (x82_63 : Bool), v82 = .bool x82_63 ∧ Aside0 (jobshelllaw25_SignalIgnored.j1 kq a1 a2 x82_63 t499 t502 t505 = some r) ∧ Aside0 (kq ≤ kj3) ∧ Aside0 (Kd.V (Kd.int .i64) 3 wc w.heap.size (fun k_ => k_ ≠ gb473 ∧ k_ ≠ gb488 ∧ k_ ≠ gb498 ∧ k_ ≠ gb509) (.slice Ao68 t478.length co68) t478) ∧ Aside0 (Kd.V (Kd.int .i64) 3 wc w.heap.size (fun k_ => k_ ≠ gb473 ∧ k_ ≠ gb488 ∧ k_ ≠ gb498 ∧ k_ ≠ gb509) (.slice Ao71 t481.length co71) t481) ∧ Aside0 (Kd.V (Kd.int .i64) 3 wc w.heap.size (fun k_ => k_ ≠ gb473 ∧ k_ ≠ gb488 ∧ k_ ≠ gb498 ∧ k_ ≠ gb509) (.slice Ao72 t484.length co72) t484) ∧ Aside0 (Kd.V (Kd.int .i64) 3 wc w.heap.size (fun k_ => k_ ≠ gb473 ∧ k_ ≠ gb488 ∧ k_ ≠ gb498 ∧ k_ ≠ gb509) (.slice Ao77 t489.length co77) t489) ∧ Aside0 (Kd.V (Kd.int .i64) 3 wc w.heap.size (fun k_ => k_ ≠ gb473 ∧ k_ ≠ gb488 ∧ k_ ≠ gb498 ∧ k_ ≠ gb509) (.slice Ao81 t492.length co81) t492) ∧ Aside0 (Kd.V (Kd.int .i64) 3 wc w.heap.size (fun k_ => k_ ≠ gb473 ∧ k_ ≠ gb488 ∧ k_ ≠ gb498 ∧ k_ ≠ gb509) (.slice Ao82 t495.length co82) t495) ∧ Aside0 (Kd.V (Kd.int .i64) 3 wc w.heap.size (fun k_ => k_ ≠ gb473 ∧ k_ ≠ gb488 ∧ k_ ≠ gb498 ∧ k_ ≠ gb509) (.slice Ao87 t499.length co87) t499) ∧ Aside0 (Kd.V (Kd.int .i64) 3 wc w.heap.size (fun k_ => k_ ≠ gb473 ∧ k_ ≠ gb488 ∧ k_ ≠ gb498 ∧ k_ ≠ gb509) (.slice Ao92 t502.length co92) t502) ∧ Aside0 (Kd.V (Kd.int .i64) 3 wc w.heap.size (fun k_ => k_ ≠ gb473 ∧ k_ ≠ gb488 ∧ k_ ≠ gb498 ∧ k_ ≠ gb509) (.slice Ao93 t505.length co93) t505) ∧ Aside0 (wc.heap[gb473]? = some (.cells #[(.slice A0_0 l0_0.length c0_0), (.slice A0_1 l0_1.length c0_1), (.slice A0_2 l0_2.length c0_2)] 30 (0, 0))) ∧ Aside0 (wc.heap[gb488]? = some (.cells #[(.slice Ao68 t478.length co68), (.slice Ao71 t481.length co71), (.slice Ao72 t484.length co72)] 30 (0, 0))) ∧ Aside0 (wc.heap[gb498]? = some (.cells #[(.slice Ao77 t489.length co77), (.slice Ao81 t492.length co81), (.slice Ao82 t495.length co82)] 30 (0, 0))) ∧ Aside0 (wc.heap[gb509]? = some (.cells #[(.slice Ao87 t499.length co87), (.slice Ao92 t502.length co92), (.slice Ao93 t505.length co93)] 30 (0, 0))) ∧ Aside0 (Below w.heap.size w wc))
    case first =>
     have H := HC64.out
     clear HC64
     by_cases c95 : t487 = 0
     ·rw [if_pos c95] at H
      have c95b0 : (t487 == 0) = true := beq_iff_eq.mpr c95
      have c95b1 : (t487 != 0) = false := bne_eq_false_iff_eq.mpr c95
      clear c95
      (first | rw [c95b0] | (simp only [i64_w, i32_w]; rw [c95b0]) | skip)
      replace H := Option.bind_eq_some_iff.mp H
      obtain ⟨t510, A960, H⟩ := H
      replace H : (if t510 = true then (jobshelllaw25_SignalIgnored.j1 kj3 a1 a2 true t499 t502 t505) else ((jobshellref25_Has.f kj3 t499 a1).bind fun t511 => (if t511 = true then (jobshelllaw25_SignalIgnored.j1 kj3 a1 a2 true t499 t502 t505) else (if a2 ≥ 0 then (jobshelllaw25_SignalIgnored.j1 kj3 a1 a2 ((t508 == 0) != (decide (a2 ≤ 2))) t499 t502 t505) else (jobshelllaw25_SignalIgnored.j1 kj3 a1 a2 ((t508 == 0) != false) t499 t502 t505))))) = some r := H
      have A96 := Zk A960
      clear A960
      by_cases c97 : t510 = true
      ·subst c97
       have H1 : (jobshelllaw25_SignalIgnored.j1 kj3 a1 a2 true t499 t502 t505) = some r := by rw [if_pos rfl] at H; exact H
       clear H
       have H := H1
       clear H1
       have H' := Zk H
       clear H
       have hnb98 := NB498_473.out
       have hnc98 := NB473_498.out
       have hnb99 := NB498_488.out
       have hnc99 := NB488_498.out
       have hnb100 := NB498_509.out
       have hnc100 := NB509_498.out
       have hcz101_0 : w94.cell? ⟨gb498, 0, none⟩ = some (.slice Ao77 t489.length co77) := (blk_cell BK498.out 0).trans rfl
       have hcz101_1 : w94.cell? ⟨gb498, 1, none⟩ = some (.slice Ao81 t492.length co81) := (blk_cell BK498.out 1).trans rfl
       have hcz101_2 : w94.cell? ⟨gb498, 2, none⟩ = some (.slice Ao82 t495.length co82) := (blk_cell BK498.out 2).trans rfl
       have hfz101_0 := blk_frozen BK498.out 0
       have hfz101_1 := blk_frozen BK498.out 1
       have hfz101_2 := blk_frozen BK498.out 2
       go_wp2_with (first | (go_at_call 24; (with_reducible refine (jobshellref25_Has.calls kj3 _ _ t489 a1 true _ ?side1 ?side2 A96.out).mono ?_); (case side1 => repeat (first | exact (V_reads' HO491.out).2.2 | (with_reducible refine C_alloc ?_ _) | (with_reducible refine C_drewN ?_ _) | (with_reducible refine C_drew ?_))); (case side2 => exact (V_reads' HO491.out).2.1); rintro e w' ⟨rfl, ⟨nd, rfl⟩⟩))
       go_meet
       case rel => exact ⟨_, (true), (by first | rfl | (simp; done) | (simp [*]; done) | (generalize ByteArray.toList _ = l_; cases l_ <;> rfl)), H', ⟨by have := HJ3.out; first | omega | exact Nat.le_refl _⟩, ⟨by (with_reducible repeat (first | apply V_alloc | apply V_drewN | apply V_drew)); exact HO480.out⟩, ⟨by (with_reducible repeat (first | apply V_alloc | apply V_drewN | apply V_drew)); exact HO483.out⟩, ⟨by (with_reducible repeat (first | apply V_alloc | apply V_drewN | apply V_drew)); exact HO486.out⟩, ⟨by (with_reducible repeat (first | apply V_alloc | apply V_drewN | apply V_drew)); exact HO491.out⟩, ⟨by (with_reducible repeat (first | apply V_alloc | apply V_drewN | apply V_drew)); exact HO494.out⟩, ⟨by (with_reducible repeat (first | apply V_alloc | apply V_drewN | apply V_drew)); exact HO497.out⟩, ⟨by (with_reducible repeat (first | apply V_alloc | apply V_drewN | apply V_drew)); exact HO501.out⟩, ⟨by (with_reducible repeat (first | apply V_alloc | apply V_drewN | apply V_drew)); exact HO504.out⟩, ⟨by (with_reducible repeat (first | apply V_alloc | apply V_drewN | apply V_drew)); exact HO507.out⟩, ⟨by (with_reducible repeat (first | refine blk_drewN ?_ _ | refine blk_drew ?_ | refine blk_alloc ?_ _)); exact BK473.out⟩, ⟨by (with_reducible repeat (first | refine blk_drewN ?_ _ | refine blk_drew ?_ | refine blk_alloc ?_ _)); exact BK488.out⟩, ⟨by (with_reducible repeat (first | refine blk_drewN ?_ _ | refine blk_drew ?_ | refine blk_alloc ?_ _)); exact BK498.out⟩, ⟨by (with_reducible repeat (first | refine blk_drewN ?_ _ | refine blk_drew ?_ | refine blk_alloc ?_ _)); exact BK509.out⟩, ⟨by repeat (first | (with_reducible first | exact HB.out | apply below_alloc | apply pw_below_drewN | apply below_drew1 | refine below_set ?_ GE473.out | refine below_set ?_ GE488.out | refine below_set ?_ GE498.out | refine below_set ?_ GE509.out) | exact HB.out)⟩⟩
      ·replace c97 := Bool.eq_false_iff.mpr c97
       subst c97
       have H1 : ((jobshellref25_Has.f kj3 t499 a1).bind fun t511 => (if t511 = true then (jobshelllaw25_SignalIgnored.j1 kj3 a1 a2 true t499 t502 t505) else (if a2 ≥ 0 then (jobshelllaw25_SignalIgnored.j1 kj3 a1 a2 ((t508 == 0) != (decide (a2 ≤ 2))) t499 t502 t505) else (jobshelllaw25_SignalIgnored.j1 kj3 a1 a2 ((t508 == 0) != false) t499 t502 t505)))) = some r := by rw [if_neg (show ¬ (false = true) by decide)] at H; exact H
       clear H
       have H := H1
       clear H1
       replace H := Option.bind_eq_some_iff.mp H
       obtain ⟨t511, A1020, H⟩ := H
       replace H : (if t511 = true then (jobshelllaw25_SignalIgnored.j1 kj3 a1 a2 true t499 t502 t505) else (if a2 ≥ 0 then (jobshelllaw25_SignalIgnored.j1 kj3 a1 a2 ((t508 == 0) != (decide (a2 ≤ 2))) t499 t502 t505) else (jobshelllaw25_SignalIgnored.j1 kj3 a1 a2 ((t508 == 0) != false) t499 t502 t505))) = some r := H
       have A102 := Zk A1020
       clear A1020
       by_cases c103 : t511 = true
       ·subst c103
        have H1 : (jobshelllaw25_SignalIgnored.j1 kj3 a1 a2 true t499 t502 t505) = some r := by rw [if_pos rfl] at H; exact H
        clear H
        have H := H1
        clear H1
        have H' := Zk H
        clear H
        have hnb104 := NB498_473.out
        have hnc104 := NB473_498.out
        have hnb105 := NB498_488.out
        have hnc105 := NB488_498.out
        have hnb106 := NB498_509.out
        have hnc106 := NB509_498.out
        have hcz107_0 : w94.cell? ⟨gb498, 0, none⟩ = some (.slice Ao77 t489.length co77) := (blk_cell BK498.out 0).trans rfl
        have hcz107_1 : w94.cell? ⟨gb498, 1, none⟩ = some (.slice Ao81 t492.length co81) := (blk_cell BK498.out 1).trans rfl
        have hcz107_2 : w94.cell? ⟨gb498, 2, none⟩ = some (.slice Ao82 t495.length co82) := (blk_cell BK498.out 2).trans rfl
        have hfz107_0 := blk_frozen BK498.out 0
        have hfz107_1 := blk_frozen BK498.out 1
        have hfz107_2 := blk_frozen BK498.out 2
        go_wp2_with (first | (go_at_call 24; (with_reducible refine (jobshellref25_Has.calls kj3 _ _ t489 a1 false _ ?side1 ?side2 A96.out).mono ?_); (case side1 => repeat (first | exact (V_reads' HO491.out).2.2 | (with_reducible refine C_alloc ?_ _) | (with_reducible refine C_drewN ?_ _) | (with_reducible refine C_drew ?_))); (case side2 => exact (V_reads' HO491.out).2.1); rintro e w' ⟨rfl, ⟨nd, rfl⟩⟩; have hnb108 := NB509_473.out; have hnc108 := NB473_509.out; have hnb109 := NB509_488.out; have hnc109 := NB488_509.out; have hcz110_0 : w94.cell? ⟨gb509, 0, none⟩ = some (.slice Ao87 t499.length co87) := (blk_cell BK509.out 0).trans rfl; have hcz110_1 : w94.cell? ⟨gb509, 1, none⟩ = some (.slice Ao92 t502.length co92) := (blk_cell BK509.out 1).trans rfl; have hcz110_2 : w94.cell? ⟨gb509, 2, none⟩ = some (.slice Ao93 t505.length co93) := (blk_cell BK509.out 2).trans rfl; have hfz110_0 := blk_frozen BK509.out 0; have hfz110_1 := blk_frozen BK509.out 1; have hfz110_2 := blk_frozen BK509.out 2) | (go_at_call 24; (with_reducible refine (jobshellref25_Has.calls kj3 _ _ t499 a1 true _ ?side1 ?side2 A102.out).mono ?_); (case side1 => repeat (first | exact (V_reads' HO501.out).2.2 | (with_reducible refine C_alloc ?_ _) | (with_reducible refine C_drewN ?_ _) | (with_reducible refine C_drew ?_))); (case side2 => exact (V_reads' HO501.out).2.1); rintro e w' ⟨rfl, ⟨nd, rfl⟩⟩))
        go_meet
        case rel => exact ⟨_, (true), (by first | rfl | (simp; done) | (simp [*]; done) | (generalize ByteArray.toList _ = l_; cases l_ <;> rfl)), H', ⟨by have := HJ3.out; first | omega | exact Nat.le_refl _⟩, ⟨by (with_reducible repeat (first | apply V_alloc | apply V_drewN | apply V_drew)); exact HO480.out⟩, ⟨by (with_reducible repeat (first | apply V_alloc | apply V_drewN | apply V_drew)); exact HO483.out⟩, ⟨by (with_reducible repeat (first | apply V_alloc | apply V_drewN | apply V_drew)); exact HO486.out⟩, ⟨by (with_reducible repeat (first | apply V_alloc | apply V_drewN | apply V_drew)); exact HO491.out⟩, ⟨by (with_reducible repeat (first | apply V_alloc | apply V_drewN | apply V_drew)); exact HO494.out⟩, ⟨by (with_reducible repeat (first | apply V_alloc | apply V_drewN | apply V_drew)); exact HO497.out⟩, ⟨by (with_reducible repeat (first | apply V_alloc | apply V_drewN | apply V_drew)); exact HO501.out⟩, ⟨by (with_reducible repeat (first | apply V_alloc | apply V_drewN | apply V_drew)); exact HO504.out⟩, ⟨by (with_reducible repeat (first | apply V_alloc | apply V_drewN | apply V_drew)); exact HO507.out⟩, ⟨by (with_reducible repeat (first | refine blk_drewN ?_ _ | refine blk_drew ?_ | refine blk_alloc ?_ _)); exact BK473.out⟩, ⟨by (with_reducible repeat (first | refine blk_drewN ?_ _ | refine blk_drew ?_ | refine blk_alloc ?_ _)); exact BK488.out⟩, ⟨by (with_reducible repeat (first | refine blk_drewN ?_ _ | refine blk_drew ?_ | refine blk_alloc ?_ _)); exact BK498.out⟩, ⟨by (with_reducible repeat (first | refine blk_drewN ?_ _ | refine blk_drew ?_ | refine blk_alloc ?_ _)); exact BK509.out⟩, ⟨by repeat (first | (with_reducible first | exact HB.out | apply below_alloc | apply pw_below_drewN | apply below_drew1 | refine below_set ?_ GE473.out | refine below_set ?_ GE488.out | refine below_set ?_ GE498.out | refine below_set ?_ GE509.out) | exact HB.out)⟩⟩
       ·replace c103 := Bool.eq_false_iff.mpr c103
        subst c103
        have H1 : (if a2 ≥ 0 then (jobshelllaw25_SignalIgnored.j1 kj3 a1 a2 ((t508 == 0) != (decide (a2 ≤ 2))) t499 t502 t505) else (jobshelllaw25_SignalIgnored.j1 kj3 a1 a2 ((t508 == 0) != false) t499 t502 t505)) = some r := by rw [if_neg (show ¬ (false = true) by decide)] at H; exact H
        clear H
        have H := H1
        clear H1
        by_cases c111 : a2 ≥ 0
        ·rw [if_pos c111] at H
         have c111b0 : decide (0 ≤ a2) = true := decide_eq_true c111
         clear c111
         have H' := Zk H
         clear H
         have hnb112 := NB498_473.out
         have hnc112 := NB473_498.out
         have hnb113 := NB498_488.out
         have hnc113 := NB488_498.out
         have hnb114 := NB498_509.out
         have hnc114 := NB509_498.out
         have hcz115_0 : w94.cell? ⟨gb498, 0, none⟩ = some (.slice Ao77 t489.length co77) := (blk_cell BK498.out 0).trans rfl
         have hcz115_1 : w94.cell? ⟨gb498, 1, none⟩ = some (.slice Ao81 t492.length co81) := (blk_cell BK498.out 1).trans rfl
         have hcz115_2 : w94.cell? ⟨gb498, 2, none⟩ = some (.slice Ao82 t495.length co82) := (blk_cell BK498.out 2).trans rfl
         have hfz115_0 := blk_frozen BK498.out 0
         have hfz115_1 := blk_frozen BK498.out 1
         have hfz115_2 := blk_frozen BK498.out 2
         go_wp2_with (first | (go_at_call 24; (with_reducible refine (jobshellref25_Has.calls kj3 _ _ t489 a1 false _ ?side1 ?side2 A96.out).mono ?_); (case side1 => repeat (first | exact (V_reads' HO491.out).2.2 | (with_reducible refine C_alloc ?_ _) | (with_reducible refine C_drewN ?_ _) | (with_reducible refine C_drew ?_))); (case side2 => exact (V_reads' HO491.out).2.1); rintro e w' ⟨rfl, ⟨nd, rfl⟩⟩; have hnb116 := NB509_473.out; have hnc116 := NB473_509.out; have hnb117 := NB509_488.out; have hnc117 := NB488_509.out; have hcz118_0 : w94.cell? ⟨gb509, 0, none⟩ = some (.slice Ao87 t499.length co87) := (blk_cell BK509.out 0).trans rfl; have hcz118_1 : w94.cell? ⟨gb509, 1, none⟩ = some (.slice Ao92 t502.length co92) := (blk_cell BK509.out 1).trans rfl; have hcz118_2 : w94.cell? ⟨gb509, 2, none⟩ = some (.slice Ao93 t505.length co93) := (blk_cell BK509.out 2).trans rfl; have hfz118_0 := blk_frozen BK509.out 0; have hfz118_1 := blk_frozen BK509.out 1; have hfz118_2 := blk_frozen BK509.out 2) | (go_at_call 24; (with_reducible refine (jobshellref25_Has.calls kj3 _ _ t499 a1 false _ ?side1 ?side2 A102.out).mono ?_); (case side1 => repeat (first | exact (V_reads' HO501.out).2.2 | (with_reducible refine C_alloc ?_ _) | (with_reducible refine C_drewN ?_ _) | (with_reducible refine C_drew ?_))); (case side2 => exact (V_reads' HO501.out).2.1); rintro e w' ⟨rfl, ⟨nd, rfl⟩⟩))
         go_meet
         case rel => exact ⟨_, (((t508 == 0) != (decide (a2 ≤ 2)))), (by first | rfl | (simp; done) | (simp [*]; done) | (generalize ByteArray.toList _ = l_; cases l_ <;> rfl)), H', ⟨by have := HJ3.out; first | omega | exact Nat.le_refl _⟩, ⟨by (with_reducible repeat (first | apply V_alloc | apply V_drewN | apply V_drew)); exact HO480.out⟩, ⟨by (with_reducible repeat (first | apply V_alloc | apply V_drewN | apply V_drew)); exact HO483.out⟩, ⟨by (with_reducible repeat (first | apply V_alloc | apply V_drewN | apply V_drew)); exact HO486.out⟩, ⟨by (with_reducible repeat (first | apply V_alloc | apply V_drewN | apply V_drew)); exact HO491.out⟩, ⟨by (with_reducible repeat (first | apply V_alloc | apply V_drewN | apply V_drew)); exact HO494.out⟩, ⟨by (with_reducible repeat (first | apply V_alloc | apply V_drewN | apply V_drew)); exact HO497.out⟩, ⟨by (with_reducible repeat (first | apply V_alloc | apply V_drewN | apply V_drew)); exact HO501.out⟩, ⟨by (with_reducible repeat (first | apply V_alloc | apply V_drewN | apply V_drew)); exact HO504.out⟩, ⟨by (with_reducible repeat (first | apply V_alloc | apply V_drewN | apply V_drew)); exact HO507.out⟩, ⟨by (with_reducible repeat (first | refine blk_drewN ?_ _ | refine blk_drew ?_ | refine blk_alloc ?_ _)); exact BK473.out⟩, ⟨by (with_reducible repeat (first | refine blk_drewN ?_ _ | refine blk_drew ?_ | refine blk_alloc ?_ _)); exact BK488.out⟩, ⟨by (with_reducible repeat (first | refine blk_drewN ?_ _ | refine blk_drew ?_ | refine blk_alloc ?_ _)); exact BK498.out⟩, ⟨by (with_reducible repeat (first | refine blk_drewN ?_ _ | refine blk_drew ?_ | refine blk_alloc ?_ _)); exact BK509.out⟩, ⟨by repeat (first | (with_reducible first | exact HB.out | apply below_alloc | apply pw_below_drewN | apply below_drew1 | refine below_set ?_ GE473.out | refine below_set ?_ GE488.out | refine below_set ?_ GE498.out | refine below_set ?_ GE509.out) | exact HB.out)⟩⟩
        ·rw [if_neg c111] at H
         have c111b0 : decide (0 ≤ a2) = false := decide_eq_false c111
         clear c111
         have H' := Zk H
         clear H
         have hnb119 := NB498_473.out
         have hnc119 := NB473_498.out
         have hnb120 := NB498_488.out
         have hnc120 := NB488_498.out
         have hnb121 := NB498_509.out
         have hnc121 := NB509_498.out
         have hcz122_0 : w94.cell? ⟨gb498, 0, none⟩ = some (.slice Ao77 t489.length co77) := (blk_cell BK498.out 0).trans rfl
         have hcz122_1 : w94.cell? ⟨gb498, 1, none⟩ = some (.slice Ao81 t492.length co81) := (blk_cell BK498.out 1).trans rfl
         have hcz122_2 : w94.cell? ⟨gb498, 2, none⟩ = some (.slice Ao82 t495.length co82) := (blk_cell BK498.out 2).trans rfl
         have hfz122_0 := blk_frozen BK498.out 0
         have hfz122_1 := blk_frozen BK498.out 1
         have hfz122_2 := blk_frozen BK498.out 2
         go_wp2_with (first | (go_at_call 24; (with_reducible refine (jobshellref25_Has.calls kj3 _ _ t489 a1 false _ ?side1 ?side2 A96.out).mono ?_); (case side1 => repeat (first | exact (V_reads' HO491.out).2.2 | (with_reducible refine C_alloc ?_ _) | (with_reducible refine C_drewN ?_ _) | (with_reducible refine C_drew ?_))); (case side2 => exact (V_reads' HO491.out).2.1); rintro e w' ⟨rfl, ⟨nd, rfl⟩⟩; have hnb123 := NB509_473.out; have hnc123 := NB473_509.out; have hnb124 := NB509_488.out; have hnc124 := NB488_509.out; have hcz125_0 : w94.cell? ⟨gb509, 0, none⟩ = some (.slice Ao87 t499.length co87) := (blk_cell BK509.out 0).trans rfl; have hcz125_1 : w94.cell? ⟨gb509, 1, none⟩ = some (.slice Ao92 t502.length co92) := (blk_cell BK509.out 1).trans rfl; have hcz125_2 : w94.cell? ⟨gb509, 2, none⟩ = some (.slice Ao93 t505.length co93) := (blk_cell BK509.out 2).trans rfl; have hfz125_0 := blk_frozen BK509.out 0; have hfz125_1 := blk_frozen BK509.out 1; have hfz125_2 := blk_frozen BK509.out 2) | (go_at_call 24; (with_reducible refine (jobshellref25_Has.calls kj3 _ _ t499 a1 false _ ?side1 ?side2 A102.out).mono ?_); (case side1 => repeat (first | exact (V_reads' HO501.out).2.2 | (with_reducible refine C_alloc ?_ _) | (with_reducible refine C_drewN ?_ _) | (with_reducible refine C_drew ?_))); (case side2 => exact (V_reads' HO501.out).2.1); rintro e w' ⟨rfl, ⟨nd, rfl⟩⟩))
         go_meet
         case rel => exact ⟨_, (((t508 == 0) != false)), (by first | rfl | (simp; done) | (simp [*]; done) | (generalize ByteArray.toList _ = l_; cases l_ <;> rfl)), H', ⟨by have := HJ3.out; first | omega | exact Nat.le_refl _⟩, ⟨by (with_reducible repeat (first | apply V_alloc | apply V_drewN | apply V_drew)); exact HO480.out⟩, ⟨by (with_reducible repeat (first | apply V_alloc | apply V_drewN | apply V_drew)); exact HO483.out⟩, ⟨by (with_reducible repeat (first | apply V_alloc | apply V_drewN | apply V_drew)); exact HO486.out⟩, ⟨by (with_reducible repeat (first | apply V_alloc | apply V_drewN | apply V_drew)); exact HO491.out⟩, ⟨by (with_reducible repeat (first | apply V_alloc | apply V_drewN | apply V_drew)); exact HO494.out⟩, ⟨by (with_reducible repeat (first | apply V_alloc | apply V_drewN | apply V_drew)); exact HO497.out⟩, ⟨by (with_reducible repeat (first | apply V_alloc | apply V_drewN | apply V_drew)); exact HO501.out⟩, ⟨by (with_reducible repeat (first | apply V_alloc | apply V_drewN | apply V_drew)); exact HO504.out⟩, ⟨by (with_reducible repeat (first | apply V_alloc | apply V_drewN | apply V_drew)); exact HO507.out⟩, ⟨by (with_reducible repeat (first | refine blk_drewN ?_ _ | refine blk_drew ?_ | refine blk_alloc ?_ _)); exact BK473.out⟩, ⟨by (with_reducible repeat (first | refine blk_drewN ?_ _ | refine blk_drew ?_ | refine blk_alloc ?_ _)); exact BK488.out⟩, ⟨by (with_reducible repeat (first | refine blk_drewN ?_ _ | refine blk_drew ?_ | refine blk_alloc ?_ _)); exact BK498.out⟩, ⟨by (with_reducible repeat (first | refine blk_drewN ?_ _ | refine blk_drew ?_ | refine blk_alloc ?_ _)); exact BK509.out⟩, ⟨by repeat (first | (with_reducible first | exact HB.out | apply below_alloc | apply pw_below_drewN | apply below_drew1 | refine below_set ?_ GE473.out | refine below_set ?_ GE488.out | refine below_set ?_ GE498.out | refine below_set ?_ GE509.out) | exact HB.out)⟩⟩
     ·rw [if_neg c95] at H
      have c95b0 : (t487 == 0) = false := beq_eq_false_iff_ne.mpr c95
      have c95b1 : (t487 != 0) = true := bne_iff_ne.mpr c95
      (first | rw [c95b0] | (simp only [i64_w, i32_w]; rw [c95b0]) | skip)
      have H' := Zk H
      clear H
      go_wp2
      go_meet
      case rel => exact ⟨_, (true), (by first | rfl | (simp; done) | (simp [*]; done) | (generalize ByteArray.toList _ = l_; cases l_ <;> rfl)), H', ⟨by have := HJ3.out; first | omega | exact Nat.le_refl _⟩, ⟨by (with_reducible repeat (first | apply V_alloc | apply V_drewN | apply V_drew)); exact HO480.out⟩, ⟨by (with_reducible repeat (first | apply V_alloc | apply V_drewN | apply V_drew)); exact HO483.out⟩, ⟨by (with_reducible repeat (first | apply V_alloc | apply V_drewN | apply V_drew)); exact HO486.out⟩, ⟨by (with_reducible repeat (first | apply V_alloc | apply V_drewN | apply V_drew)); exact HO491.out⟩, ⟨by (with_reducible repeat (first | apply V_alloc | apply V_drewN | apply V_drew)); exact HO494.out⟩, ⟨by (with_reducible repeat (first | apply V_alloc | apply V_drewN | apply V_drew)); exact HO497.out⟩, ⟨by (with_reducible repeat (first | apply V_alloc | apply V_drewN | apply V_drew)); exact HO501.out⟩, ⟨by (with_reducible repeat (first | apply V_alloc | apply V_drewN | apply V_drew)); exact HO504.out⟩, ⟨by (with_reducible repeat (first | apply V_alloc | apply V_drewN | apply V_drew)); exact HO507.out⟩, ⟨by (with_reducible repeat (first | refine blk_drewN ?_ _ | refine blk_drew ?_ | refine blk_alloc ?_ _)); exact BK473.out⟩, ⟨by (with_reducible repeat (first | refine blk_drewN ?_ _ | refine blk_drew ?_ | refine blk_alloc ?_ _)); exact BK488.out⟩, ⟨by (with_reducible repeat (first | refine blk_drewN ?_ _ | refine blk_drew ?_ | refine blk_alloc ?_ _)); exact BK498.out⟩, ⟨by (with_reducible repeat (first | refine blk_drewN ?_ _ | refine blk_drew ?_ | refine blk_alloc ?_ _)); exact BK509.out⟩, ⟨by repeat (first | (with_reducible first | exact HB.out | apply below_alloc | apply pw_below_drewN | apply below_drew1 | refine below_set ?_ GE473.out | refine below_set ?_ GE488.out | refine below_set ?_ GE498.out | refine below_set ?_ GE509.out) | exact HB.out)⟩⟩
    case rest =>
     clear HC64
     try clear c1
     try clear c2
     try clear p2
     try clear c3
     try clear c4
     try clear c5
     try clear c6
     try clear c7
     try clear c8
     try clear c9
     try clear c9b0
     try clear c9b1
     try clear c10
     try clear c11
     try clear c11b0
     try clear c11b1
     try clear c12
     try clear c12b0
     try clear c12b1
     try clear c13
     try clear c13b0
     try clear c13b1
     try clear c17
     try clear c19
     try clear c19b0
     try clear c19b1
     try clear c22
     try clear c25
     try clear c35
     try clear c35b0
     try clear c35b1
     try clear c41
     try clear c41b0
     try clear c41b1
     try clear c58
     try clear c69
     try clear c78
     try clear c79
     try clear c88
     try clear c89
     try clear c90
     try clear c95
     try clear c95b0
     try clear c95b1
     try clear c97
     try clear c98
     try clear c99
     try clear c100
     try clear c103
     try clear c104
     try clear c105
     try clear c106
     try clear c108
     try clear c109
     try clear c111
     try clear c111b0
     try clear c112
     try clear c113
     try clear c114
     try clear c116
     try clear c117
     try clear c119
     try clear c120
     try clear c121
     try clear c123
     try clear c124
     try clear hcz101_0
     try clear hcz101_1
     try clear hcz101_2
     try clear hcz107_0
     try clear hcz107_1
     try clear hcz107_2
     try clear hcz110_0
     try clear hcz110_1
     try clear hcz110_2
     try clear hcz115_0
     try clear hcz115_1
     try clear hcz115_2
     try clear hcz118_0
     try clear hcz118_1
     try clear hcz118_2
     try clear hcz122_0
     try clear hcz122_1
     try clear hcz122_2
     try clear hcz125_0
     try clear hcz125_1
     try clear hcz125_2
     try clear hcz14_0
     try clear hcz14_1
     try clear hcz14_2
     try clear hcz16_0
     try clear hcz16_1
     try clear hcz16_2
     try clear hcz20_0
     try clear hcz20_1
     try clear hcz20_2
     try clear hcz22_0
     try clear hcz22_1
     try clear hcz22_2
     try clear hcz25_0
     try clear hcz25_1
     try clear hcz25_2
     try clear hcz27_0
     try clear hcz27_1
     try clear hcz27_2
     try clear hcz30_0
     try clear hcz30_1
     try clear hcz30_2
     try clear hcz32_0
     try clear hcz32_1
     try clear hcz32_2
     try clear hcz36_0
     try clear hcz36_1
     try clear hcz36_2
     try clear hcz38_0
     try clear hcz38_1
     try clear hcz38_2
     try clear hcz42_0
     try clear hcz42_1
     try clear hcz42_2
     try clear hcz44_0
     try clear hcz44_1
     try clear hcz44_2
     try clear hcz47_0
     try clear hcz47_1
     try clear hcz47_2
     try clear hcz49_0
     try clear hcz49_1
     try clear hcz49_2
     try clear hcz52_0
     try clear hcz52_1
     try clear hcz52_2
     try clear hcz54_0
     try clear hcz54_1
     try clear hcz54_2
     try clear hcz56_0
     try clear hcz56_1
     try clear hcz56_2
     try clear hcz65_0
     try clear hcz65_1
     try clear hcz65_2
     try clear hcz70_0
     try clear hcz70_1
     try clear hcz70_2
     try clear hcz74_0
     try clear hcz74_1
     try clear hcz74_2
     try clear hcz80_0
     try clear hcz80_1
     try clear hcz80_2
     try clear hcz84_0
     try clear hcz84_1
     try clear hcz84_2
     try clear hcz91_0
     try clear hcz91_1
     try clear hcz91_2
     try clear hfz101_0
     try clear hfz101_1
     try clear hfz101_2
     try clear hfz107_0
     try clear hfz107_1
     try clear hfz107_2
     try clear hfz110_0
     try clear hfz110_1
     try clear hfz110_2
     try clear hfz115_0
     try clear hfz115_1
     try clear hfz115_2
     try clear hfz118_0
     try clear hfz118_1
     try clear hfz118_2
     try clear hfz122_0
     try clear hfz122_1
     try clear hfz122_2
     try clear hfz125_0
     try clear hfz125_1
     try clear hfz125_2
     try clear hfz14_0
     try clear hfz14_1
     try clear hfz14_2
     try clear hfz16_0
     try clear hfz16_1
     try clear hfz16_2
     try clear hfz20_0
     try clear hfz20_1
     try clear hfz20_2
     try clear hfz22_0
     try clear hfz22_1
     try clear hfz22_2
     try clear hfz25_0
     try clear hfz25_1
     try clear hfz25_2
     try clear hfz27_0
     try clear hfz27_1
     try clear hfz27_2
     try clear hfz30_0
     try clear hfz30_1
     try clear hfz30_2
     try clear hfz32_0
     try clear hfz32_1
     try clear hfz32_2
     try clear hfz36_0
     try clear hfz36_1
     try clear hfz36_2
     try clear hfz38_0
     try clear hfz38_1
     try clear hfz38_2
     try clear hfz42_0
     try clear hfz42_1
     try clear hfz42_2
     try clear hfz44_0
     try clear hfz44_1
     try clear hfz44_2
     try clear hfz47_0
     try clear hfz47_1
     try clear hfz47_2
     try clear hfz49_0
     try clear hfz49_1
     try clear hfz49_2
     try clear hfz52_0
     try clear hfz52_1
     try clear hfz52_2
     try clear hfz54_0
     try clear hfz54_1
     try clear hfz54_2
     try clear hfz56_0
     try clear hfz56_1
     try clear hfz56_2
     try clear hfz65_0
     try clear hfz65_1
     try clear hfz65_2
     try clear hfz70_0
     try clear hfz70_1
     try clear hfz70_2
     try clear hfz74_0
     try clear hfz74_1
     try clear hfz74_2
     try clear hfz80_0
     try clear hfz80_1
     try clear hfz80_2
     try clear hfz84_0
     try clear hfz84_1
     try clear hfz84_2
     try clear hfz91_0
     try clear hfz91_1
     try clear hfz91_2
     try clear p2
     obtain ⟨kq, x82_63, rfl, HA, HJ63, HO_489000, HO_489001, HO_489002, HO_499000, HO_499001, HO_499002, HO_510000, HO_510001, HO_510002, BK473, BK488, BK498, BK509, HB⟩ := hcut
     cases kq with
     | zero => exact absurd HA.out (by simp [jobshelllaw25_SignalIgnored.j1])
     | succ kj63 =>
      have H := HA.out
      clear HA
      simp only [jobshelllaw25_SignalIgnored.j1] at H
      by_cases c126 : x82_63 = true
      ·subst c126
       have H1 : (none) = some r := by rw [if_pos rfl] at H; exact H
       clear H
       have H := H1
       clear H1
       exact absurd H (by simp)
      ·replace c126 := Bool.eq_false_iff.mpr c126
       subst c126
       have H1 : ((signal_Send.f kj63 t499 t502 t505 a1).bind fun bt512 => ((jobshellref25_Has.f kj63 bt512.1 a1).bind fun t521 => (if a2 = 0 then (if (t521 == true) = true then ((jobshelllaw25_awake.f kj63).bind fun t522 => (some t522)) else (none)) else (if (t521 == (a2 == 2)) = true then ((jobshelllaw25_awake.f kj63).bind fun t523 => (some t523)) else (none))))) = some r := by rw [if_neg (show ¬ (false = true) by decide)] at H; exact H
       clear H
       have H := H1
       clear H1
       replace H := Option.bind_eq_some_iff.mp H
       obtain ⟨⟨t512, t515, t518⟩, A1270, H⟩ := H
       replace H : ((jobshellref25_Has.f kj63 t512 a1).bind fun t521 => (if a2 = 0 then (if (t521 == true) = true then ((jobshelllaw25_awake.f kj63).bind fun t522 => (some t522)) else (none)) else (if (t521 == (a2 == 2)) = true then ((jobshelllaw25_awake.f kj63).bind fun t523 => (some t523)) else (none)))) = some r := H
       have A127 := Zk A1270
       clear A1270
       replace H := Option.bind_eq_some_iff.mp H
       obtain ⟨t521, A1280, H⟩ := H
       replace H : (if a2 = 0 then (if (t521 == true) = true then ((jobshelllaw25_awake.f kj63).bind fun t522 => (some t522)) else (none)) else (if (t521 == (a2 == 2)) = true then ((jobshelllaw25_awake.f kj63).bind fun t523 => (some t523)) else (none))) = some r := H
       have A128 := Zk A1280
       clear A1280
       by_cases c129 : a2 = 0
       ·rw [if_pos c129] at H
        have c129b0 : (a2 == 0) = true := beq_iff_eq.mpr c129
        have c129b1 : (a2 != 0) = false := bne_eq_false_iff_eq.mpr c129
        clear c129
        by_cases c130 : (t521 == true) = true
        ·rw [if_pos c130] at H
         have c130b0 : (t521 == true) = true := c130
         (try (have c130b1 : decide (t521 = true) = true := by simpa using c130))
         (try (have c130b2 : (t521 == true) = true := by simpa using c130))
         clear c130
         replace H := Option.bind_eq_some_iff.mp H
         obtain ⟨t522, A1310, H⟩ := H
         replace H : (some t522) = some r := H
         have A131 := Zk A1310
         clear A1310
         obtain rfl := Option.some.inj H
         have hnb132 := NB509_473.out
         have hnc132 := NB473_509.out
         have hnb133 := NB509_488.out
         have hnc133 := NB488_509.out
         have hnb134 := NB509_498.out
         have hnc134 := NB498_509.out
         have hcz135_0 : wc.cell? ⟨gb509, 0, none⟩ = some (.slice Ao87 t499.length co87) := (blk_cell BK509.out 0).trans rfl
         have hcz135_1 : wc.cell? ⟨gb509, 1, none⟩ = some (.slice Ao92 t502.length co92) := (blk_cell BK509.out 1).trans rfl
         have hcz135_2 : wc.cell? ⟨gb509, 2, none⟩ = some (.slice Ao93 t505.length co93) := (blk_cell BK509.out 2).trans rfl
         have hfz135_0 := blk_frozen BK509.out 0
         have hfz135_1 := blk_frozen BK509.out 1
         have hfz135_2 := blk_frozen BK509.out 2
         go_wp2_with (first | ((with_reducible refine gate_callee (f := 22) rfl ?_); refine goesL_ (some 85) rfl rfl Tryd.func22 (by kernel_rfl) rfl #[.agg #[.slice Ao87 t499.length co87, .slice Ao92 t502.length co92, .slice Ao93 t505.length co93], .int .i64 a1] rfl (by (try simp only [List.map_toArray, List.map_cons, List.map_nil]); first | done | rfl | (simp only [List.length_drop, List.length_take]; rfl)) ?_; (with_reducible refine (signal_Send.calls kj63 (fun k_ => (k_ ≠ gb473 ∧ (k_ ≠ gb488 ∧ (k_ ≠ gb498 ∧ k_ ≠ gb509)))) _ _ t499 (fun k_ => (k_ ≠ gb473 ∧ (k_ ≠ gb488 ∧ (k_ ≠ gb498 ∧ k_ ≠ gb509)))) _ _ t502 (fun k_ => (k_ ≠ gb473 ∧ (k_ ≠ gb488 ∧ (k_ ≠ gb498 ∧ k_ ≠ gb509)))) _ _ t505 a1 t512 t515 t518 _ ?side1 ?side2 ?side3 A127.out).mono ?_); (case side1 => exact HO_510000.out); (case side2 => exact HO_510001.out); (case side3 => exact HO_510002.out); rintro e w136 ⟨v513, v516, v519, rfl, ho0, ho1, ho2, hb⟩; refine ⟨_, rfl, ?_⟩; have n0_ := Zk (V_below (by (with_reducible repeat (first | apply V_alloc | apply V_drewN | apply V_drew)); exact HO_489000.out) hb); have n1_ := Zk (V_below (by (with_reducible repeat (first | apply V_alloc | apply V_drewN | apply V_drew)); exact HO_489001.out) hb); have n2_ := Zk (V_below (by (with_reducible repeat (first | apply V_alloc | apply V_drewN | apply V_drew)); exact HO_489002.out) hb); have n3_ := Zk (V_below (by (with_reducible repeat (first | apply V_alloc | apply V_drewN | apply V_drew)); exact HO_499000.out) hb); have n4_ := Zk (V_below (by (with_reducible repeat (first | apply V_alloc | apply V_drewN | apply V_drew)); exact HO_499001.out) hb); have n5_ := Zk (V_below (by (with_reducible repeat (first | apply V_alloc | apply V_drewN | apply V_drew)); exact HO_499002.out) hb); have n6_ := Zk (V_below (by (with_reducible repeat (first | apply V_alloc | apply V_drewN | apply V_drew)); exact HO_510000.out) hb); have n7_ := Zk (V_below (by (with_reducible repeat (first | apply V_alloc | apply V_drewN | apply V_drew)); exact HO_510001.out) hb); have n8_ := Zk (V_below (by (with_reducible repeat (first | apply V_alloc | apply V_drewN | apply V_drew)); exact HO_510002.out) hb); have n9_ := Zk (V_lower (V_mono (ok' := fun k_ => k_ ≠ gb473 ∧ k_ ≠ gb488 ∧ k_ ≠ gb498 ∧ k_ ≠ gb509) ho0 (fun k_ hk_ => ⟨Or.elim hk_ (fun hs_ => Or.elim hs_ (fun hs_ => hs_.1) (fun hs_ => Or.elim hs_ (fun hs_ => hs_.1) (fun hs_ => hs_.1))) (fun hn_ => (Kd.freshB (g := gb473) (o := .cells #[.slice A0_0 l0_0.length c0_0, .slice A0_1 l0_1.length c0_1, .slice A0_2 l0_2.length c0_2] 30 (0, 0)) (by (with_reducible repeat (first | refine blk_drewN ?_ _ | refine blk_drew ?_ | refine blk_alloc ?_ _)); exact BK473.out) k_ hn_)), Or.elim hk_ (fun hs_ => Or.elim hs_ (fun hs_ => hs_.2.1) (fun hs_ => Or.elim hs_ (fun hs_ => hs_.2.1) (fun hs_ => hs_.2.1))) (fun hn_ => (Kd.freshB (g := gb488) (o := .cells #[.slice Ao68 t478.length co68, .slice Ao71 t481.length co71, .slice Ao72 t484.length co72] 30 (0, 0)) (by (with_reducible repeat (first | refine blk_drewN ?_ _ | refine blk_drew ?_ | refine blk_alloc ?_ _)); exact BK488.out) k_ hn_)), Or.elim hk_ (fun hs_ => Or.elim hs_ (fun hs_ => hs_.2.2.1) (fun hs_ => Or.elim hs_ (fun hs_ => hs_.2.2.1) (fun hs_ => hs_.2.2.1))) (fun hn_ => (Kd.freshB (g := gb498) (o := .cells #[.slice Ao77 t489.length co77, .slice Ao81 t492.length co81, .slice Ao82 t495.length co82] 30 (0, 0)) (by (with_reducible repeat (first | refine blk_drewN ?_ _ | refine blk_drew ?_ | refine blk_alloc ?_ _)); exact BK498.out) k_ hn_)), Or.elim hk_ (fun hs_ => Or.elim hs_ (fun hs_ => hs_.2.2.2) (fun hs_ => Or.elim hs_ (fun hs_ => hs_.2.2.2) (fun hs_ => hs_.2.2.2))) (fun hn_ => (Kd.freshB (g := gb509) (o := .cells #[.slice Ao87 t499.length co87, .slice Ao92 t502.length co92, .slice Ao93 t505.length co93] 30 (0, 0)) (by (with_reducible repeat (first | refine blk_drewN ?_ _ | refine blk_drew ?_ | refine blk_alloc ?_ _)); exact BK509.out) k_ hn_))⟩)) (below_size (by repeat (first | (with_reducible first | exact HB.out | apply below_alloc | apply pw_below_drewN | apply below_drew1 | refine below_set ?_ GE473.out | refine below_set ?_ GE488.out | refine below_set ?_ GE498.out | refine below_set ?_ GE509.out) | exact HB.out)))); have n10_ := Zk (V_lower (V_mono (ok' := fun k_ => k_ ≠ gb473 ∧ k_ ≠ gb488 ∧ k_ ≠ gb498 ∧ k_ ≠ gb509) ho1 (fun k_ hk_ => ⟨Or.elim hk_ (fun hs_ => Or.elim hs_ (fun hs_ => hs_.1) (fun hs_ => Or.elim hs_ (fun hs_ => hs_.1) (fun hs_ => hs_.1))) (fun hn_ => (Kd.freshB (g := gb473) (o := .cells #[.slice A0_0 l0_0.length c0_0, .slice A0_1 l0_1.length c0_1, .slice A0_2 l0_2.length c0_2] 30 (0, 0)) (by (with_reducible repeat (first | refine blk_drewN ?_ _ | refine blk_drew ?_ | refine blk_alloc ?_ _)); exact BK473.out) k_ hn_)), Or.elim hk_ (fun hs_ => Or.elim hs_ (fun hs_ => hs_.2.1) (fun hs_ => Or.elim hs_ (fun hs_ => hs_.2.1) (fun hs_ => hs_.2.1))) (fun hn_ => (Kd.freshB (g := gb488) (o := .cells #[.slice Ao68 t478.length co68, .slice Ao71 t481.length co71, .slice Ao72 t484.length co72] 30 (0, 0)) (by (with_reducible repeat (first | refine blk_drewN ?_ _ | refine blk_drew ?_ | refine blk_alloc ?_ _)); exact BK488.out) k_ hn_)), Or.elim hk_ (fun hs_ => Or.elim hs_ (fun hs_ => hs_.2.2.1) (fun hs_ => Or.elim hs_ (fun hs_ => hs_.2.2.1) (fun hs_ => hs_.2.2.1))) (fun hn_ => (Kd.freshB (g := gb498) (o := .cells #[.slice Ao77 t489.length co77, .slice Ao81 t492.length co81, .slice Ao82 t495.length co82] 30 (0, 0)) (by (with_reducible repeat (first | refine blk_drewN ?_ _ | refine blk_drew ?_ | refine blk_alloc ?_ _)); exact BK498.out) k_ hn_)), Or.elim hk_ (fun hs_ => Or.elim hs_ (fun hs_ => hs_.2.2.2) (fun hs_ => Or.elim hs_ (fun hs_ => hs_.2.2.2) (fun hs_ => hs_.2.2.2))) (fun hn_ => (Kd.freshB (g := gb509) (o := .cells #[.slice Ao87 t499.length co87, .slice Ao92 t502.length co92, .slice Ao93 t505.length co93] 30 (0, 0)) (by (with_reducible repeat (first | refine blk_drewN ?_ _ | refine blk_drew ?_ | refine blk_alloc ?_ _)); exact BK509.out) k_ hn_))⟩)) (below_size (by repeat (first | (with_reducible first | exact HB.out | apply below_alloc | apply pw_below_drewN | apply below_drew1 | refine below_set ?_ GE473.out | refine below_set ?_ GE488.out | refine below_set ?_ GE498.out | refine below_set ?_ GE509.out) | exact HB.out)))); have n11_ := Zk (V_lower (V_mono (ok' := fun k_ => k_ ≠ gb473 ∧ k_ ≠ gb488 ∧ k_ ≠ gb498 ∧ k_ ≠ gb509) ho2 (fun k_ hk_ => ⟨Or.elim hk_ (fun hs_ => Or.elim hs_ (fun hs_ => hs_.1) (fun hs_ => Or.elim hs_ (fun hs_ => hs_.1) (fun hs_ => hs_.1))) (fun hn_ => (Kd.freshB (g := gb473) (o := .cells #[.slice A0_0 l0_0.length c0_0, .slice A0_1 l0_1.length c0_1, .slice A0_2 l0_2.length c0_2] 30 (0, 0)) (by (with_reducible repeat (first | refine blk_drewN ?_ _ | refine blk_drew ?_ | refine blk_alloc ?_ _)); exact BK473.out) k_ hn_)), Or.elim hk_ (fun hs_ => Or.elim hs_ (fun hs_ => hs_.2.1) (fun hs_ => Or.elim hs_ (fun hs_ => hs_.2.1) (fun hs_ => hs_.2.1))) (fun hn_ => (Kd.freshB (g := gb488) (o := .cells #[.slice Ao68 t478.length co68, .slice Ao71 t481.length co71, .slice Ao72 t484.length co72] 30 (0, 0)) (by (with_reducible repeat (first | refine blk_drewN ?_ _ | refine blk_drew ?_ | refine blk_alloc ?_ _)); exact BK488.out) k_ hn_)), Or.elim hk_ (fun hs_ => Or.elim hs_ (fun hs_ => hs_.2.2.1) (fun hs_ => Or.elim hs_ (fun hs_ => hs_.2.2.1) (fun hs_ => hs_.2.2.1))) (fun hn_ => (Kd.freshB (g := gb498) (o := .cells #[.slice Ao77 t489.length co77, .slice Ao81 t492.length co81, .slice Ao82 t495.length co82] 30 (0, 0)) (by (with_reducible repeat (first | refine blk_drewN ?_ _ | refine blk_drew ?_ | refine blk_alloc ?_ _)); exact BK498.out) k_ hn_)), Or.elim hk_ (fun hs_ => Or.elim hs_ (fun hs_ => hs_.2.2.2) (fun hs_ => Or.elim hs_ (fun hs_ => hs_.2.2.2) (fun hs_ => hs_.2.2.2))) (fun hn_ => (Kd.freshB (g := gb509) (o := .cells #[.slice Ao87 t499.length co87, .slice Ao92 t502.length co92, .slice Ao93 t505.length co93] 30 (0, 0)) (by (with_reducible repeat (first | refine blk_drewN ?_ _ | refine blk_drew ?_ | refine blk_alloc ?_ _)); exact BK509.out) k_ hn_))⟩)) (below_size (by repeat (first | (with_reducible first | exact HB.out | apply below_alloc | apply pw_below_drewN | apply below_drew1 | refine below_set ?_ GE473.out | refine below_set ?_ GE488.out | refine below_set ?_ GE498.out | refine below_set ?_ GE509.out) | exact HB.out)))); have n12_ := Zk (blk_below (g := gb473) (o := .cells #[.slice A0_0 l0_0.length c0_0, .slice A0_1 l0_1.length c0_1, .slice A0_2 l0_2.length c0_2] 30 (0, 0)) (by (with_reducible repeat (first | refine blk_drewN ?_ _ | refine blk_drew ?_ | refine blk_alloc ?_ _)); exact BK473.out) hb); have n13_ := Zk (blk_below (g := gb488) (o := .cells #[.slice Ao68 t478.length co68, .slice Ao71 t481.length co71, .slice Ao72 t484.length co72] 30 (0, 0)) (by (with_reducible repeat (first | refine blk_drewN ?_ _ | refine blk_drew ?_ | refine blk_alloc ?_ _)); exact BK488.out) hb); have n14_ := Zk (blk_below (g := gb498) (o := .cells #[.slice Ao77 t489.length co77, .slice Ao81 t492.length co81, .slice Ao82 t495.length co82] 30 (0, 0)) (by (with_reducible repeat (first | refine blk_drewN ?_ _ | refine blk_drew ?_ | refine blk_alloc ?_ _)); exact BK498.out) hb); have n15_ := Zk (blk_below (g := gb509) (o := .cells #[.slice Ao87 t499.length co87, .slice Ao92 t502.length co92, .slice Ao93 t505.length co93] 30 (0, 0)) (by (with_reducible repeat (first | refine blk_drewN ?_ _ | refine blk_drew ?_ | refine blk_alloc ?_ _)); exact BK509.out) hb); have n16_ := Zk (below_step (by repeat (first | (with_reducible first | exact HB.out | apply below_alloc | apply pw_below_drewN | apply below_drew1 | refine below_set ?_ GE473.out | refine below_set ?_ GE488.out | refine below_set ?_ GE498.out | refine below_set ?_ GE509.out) | exact HB.out)) hb); clear HO_489000; clear HO_489001; clear HO_489002; clear HO_499000; clear HO_499001; clear HO_499002; clear HO_510000; clear HO_510001; clear HO_510002; clear BK473; clear BK488; clear BK498; clear BK509; clear HB; have HO_489000 := n0_; have HO_489001 := n1_; have HO_489002 := n2_; have HO_499000 := n3_; have HO_499001 := n4_; have HO_499002 := n5_; have HO_510000 := n6_; have HO_510001 := n7_; have HO_510002 := n8_; have HO514 := n9_; have HO517 := n10_; have HO520 := n11_; have BK473 := n12_; have BK488 := n13_; have BK498 := n14_; have BK509 := n15_; have HB := n16_; clear n0_ n1_ n2_ n3_ n4_ n5_ n6_ n7_ n8_ n9_ n10_ n11_ n12_ n13_ n14_ n15_ n16_; (try clear hb); (try clear hb2); (try clear hk); (try clear hi); (try clear ho0); (try clear ho1); (try clear ho2); obtain ⟨Ao137, co137, eo137⟩ := V_slice HO520.out; subst eo137; obtain ⟨Ao138, co138, eo138⟩ := V_slice HO517.out; subst eo138; obtain ⟨Ao139, co139, eo139⟩ := V_slice HO514.out; subst eo139) | ((with_reducible refine gate_callee (f := 24) rfl ?_); refine goesL_ (some 88) rfl rfl Tryd.func24 (by kernel_rfl) rfl #[.slice Ao139 t512.length co139, .int .i64 a1] rfl (by (try simp only [List.map_toArray, List.map_cons, List.map_nil]); first | done | rfl | (simp only [List.length_drop, List.length_take]; rfl)) ?_; (with_reducible refine (jobshellref25_Has.calls kj63 _ _ t512 a1 t521 _ ?side1 ?side2 A128.out).mono ?_); (case side1 => repeat (first | exact (V_reads' HO514.out).2.2 | (with_reducible refine C_alloc ?_ _) | (with_reducible refine C_drewN ?_ _) | (with_reducible refine C_drew ?_))); (case side2 => exact (V_reads' HO514.out).2.1); rintro e w' ⟨rfl, ⟨nd, rfl⟩⟩; refine ⟨_, rfl, ?_⟩) | (go_at_call 10; (with_reducible refine (jobshelllaw25_awake.calls kj63  t522 _ A131.out).mono ?_); rintro e w140 ⟨rfl, hb⟩; have n0_ := Zk (V_below (by (with_reducible repeat (first | apply V_alloc | apply V_drewN | apply V_drew)); exact HO_489000.out) hb); have n1_ := Zk (V_below (by (with_reducible repeat (first | apply V_alloc | apply V_drewN | apply V_drew)); exact HO_489001.out) hb); have n2_ := Zk (V_below (by (with_reducible repeat (first | apply V_alloc | apply V_drewN | apply V_drew)); exact HO_489002.out) hb); have n3_ := Zk (V_below (by (with_reducible repeat (first | apply V_alloc | apply V_drewN | apply V_drew)); exact HO_499000.out) hb); have n4_ := Zk (V_below (by (with_reducible repeat (first | apply V_alloc | apply V_drewN | apply V_drew)); exact HO_499001.out) hb); have n5_ := Zk (V_below (by (with_reducible repeat (first | apply V_alloc | apply V_drewN | apply V_drew)); exact HO_499002.out) hb); have n6_ := Zk (V_below (by (with_reducible repeat (first | apply V_alloc | apply V_drewN | apply V_drew)); exact HO_510000.out) hb); have n7_ := Zk (V_below (by (with_reducible repeat (first | apply V_alloc | apply V_drewN | apply V_drew)); exact HO_510001.out) hb); have n8_ := Zk (V_below (by (with_reducible repeat (first | apply V_alloc | apply V_drewN | apply V_drew)); exact HO_510002.out) hb); have n9_ := Zk (V_below (by (with_reducible repeat (first | apply V_alloc | apply V_drewN | apply V_drew)); exact HO514.out) hb); have n10_ := Zk (V_below (by (with_reducible repeat (first | apply V_alloc | apply V_drewN | apply V_drew)); exact HO517.out) hb); have n11_ := Zk (V_below (by (with_reducible repeat (first | apply V_alloc | apply V_drewN | apply V_drew)); exact HO520.out) hb); have n12_ := Zk (blk_below (g := gb473) (o := .cells #[.slice A0_0 l0_0.length c0_0, .slice A0_1 l0_1.length c0_1, .slice A0_2 l0_2.length c0_2] 30 (0, 0)) (by (with_reducible repeat (first | refine blk_drewN ?_ _ | refine blk_drew ?_ | refine blk_alloc ?_ _)); exact BK473.out) hb); have n13_ := Zk (blk_below (g := gb488) (o := .cells #[.slice Ao68 t478.length co68, .slice Ao71 t481.length co71, .slice Ao72 t484.length co72] 30 (0, 0)) (by (with_reducible repeat (first | refine blk_drewN ?_ _ | refine blk_drew ?_ | refine blk_alloc ?_ _)); exact BK488.out) hb); have n14_ := Zk (blk_below (g := gb498) (o := .cells #[.slice Ao77 t489.length co77, .slice Ao81 t492.length co81, .slice Ao82 t495.length co82] 30 (0, 0)) (by (with_reducible repeat (first | refine blk_drewN ?_ _ | refine blk_drew ?_ | refine blk_alloc ?_ _)); exact BK498.out) hb); have n15_ := Zk (blk_below (g := gb509) (o := .cells #[.slice Ao87 t499.length co87, .slice Ao92 t502.length co92, .slice Ao93 t505.length co93] 30 (0, 0)) (by (with_reducible repeat (first | refine blk_drewN ?_ _ | refine blk_drew ?_ | refine blk_alloc ?_ _)); exact BK509.out) hb); have n16_ := Zk (below_step (by repeat (first | (with_reducible first | exact HB.out | apply below_alloc | apply pw_below_drewN | apply below_drew1 | refine below_set ?_ GE473.out | refine below_set ?_ GE488.out | refine below_set ?_ GE498.out | refine below_set ?_ GE509.out) | exact HB.out)) hb); clear HO_489000; clear HO_489001; clear HO_489002; clear HO_499000; clear HO_499001; clear HO_499002; clear HO_510000; clear HO_510001; clear HO_510002; clear HO514; clear HO517; clear HO520; clear BK473; clear BK488; clear BK498; clear BK509; clear HB; have HO_489000 := n0_; have HO_489001 := n1_; have HO_489002 := n2_; have HO_499000 := n3_; have HO_499001 := n4_; have HO_499002 := n5_; have HO_510000 := n6_; have HO_510001 := n7_; have HO_510002 := n8_; have HO514 := n9_; have HO517 := n10_; have HO520 := n11_; have BK473 := n12_; have BK488 := n13_; have BK498 := n14_; have BK509 := n15_; have HB := n16_; clear n0_ n1_ n2_ n3_ n4_ n5_ n6_ n7_ n8_ n9_ n10_ n11_ n12_ n13_ n14_ n15_ n16_; (try clear hb); (try clear hb2); (try clear hk); (try clear hi)))
         go_ret
         exact ⟨by first | rfl | (simp [errW_none, errW_some] <;> rfl) | (simp [*, errW_none, errW_some] <;> rfl), by repeat (first | (with_reducible first | exact HB.out | apply below_alloc | apply pw_below_drewN | apply below_drew1 | refine below_set ?_ GE473.out | refine below_set ?_ GE488.out | refine below_set ?_ GE498.out | refine below_set ?_ GE509.out) | exact HB.out)⟩
        ·rw [if_neg c130] at H
         exact absurd H (by simp)
       ·rw [if_neg c129] at H
        have c129b0 : (a2 == 0) = false := beq_eq_false_iff_ne.mpr c129
        have c129b1 : (a2 != 0) = true := bne_iff_ne.mpr c129
        by_cases c141 : (t521 == (a2 == 2)) = true
        ·rw [if_pos c141] at H
         have c141b0 : (t521 == (a2 == 2)) = true := c141
         (try (have c141b1 : decide (t521 = (a2 == 2)) = true := by simpa using c141))
         (try (have c141b2 : (t521 == (a2 == 2)) = true := by simpa using c141))
         clear c141
         replace H := Option.bind_eq_some_iff.mp H
         obtain ⟨t523, A1420, H⟩ := H
         replace H : (some t523) = some r := H
         have A142 := Zk A1420
         clear A1420
         obtain rfl := Option.some.inj H
         have hnb143 := NB509_473.out
         have hnc143 := NB473_509.out
         have hnb144 := NB509_488.out
         have hnc144 := NB488_509.out
         have hnb145 := NB509_498.out
         have hnc145 := NB498_509.out
         have hcz146_0 : wc.cell? ⟨gb509, 0, none⟩ = some (.slice Ao87 t499.length co87) := (blk_cell BK509.out 0).trans rfl
         have hcz146_1 : wc.cell? ⟨gb509, 1, none⟩ = some (.slice Ao92 t502.length co92) := (blk_cell BK509.out 1).trans rfl
         have hcz146_2 : wc.cell? ⟨gb509, 2, none⟩ = some (.slice Ao93 t505.length co93) := (blk_cell BK509.out 2).trans rfl
         have hfz146_0 := blk_frozen BK509.out 0
         have hfz146_1 := blk_frozen BK509.out 1
         have hfz146_2 := blk_frozen BK509.out 2
         go_wp2_with (first | ((with_reducible refine gate_callee (f := 22) rfl ?_); refine goesL_ (some 85) rfl rfl Tryd.func22 (by kernel_rfl) rfl #[.agg #[.slice Ao87 t499.length co87, .slice Ao92 t502.length co92, .slice Ao93 t505.length co93], .int .i64 a1] rfl (by (try simp only [List.map_toArray, List.map_cons, List.map_nil]); first | done | rfl | (simp only [List.length_drop, List.length_take]; rfl)) ?_; (with_reducible refine (signal_Send.calls kj63 (fun k_ => (k_ ≠ gb473 ∧ (k_ ≠ gb488 ∧ (k_ ≠ gb498 ∧ k_ ≠ gb509)))) _ _ t499 (fun k_ => (k_ ≠ gb473 ∧ (k_ ≠ gb488 ∧ (k_ ≠ gb498 ∧ k_ ≠ gb509)))) _ _ t502 (fun k_ => (k_ ≠ gb473 ∧ (k_ ≠ gb488 ∧ (k_ ≠ gb498 ∧ k_ ≠ gb509)))) _ _ t505 a1 t512 t515 t518 _ ?side1 ?side2 ?side3 A127.out).mono ?_); (case side1 => exact HO_510000.out); (case side2 => exact HO_510001.out); (case side3 => exact HO_510002.out); rintro e w147 ⟨v513, v516, v519, rfl, ho0, ho1, ho2, hb⟩; refine ⟨_, rfl, ?_⟩; have n0_ := Zk (V_below (by (with_reducible repeat (first | apply V_alloc | apply V_drewN | apply V_drew)); exact HO_489000.out) hb); have n1_ := Zk (V_below (by (with_reducible repeat (first | apply V_alloc | apply V_drewN | apply V_drew)); exact HO_489001.out) hb); have n2_ := Zk (V_below (by (with_reducible repeat (first | apply V_alloc | apply V_drewN | apply V_drew)); exact HO_489002.out) hb); have n3_ := Zk (V_below (by (with_reducible repeat (first | apply V_alloc | apply V_drewN | apply V_drew)); exact HO_499000.out) hb); have n4_ := Zk (V_below (by (with_reducible repeat (first | apply V_alloc | apply V_drewN | apply V_drew)); exact HO_499001.out) hb); have n5_ := Zk (V_below (by (with_reducible repeat (first | apply V_alloc | apply V_drewN | apply V_drew)); exact HO_499002.out) hb); have n6_ := Zk (V_below (by (with_reducible repeat (first | apply V_alloc | apply V_drewN | apply V_drew)); exact HO_510000.out) hb); have n7_ := Zk (V_below (by (with_reducible repeat (first | apply V_alloc | apply V_drewN | apply V_drew)); exact HO_510001.out) hb); have n8_ := Zk (V_below (by (with_reducible repeat (first | apply V_alloc | apply V_drewN | apply V_drew)); exact HO_510002.out) hb); have n9_ := Zk (V_lower (V_mono (ok' := fun k_ => k_ ≠ gb473 ∧ k_ ≠ gb488 ∧ k_ ≠ gb498 ∧ k_ ≠ gb509) ho0 (fun k_ hk_ => ⟨Or.elim hk_ (fun hs_ => Or.elim hs_ (fun hs_ => hs_.1) (fun hs_ => Or.elim hs_ (fun hs_ => hs_.1) (fun hs_ => hs_.1))) (fun hn_ => (Kd.freshB (g := gb473) (o := .cells #[.slice A0_0 l0_0.length c0_0, .slice A0_1 l0_1.length c0_1, .slice A0_2 l0_2.length c0_2] 30 (0, 0)) (by (with_reducible repeat (first | refine blk_drewN ?_ _ | refine blk_drew ?_ | refine blk_alloc ?_ _)); exact BK473.out) k_ hn_)), Or.elim hk_ (fun hs_ => Or.elim hs_ (fun hs_ => hs_.2.1) (fun hs_ => Or.elim hs_ (fun hs_ => hs_.2.1) (fun hs_ => hs_.2.1))) (fun hn_ => (Kd.freshB (g := gb488) (o := .cells #[.slice Ao68 t478.length co68, .slice Ao71 t481.length co71, .slice Ao72 t484.length co72] 30 (0, 0)) (by (with_reducible repeat (first | refine blk_drewN ?_ _ | refine blk_drew ?_ | refine blk_alloc ?_ _)); exact BK488.out) k_ hn_)), Or.elim hk_ (fun hs_ => Or.elim hs_ (fun hs_ => hs_.2.2.1) (fun hs_ => Or.elim hs_ (fun hs_ => hs_.2.2.1) (fun hs_ => hs_.2.2.1))) (fun hn_ => (Kd.freshB (g := gb498) (o := .cells #[.slice Ao77 t489.length co77, .slice Ao81 t492.length co81, .slice Ao82 t495.length co82] 30 (0, 0)) (by (with_reducible repeat (first | refine blk_drewN ?_ _ | refine blk_drew ?_ | refine blk_alloc ?_ _)); exact BK498.out) k_ hn_)), Or.elim hk_ (fun hs_ => Or.elim hs_ (fun hs_ => hs_.2.2.2) (fun hs_ => Or.elim hs_ (fun hs_ => hs_.2.2.2) (fun hs_ => hs_.2.2.2))) (fun hn_ => (Kd.freshB (g := gb509) (o := .cells #[.slice Ao87 t499.length co87, .slice Ao92 t502.length co92, .slice Ao93 t505.length co93] 30 (0, 0)) (by (with_reducible repeat (first | refine blk_drewN ?_ _ | refine blk_drew ?_ | refine blk_alloc ?_ _)); exact BK509.out) k_ hn_))⟩)) (below_size (by repeat (first | (with_reducible first | exact HB.out | apply below_alloc | apply pw_below_drewN | apply below_drew1 | refine below_set ?_ GE473.out | refine below_set ?_ GE488.out | refine below_set ?_ GE498.out | refine below_set ?_ GE509.out) | exact HB.out)))); have n10_ := Zk (V_lower (V_mono (ok' := fun k_ => k_ ≠ gb473 ∧ k_ ≠ gb488 ∧ k_ ≠ gb498 ∧ k_ ≠ gb509) ho1 (fun k_ hk_ => ⟨Or.elim hk_ (fun hs_ => Or.elim hs_ (fun hs_ => hs_.1) (fun hs_ => Or.elim hs_ (fun hs_ => hs_.1) (fun hs_ => hs_.1))) (fun hn_ => (Kd.freshB (g := gb473) (o := .cells #[.slice A0_0 l0_0.length c0_0, .slice A0_1 l0_1.length c0_1, .slice A0_2 l0_2.length c0_2] 30 (0, 0)) (by (with_reducible repeat (first | refine blk_drewN ?_ _ | refine blk_drew ?_ | refine blk_alloc ?_ _)); exact BK473.out) k_ hn_)), Or.elim hk_ (fun hs_ => Or.elim hs_ (fun hs_ => hs_.2.1) (fun hs_ => Or.elim hs_ (fun hs_ => hs_.2.1) (fun hs_ => hs_.2.1))) (fun hn_ => (Kd.freshB (g := gb488) (o := .cells #[.slice Ao68 t478.length co68, .slice Ao71 t481.length co71, .slice Ao72 t484.length co72] 30 (0, 0)) (by (with_reducible repeat (first | refine blk_drewN ?_ _ | refine blk_drew ?_ | refine blk_alloc ?_ _)); exact BK488.out) k_ hn_)), Or.elim hk_ (fun hs_ => Or.elim hs_ (fun hs_ => hs_.2.2.1) (fun hs_ => Or.elim hs_ (fun hs_ => hs_.2.2.1) (fun hs_ => hs_.2.2.1))) (fun hn_ => (Kd.freshB (g := gb498) (o := .cells #[.slice Ao77 t489.length co77, .slice Ao81 t492.length co81, .slice Ao82 t495.length co82] 30 (0, 0)) (by (with_reducible repeat (first | refine blk_drewN ?_ _ | refine blk_drew ?_ | refine blk_alloc ?_ _)); exact BK498.out) k_ hn_)), Or.elim hk_ (fun hs_ => Or.elim hs_ (fun hs_ => hs_.2.2.2) (fun hs_ => Or.elim hs_ (fun hs_ => hs_.2.2.2) (fun hs_ => hs_.2.2.2))) (fun hn_ => (Kd.freshB (g := gb509) (o := .cells #[.slice Ao87 t499.length co87, .slice Ao92 t502.length co92, .slice Ao93 t505.length co93] 30 (0, 0)) (by (with_reducible repeat (first | refine blk_drewN ?_ _ | refine blk_drew ?_ | refine blk_alloc ?_ _)); exact BK509.out) k_ hn_))⟩)) (below_size (by repeat (first | (with_reducible first | exact HB.out | apply below_alloc | apply pw_below_drewN | apply below_drew1 | refine below_set ?_ GE473.out | refine below_set ?_ GE488.out | refine below_set ?_ GE498.out | refine below_set ?_ GE509.out) | exact HB.out)))); have n11_ := Zk (V_lower (V_mono (ok' := fun k_ => k_ ≠ gb473 ∧ k_ ≠ gb488 ∧ k_ ≠ gb498 ∧ k_ ≠ gb509) ho2 (fun k_ hk_ => ⟨Or.elim hk_ (fun hs_ => Or.elim hs_ (fun hs_ => hs_.1) (fun hs_ => Or.elim hs_ (fun hs_ => hs_.1) (fun hs_ => hs_.1))) (fun hn_ => (Kd.freshB (g := gb473) (o := .cells #[.slice A0_0 l0_0.length c0_0, .slice A0_1 l0_1.length c0_1, .slice A0_2 l0_2.length c0_2] 30 (0, 0)) (by (with_reducible repeat (first | refine blk_drewN ?_ _ | refine blk_drew ?_ | refine blk_alloc ?_ _)); exact BK473.out) k_ hn_)), Or.elim hk_ (fun hs_ => Or.elim hs_ (fun hs_ => hs_.2.1) (fun hs_ => Or.elim hs_ (fun hs_ => hs_.2.1) (fun hs_ => hs_.2.1))) (fun hn_ => (Kd.freshB (g := gb488) (o := .cells #[.slice Ao68 t478.length co68, .slice Ao71 t481.length co71, .slice Ao72 t484.length co72] 30 (0, 0)) (by (with_reducible repeat (first | refine blk_drewN ?_ _ | refine blk_drew ?_ | refine blk_alloc ?_ _)); exact BK488.out) k_ hn_)), Or.elim hk_ (fun hs_ => Or.elim hs_ (fun hs_ => hs_.2.2.1) (fun hs_ => Or.elim hs_ (fun hs_ => hs_.2.2.1) (fun hs_ => hs_.2.2.1))) (fun hn_ => (Kd.freshB (g := gb498) (o := .cells #[.slice Ao77 t489.length co77, .slice Ao81 t492.length co81, .slice Ao82 t495.length co82] 30 (0, 0)) (by (with_reducible repeat (first | refine blk_drewN ?_ _ | refine blk_drew ?_ | refine blk_alloc ?_ _)); exact BK498.out) k_ hn_)), Or.elim hk_ (fun hs_ => Or.elim hs_ (fun hs_ => hs_.2.2.2) (fun hs_ => Or.elim hs_ (fun hs_ => hs_.2.2.2) (fun hs_ => hs_.2.2.2))) (fun hn_ => (Kd.freshB (g := gb509) (o := .cells #[.slice Ao87 t499.length co87, .slice Ao92 t502.length co92, .slice Ao93 t505.length co93] 30 (0, 0)) (by (with_reducible repeat (first | refine blk_drewN ?_ _ | refine blk_drew ?_ | refine blk_alloc ?_ _)); exact BK509.out) k_ hn_))⟩)) (below_size (by repeat (first | (with_reducible first | exact HB.out | apply below_alloc | apply pw_below_drewN | apply below_drew1 | refine below_set ?_ GE473.out | refine below_set ?_ GE488.out | refine below_set ?_ GE498.out | refine below_set ?_ GE509.out) | exact HB.out)))); have n12_ := Zk (blk_below (g := gb473) (o := .cells #[.slice A0_0 l0_0.length c0_0, .slice A0_1 l0_1.length c0_1, .slice A0_2 l0_2.length c0_2] 30 (0, 0)) (by (with_reducible repeat (first | refine blk_drewN ?_ _ | refine blk_drew ?_ | refine blk_alloc ?_ _)); exact BK473.out) hb); have n13_ := Zk (blk_below (g := gb488) (o := .cells #[.slice Ao68 t478.length co68, .slice Ao71 t481.length co71, .slice Ao72 t484.length co72] 30 (0, 0)) (by (with_reducible repeat (first | refine blk_drewN ?_ _ | refine blk_drew ?_ | refine blk_alloc ?_ _)); exact BK488.out) hb); have n14_ := Zk (blk_below (g := gb498) (o := .cells #[.slice Ao77 t489.length co77, .slice Ao81 t492.length co81, .slice Ao82 t495.length co82] 30 (0, 0)) (by (with_reducible repeat (first | refine blk_drewN ?_ _ | refine blk_drew ?_ | refine blk_alloc ?_ _)); exact BK498.out) hb); have n15_ := Zk (blk_below (g := gb509) (o := .cells #[.slice Ao87 t499.length co87, .slice Ao92 t502.length co92, .slice Ao93 t505.length co93] 30 (0, 0)) (by (with_reducible repeat (first | refine blk_drewN ?_ _ | refine blk_drew ?_ | refine blk_alloc ?_ _)); exact BK509.out) hb); have n16_ := Zk (below_step (by repeat (first | (with_reducible first | exact HB.out | apply below_alloc | apply pw_below_drewN | apply below_drew1 | refine below_set ?_ GE473.out | refine below_set ?_ GE488.out | refine below_set ?_ GE498.out | refine below_set ?_ GE509.out) | exact HB.out)) hb); clear HO_489000; clear HO_489001; clear HO_489002; clear HO_499000; clear HO_499001; clear HO_499002; clear HO_510000; clear HO_510001; clear HO_510002; clear BK473; clear BK488; clear BK498; clear BK509; clear HB; have HO_489000 := n0_; have HO_489001 := n1_; have HO_489002 := n2_; have HO_499000 := n3_; have HO_499001 := n4_; have HO_499002 := n5_; have HO_510000 := n6_; have HO_510001 := n7_; have HO_510002 := n8_; have HO514 := n9_; have HO517 := n10_; have HO520 := n11_; have BK473 := n12_; have BK488 := n13_; have BK498 := n14_; have BK509 := n15_; have HB := n16_; clear n0_ n1_ n2_ n3_ n4_ n5_ n6_ n7_ n8_ n9_ n10_ n11_ n12_ n13_ n14_ n15_ n16_; (try clear hb); (try clear hb2); (try clear hk); (try clear hi); (try clear ho0); (try clear ho1); (try clear ho2); obtain ⟨Ao148, co148, eo148⟩ := V_slice HO520.out; subst eo148; obtain ⟨Ao149, co149, eo149⟩ := V_slice HO517.out; subst eo149; obtain ⟨Ao150, co150, eo150⟩ := V_slice HO514.out; subst eo150) | ((with_reducible refine gate_callee (f := 24) rfl ?_); refine goesL_ (some 88) rfl rfl Tryd.func24 (by kernel_rfl) rfl #[.slice Ao150 t512.length co150, .int .i64 a1] rfl (by (try simp only [List.map_toArray, List.map_cons, List.map_nil]); first | done | rfl | (simp only [List.length_drop, List.length_take]; rfl)) ?_; (with_reducible refine (jobshellref25_Has.calls kj63 _ _ t512 a1 t521 _ ?side1 ?side2 A128.out).mono ?_); (case side1 => repeat (first | exact (V_reads' HO514.out).2.2 | (with_reducible refine C_alloc ?_ _) | (with_reducible refine C_drewN ?_ _) | (with_reducible refine C_drew ?_))); (case side2 => exact (V_reads' HO514.out).2.1); rintro e w' ⟨rfl, ⟨nd, rfl⟩⟩; refine ⟨_, rfl, ?_⟩) | (go_at_call 10; (with_reducible refine (jobshelllaw25_awake.calls kj63  t523 _ A142.out).mono ?_); rintro e w151 ⟨rfl, hb⟩; have n0_ := Zk (V_below (by (with_reducible repeat (first | apply V_alloc | apply V_drewN | apply V_drew)); exact HO_489000.out) hb); have n1_ := Zk (V_below (by (with_reducible repeat (first | apply V_alloc | apply V_drewN | apply V_drew)); exact HO_489001.out) hb); have n2_ := Zk (V_below (by (with_reducible repeat (first | apply V_alloc | apply V_drewN | apply V_drew)); exact HO_489002.out) hb); have n3_ := Zk (V_below (by (with_reducible repeat (first | apply V_alloc | apply V_drewN | apply V_drew)); exact HO_499000.out) hb); have n4_ := Zk (V_below (by (with_reducible repeat (first | apply V_alloc | apply V_drewN | apply V_drew)); exact HO_499001.out) hb); have n5_ := Zk (V_below (by (with_reducible repeat (first | apply V_alloc | apply V_drewN | apply V_drew)); exact HO_499002.out) hb); have n6_ := Zk (V_below (by (with_reducible repeat (first | apply V_alloc | apply V_drewN | apply V_drew)); exact HO_510000.out) hb); have n7_ := Zk (V_below (by (with_reducible repeat (first | apply V_alloc | apply V_drewN | apply V_drew)); exact HO_510001.out) hb); have n8_ := Zk (V_below (by (with_reducible repeat (first | apply V_alloc | apply V_drewN | apply V_drew)); exact HO_510002.out) hb); have n9_ := Zk (V_below (by (with_reducible repeat (first | apply V_alloc | apply V_drewN | apply V_drew)); exact HO514.out) hb); have n10_ := Zk (V_below (by (with_reducible repeat (first | apply V_alloc | apply V_drewN | apply V_drew)); exact HO517.out) hb); have n11_ := Zk (V_below (by (with_reducible repeat (first | apply V_alloc | apply V_drewN | apply V_drew)); exact HO520.out) hb); have n12_ := Zk (blk_below (g := gb473) (o := .cells #[.slice A0_0 l0_0.length c0_0, .slice A0_1 l0_1.length c0_1, .slice A0_2 l0_2.length c0_2] 30 (0, 0)) (by (with_reducible repeat (first | refine blk_drewN ?_ _ | refine blk_drew ?_ | refine blk_alloc ?_ _)); exact BK473.out) hb); have n13_ := Zk (blk_below (g := gb488) (o := .cells #[.slice Ao68 t478.length co68, .slice Ao71 t481.length co71, .slice Ao72 t484.length co72] 30 (0, 0)) (by (with_reducible repeat (first | refine blk_drewN ?_ _ | refine blk_drew ?_ | refine blk_alloc ?_ _)); exact BK488.out) hb); have n14_ := Zk (blk_below (g := gb498) (o := .cells #[.slice Ao77 t489.length co77, .slice Ao81 t492.length co81, .slice Ao82 t495.length co82] 30 (0, 0)) (by (with_reducible repeat (first | refine blk_drewN ?_ _ | refine blk_drew ?_ | refine blk_alloc ?_ _)); exact BK498.out) hb); have n15_ := Zk (blk_below (g := gb509) (o := .cells #[.slice Ao87 t499.length co87, .slice Ao92 t502.length co92, .slice Ao93 t505.length co93] 30 (0, 0)) (by (with_reducible repeat (first | refine blk_drewN ?_ _ | refine blk_drew ?_ | refine blk_alloc ?_ _)); exact BK509.out) hb); have n16_ := Zk (below_step (by repeat (first | (with_reducible first | exact HB.out | apply below_alloc | apply pw_below_drewN | apply below_drew1 | refine below_set ?_ GE473.out | refine below_set ?_ GE488.out | refine below_set ?_ GE498.out | refine below_set ?_ GE509.out) | exact HB.out)) hb); clear HO_489000; clear HO_489001; clear HO_489002; clear HO_499000; clear HO_499001; clear HO_499002; clear HO_510000; clear HO_510001; clear HO_510002; clear HO514; clear HO517; clear HO520; clear BK473; clear BK488; clear BK498; clear BK509; clear HB; have HO_489000 := n0_; have HO_489001 := n1_; have HO_489002 := n2_; have HO_499000 := n3_; have HO_499001 := n4_; have HO_499002 := n5_; have HO_510000 := n6_; have HO_510001 := n7_; have HO_510002 := n8_; have HO514 := n9_; have HO517 := n10_; have HO520 := n11_; have BK473 := n12_; have BK488 := n13_; have BK498 := n14_; have BK509 := n15_; have HB := n16_; clear n0_ n1_ n2_ n3_ n4_ n5_ n6_ n7_ n8_ n9_ n10_ n11_ n12_ n13_ n14_ n15_ n16_; (try clear hb); (try clear hb2); (try clear hk); (try clear hi)))
         go_ret
         exact ⟨by first | rfl | (simp [errW_none, errW_some] <;> rfl) | (simp [*, errW_none, errW_some] <;> rfl), by repeat (first | (with_reducible first | exact HB.out | apply below_alloc | apply pw_below_drewN | apply below_drew1 | refine below_set ?_ GE473.out | refine below_set ?_ GE488.out | refine below_set ?_ GE498.out | refine below_set ?_ GE509.out) | exact HB.out)⟩
        ·rw [if_neg c141] at H
         exact absurd H (by simp)
end Go.Proofs.YtnkkdpjipfjdaaaDoor.Q
end
section
-- Written by wip/tool/myprint.py, a program of this repo that drives the kit's print over hand-written contracts; Lean checks it.
namespace Go.Proofs.YtnkkdpjipfjdaaaDoor.StSignalIgnored
open Go.RowKit Go.Proofs.YtnkkdpjipfjdaaaDoor.Q Go.Proofs.YtnkkdpjipfjdaaaDoorW.PrintWords Go.Proofs.YtnkkdpjipfjdaaaDoorW.PrintLast
/-- THE ONE PURE STATEMENT of jobshelllaw25_SignalIgnored. -/
def Pure : Prop := ∀ (l0_0 : List Int) (l0_1 : List Int) (l0_2 : List Int) (a1 : Int) (a2 : Int), l0_0.length ≤ maxLen → l0_0.length * 8 ≤ 140737488351232 → (∀ x ∈ l0_0, (Lit.int .i64 x).wf = true) → l0_1.length ≤ maxLen → l0_1.length * 8 ≤ 140737488351232 → (∀ x ∈ l0_1, (Lit.int .i64 x).wf = true) → l0_2.length ≤ maxLen → l0_2.length * 8 ≤ 140737488351232 → (∀ x ∈ l0_2, (Lit.int .i64 x).wf = true) → (Lit.int .i64 a1).wf = true → (Lit.int .i64 a2).wf = true → ∃ k, jobshelllaw25_SignalIgnored.f k l0_0 l0_1 l0_2 a1 a2 = some true
end Go.Proofs.YtnkkdpjipfjdaaaDoor.StSignalIgnored

end
section
-- Written by wip/tool/myprint.py, a program of this repo that drives the kit's print over hand-written contracts; Lean checks it.
namespace Go.Proofs.YtnkkdpjipfjdaaaDoor.Q
open Go.RowKit Go.Proofs.YtnkkdpjipfjdaaaDoorW.PrintWords Go.Proofs.YtnkkdpjipfjdaaaDoorW.PrintLast Go.Proofs.YtnkkdpjipfjdaaaDoorW.PrintMore Go.Proofs.YtnkkdpjipfjdaaaDoorM
open Kd
attribute [local go_sem] max2_int min2_int max_two min_two max_three min_three max_four min_four   -- for this text's walks alone
set_option linter.unusedVariables false
set_option linter.unusedSimpArgs false
def signal_ascending.l0 : Nat → List Int → List Int → Int → Int → Option (Bool)
 | 0, _, _, _, _ => none
 | k + 1, x0, x5, x6, x7 => if x7 < x6 then (if 0 ≤ x7 then (if x7 < (x5.length : Int) then ((signal_Name.f (rd x5 x7)).bind fun t641 => (if t641.toList = ([] : List UInt8) then (some false) else (if x7 > 0 then (if 0 ≤ (wrap64 (x7 - 1)) then (if (wrap64 (x7 - 1)) < (x0.length : Int) then (if (rd x5 x7) ≤ (rd x0 (wrap64 (x7 - 1))) then (some false) else (signal_ascending.l0 k x0 x5 x6 (wrap64 (x7 + 1)))) else (none)) else (none)) else (signal_ascending.l0 k x0 x5 x6 (wrap64 (x7 + 1)))))) else (none)) else (none)) else (some true)
def signal_ascending.f (k : Nat) (l0 : List Int) : Option (Bool) := signal_ascending.l0 k l0 l0 (l0.length : Int) 0
theorem signal_ascending.mono_l : ∀ k, (∀ y0 y1 y2 y3, LeO (signal_ascending.l0 k y0 y1 y2 y3) (signal_ascending.l0 (k + 1) y0 y1 y2 y3))
 | 0 => fun _ _ _ _ r h => by simp [signal_ascending.l0] at h
 | k + 1 => by
  have ih0 := signal_ascending.mono_l k
  ·intro y0 y1 y2 y3
   unfold signal_ascending.l0
   repeat' first
   | (with_reducible exact ih0 _ _ _ _)
   | (with_reducible exact LeO.refl _)
   | (with_reducible exact LeO.none _)
   | (with_reducible refine LeO.ite ?_ ?_)
   | (with_reducible refine LeO.bind ?_ (fun _ => ?_))
   | exact ih0 _ _ _ _
   | exact LeO.none _
   | refine LeO.ite ?_ ?_
   | refine LeO.bind ?_ (fun _ => ?_)
theorem signal_ascending.mono : ∀ a0 k, LeO (signal_ascending.f k a0) (signal_ascending.f (k + 1) a0) := by
 intro a0 k
 have ih0 := signal_ascending.mono_l k
 unfold signal_ascending.f
 repeat' first
   | (with_reducible exact ih0 _ _ _ _)
   | (with_reducible exact LeO.refl _)
   | (with_reducible exact LeO.none _)
   | (with_reducible refine LeO.ite ?_ ?_)
   | (with_reducible refine LeO.bind ?_ (fun _ => ?_))
   | exact ih0 _ _ _ _
   | exact LeO.none _
   | refine LeO.ite ?_ ?_
   | refine LeO.bind ?_ (fun _ => ?_)
set_option maxHeartbeats 8000000 in
set_option maxRecDepth 10000000 in
theorem signal_ascending.calls (k : Nat) (A0 : Option Addr) (c0 : Nat) (l0 : List Int) (r : Bool) (w : World) (hr0 : Kd.C (Kd.int .i64) w A0 l0.length l0) (hc0 : l0.length ≤ c0) (h : signal_ascending.f k l0 = some r) :
  Calls Tryd.prog 49 #[.slice A0 l0.length c0] w fun e w' => e = .returned (.bool r) ∧ Below w.heap.size w w' := by
 have HR0 := Zk hr0
 have HC0 := Zk hc0
 clear hr0 hc0
 have HB := Zk (Below.refl w.heap.size w)
 have H : (signal_ascending.l0 k l0 l0 (l0.length : Int) 0) = some r := h
 clear h
 have H' := Zk H
 clear H
 go_enter Tryd.func49, Tryd.ntmps49
 go_wp2
 go_loopg [7] k (fun kq v7 w' => ∃ (x7_1 : Int), v7 = .int .i64 x7_1 ∧ Aside0 (signal_ascending.l0 kq l0 l0 (l0.length : Int) x7_1 = some r) ∧ Aside0 (kq ≤ k) ∧ Aside0 (Below w.heap.size w w'))
 case atStart => exact ⟨(0), (by first | rfl | (simp; done) | (simp [*]; done) | (generalize ByteArray.toList _ = l_; cases l_ <;> rfl)), H', ⟨Nat.le_refl _⟩, ⟨by repeat (first | (with_reducible first | exact HB.out | apply below_alloc | apply pw_below_drewN | apply below_drew1) | exact HB.out)⟩⟩
 case round =>
  clear H'
  obtain ⟨x7_1, rfl, HA, HK1, HB⟩ := hrel
  cases gk with
  | zero => exact absurd HA.out (by simp [signal_ascending.l0])
  | succ k1 =>
   have H := HA.out
   clear HA
   simp only [signal_ascending.l0] at H
   by_cases c2 : x7_1 < (l0.length : Int)
   ·rw [if_pos c2] at H
    have c2b0 : decide (x7_1 < (l0.length : Int)) = true := decide_eq_true c2
    clear c2
    by_cases c3 : 0 ≤ x7_1
    ·rw [if_pos c3] at H
     have c3b0 : decide (0 ≤ x7_1) = true := decide_eq_true c3
     clear c3
     by_cases c4 : x7_1 < (l0.length : Int)
     ·rw [if_pos c4] at H
      have c4b0 : decide (x7_1 < (l0.length : Int)) = true := decide_eq_true c4
      clear c4
      replace H := Option.bind_eq_some_iff.mp H
      obtain ⟨t641, A50, H⟩ := H
      replace H : (if t641.toList = ([] : List UInt8) then (some false) else (if x7_1 > 0 then (if 0 ≤ (wrap64 (x7_1 - 1)) then (if (wrap64 (x7_1 - 1)) < (l0.length : Int) then (if (rd l0 x7_1) ≤ (rd l0 (wrap64 (x7_1 - 1))) then (some false) else (signal_ascending.l0 k1 l0 l0 (l0.length : Int) (wrap64 (x7_1 + 1)))) else (none)) else (none)) else (signal_ascending.l0 k1 l0 l0 (l0.length : Int) (wrap64 (x7_1 + 1))))) = some r := H
      have A5 := Zk A50
      clear A50
      by_cases c6 : t641.toList = ([] : List UInt8)
      ·rw [if_pos c6] at H
       have c6b0 : (t641.toList == ([] : List UInt8)) = true := beq_iff_eq.mpr c6
       have c6b1 : (t641.toList != ([] : List UInt8)) = false := bne_eq_false_iff_eq.mpr c6
       clear c6
       obtain rfl := Option.some.inj H
       have p640 : 0 ≤ (x7_1 : Int) := of_decide_eq_true (by first | (with_reducible assumption) | assumption)
       have q640 : x7_1 < (l0.length : Int) := of_decide_eq_true (by first | (with_reducible assumption) | assumption)
       obtain ⟨ad640, e640, hx640_0⟩ := Kd.at_int HR0.out x7_1 p640 q640
       cases e640
       replace hx640_0 := (HB.out.cell (World.block_lt_of_cell? w _ hx640_0)).trans hx640_0
       replace p640 := eq_true p640
       replace q640 := eq_true q640
       go_wp2_with (first | ((with_reducible refine gate_callee (f := 13) rfl ?_); refine goesL_ (some 13) rfl rfl Tryd.func13 (by kernel_rfl) rfl #[.int .i64 (rd l0 x7_1)] rfl (by (try simp only [List.map_toArray, List.map_cons, List.map_nil]); first | done | rfl | (simp only [List.length_drop, List.length_take]; rfl)) ?_; (with_reducible refine (signal_Name.calls (rd l0 x7_1) t641 _ A5.out).mono ?_); rintro e w7 ⟨rfl, hb⟩; refine ⟨_, rfl, ?_⟩; have n0_ := Zk (below_step (by repeat (first | (with_reducible first | exact HB.out | apply below_alloc | apply pw_below_drewN | apply below_drew1) | exact HB.out)) hb); clear HB; have HB := n0_; clear n0_; (try clear hb); (try clear hb2); (try clear hk); (try clear hi)))
       go_ret
       exact ⟨by first | rfl | (simp [errW_none, errW_some] <;> rfl) | (simp [*, errW_none, errW_some] <;> rfl), by repeat (first | (with_reducible first | exact HB.out | apply below_alloc | apply pw_below_drewN | apply below_drew1) | exact HB.out)⟩
      ·rw [if_neg c6] at H
       have c6b0 : (t641.toList == ([] : List UInt8)) = false := beq_eq_false_iff_ne.mpr c6
       have c6b1 : (t641.toList != ([] : List UInt8)) = true := bne_iff_ne.mpr c6
       by_cases c8 : x7_1 > 0
       ·rw [if_pos c8] at H
        have c8b0 : decide (0 < x7_1) = true := decide_eq_true c8
        clear c8
        obtain ⟨ji9, hji9⟩ : ∃ j_ : Int, (wrap64 (x7_1 - 1)) = j_ := ⟨_, rfl⟩
        replace H : (if 0 ≤ (ji9) then (if (ji9) < (l0.length : Int) then (if (rd l0 x7_1) ≤ (rd l0 (ji9)) then (some false) else (signal_ascending.l0 k1 l0 l0 (l0.length : Int) (wrap64 (x7_1 + 1)))) else (none)) else (none)) = some r := by first | (rw [hji9] at H; exact H) | (simp only [hji9] at H ⊢; exact H)
        (try rw [hji9] at A5)
        have hji9w : (IntKind.i64.wrap (x7_1 - 1)) = ji9 := (i64_w _).trans hji9
        by_cases c10 : 0 ≤ (ji9)
        ·rw [if_pos c10] at H
         have c10b0 : decide (0 ≤ (ji9)) = true := decide_eq_true c10
         clear c10
         by_cases c11 : (ji9) < (l0.length : Int)
         ·rw [if_pos c11] at H
          have c11b0 : decide ((ji9) < (l0.length : Int)) = true := decide_eq_true c11
          clear c11
          by_cases c12 : (rd l0 x7_1) ≤ (rd l0 (ji9))
          ·rw [if_pos c12] at H
           have c12b0 : decide ((rd l0 x7_1) ≤ (rd l0 (ji9))) = true := decide_eq_true c12
           clear c12
           obtain rfl := Option.some.inj H
           have p640 : 0 ≤ (x7_1 : Int) := of_decide_eq_true (by first | (with_reducible assumption) | assumption)
           have q640 : x7_1 < (l0.length : Int) := of_decide_eq_true (by first | (with_reducible assumption) | assumption)
           obtain ⟨ad640, e640, hx640_0⟩ := Kd.at_int HR0.out x7_1 p640 q640
           cases e640
           replace hx640_0 := (HB.out.cell (World.block_lt_of_cell? w _ hx640_0)).trans hx640_0
           replace p640 := eq_true p640
           replace q640 := eq_true q640
           go_wp2_with (first | ((with_reducible refine gate_callee (f := 13) rfl ?_); refine goesL_ (some 13) rfl rfl Tryd.func13 (by kernel_rfl) rfl #[.int .i64 (rd l0 x7_1)] rfl (by (try simp only [List.map_toArray, List.map_cons, List.map_nil]); first | done | rfl | (simp only [List.length_drop, List.length_take]; rfl)) ?_; (with_reducible refine (signal_Name.calls (rd l0 x7_1) t641 _ A5.out).mono ?_); rintro e w13 ⟨rfl, hb⟩; refine ⟨_, rfl, ?_⟩; have n0_ := Zk (below_step (by repeat (first | (with_reducible first | exact HB.out | apply below_alloc | apply pw_below_drewN | apply below_drew1) | exact HB.out)) hb); clear HB; have HB := n0_; clear n0_; (try clear hb); (try clear hb2); (try clear hk); (try clear hi); have p642 : 0 ≤ ((ji9) : Int) := of_decide_eq_true (by first | (with_reducible assumption) | assumption); have q642 : (ji9) < (l0.length : Int) := of_decide_eq_true (by first | (with_reducible assumption) | assumption); obtain ⟨ad642, e642, hx642_0⟩ := Kd.at_int HR0.out (ji9) p642 q642; obtain rfl : ad640 = ad642 := (by injection e642); replace hx642_0 := (HB.out.cell (World.block_lt_of_cell? w _ hx642_0)).trans hx642_0; replace p642 := eq_true p642; replace q642 := eq_true q642))
           go_ret
           exact ⟨by first | rfl | (simp [errW_none, errW_some] <;> rfl) | (simp only [← hji9]; first | rfl | (simp [errW_none, errW_some] <;> rfl)) | (simp [*, errW_none, errW_some] <;> rfl), by repeat (first | (with_reducible first | exact HB.out | apply below_alloc | apply pw_below_drewN | apply below_drew1) | exact HB.out)⟩
          ·rw [if_neg c12] at H
           have c12b0 : decide ((rd l0 x7_1) ≤ (rd l0 (ji9))) = false := decide_eq_false c12
           clear c12
           have H' := Zk H
           clear H
           have p640 : 0 ≤ (x7_1 : Int) := of_decide_eq_true (by first | (with_reducible assumption) | assumption)
           have q640 : x7_1 < (l0.length : Int) := of_decide_eq_true (by first | (with_reducible assumption) | assumption)
           obtain ⟨ad640, e640, hx640_0⟩ := Kd.at_int HR0.out x7_1 p640 q640
           cases e640
           replace hx640_0 := (HB.out.cell (World.block_lt_of_cell? w _ hx640_0)).trans hx640_0
           replace p640 := eq_true p640
           replace q640 := eq_true q640
           go_wp2_with (first | ((with_reducible refine gate_callee (f := 13) rfl ?_); refine goesL_ (some 13) rfl rfl Tryd.func13 (by kernel_rfl) rfl #[.int .i64 (rd l0 x7_1)] rfl (by (try simp only [List.map_toArray, List.map_cons, List.map_nil]); first | done | rfl | (simp only [List.length_drop, List.length_take]; rfl)) ?_; (with_reducible refine (signal_Name.calls (rd l0 x7_1) t641 _ A5.out).mono ?_); rintro e w14 ⟨rfl, hb⟩; refine ⟨_, rfl, ?_⟩; have n0_ := Zk (below_step (by repeat (first | (with_reducible first | exact HB.out | apply below_alloc | apply pw_below_drewN | apply below_drew1) | exact HB.out)) hb); clear HB; have HB := n0_; clear n0_; (try clear hb); (try clear hb2); (try clear hk); (try clear hi); have p642 : 0 ≤ ((ji9) : Int) := of_decide_eq_true (by first | (with_reducible assumption) | assumption); have q642 : (ji9) < (l0.length : Int) := of_decide_eq_true (by first | (with_reducible assumption) | assumption); obtain ⟨ad642, e642, hx642_0⟩ := Kd.at_int HR0.out (ji9) p642 q642; obtain rfl : ad640 = ad642 := (by injection e642); replace hx642_0 := (HB.out.cell (World.block_lt_of_cell? w _ hx642_0)).trans hx642_0; replace p642 := eq_true p642; replace q642 := eq_true q642))
           go_roundg k1
           case measure => have := HK1.out; omega
           case rel => exact ⟨(wrap64 (x7_1 + 1)), (by first | rfl | (simp; done) | (simp [*]; done) | (generalize ByteArray.toList _ = l_; cases l_ <;> rfl)), H', ⟨by have := HK1.out; omega⟩, ⟨by repeat (first | (with_reducible first | exact HB.out | apply below_alloc | apply pw_below_drewN | apply below_drew1) | exact HB.out)⟩⟩
         ·rw [if_neg c11] at H
          exact absurd H (by simp)
        ·rw [if_neg c10] at H
         exact absurd H (by simp)
       ·rw [if_neg c8] at H
        have c8b0 : decide (0 < x7_1) = false := decide_eq_false c8
        clear c8
        have H' := Zk H
        clear H
        have p640 : 0 ≤ (x7_1 : Int) := of_decide_eq_true (by first | (with_reducible assumption) | assumption)
        have q640 : x7_1 < (l0.length : Int) := of_decide_eq_true (by first | (with_reducible assumption) | assumption)
        obtain ⟨ad640, e640, hx640_0⟩ := Kd.at_int HR0.out x7_1 p640 q640
        cases e640
        replace hx640_0 := (HB.out.cell (World.block_lt_of_cell? w _ hx640_0)).trans hx640_0
        replace p640 := eq_true p640
        replace q640 := eq_true q640
        go_wp2_with (first | ((with_reducible refine gate_callee (f := 13) rfl ?_); refine goesL_ (some 13) rfl rfl Tryd.func13 (by kernel_rfl) rfl #[.int .i64 (rd l0 x7_1)] rfl (by (try simp only [List.map_toArray, List.map_cons, List.map_nil]); first | done | rfl | (simp only [List.length_drop, List.length_take]; rfl)) ?_; (with_reducible refine (signal_Name.calls (rd l0 x7_1) t641 _ A5.out).mono ?_); rintro e w15 ⟨rfl, hb⟩; refine ⟨_, rfl, ?_⟩; have n0_ := Zk (below_step (by repeat (first | (with_reducible first | exact HB.out | apply below_alloc | apply pw_below_drewN | apply below_drew1) | exact HB.out)) hb); clear HB; have HB := n0_; clear n0_; (try clear hb); (try clear hb2); (try clear hk); (try clear hi)))
        go_roundg k1
        case measure => have := HK1.out; omega
        case rel => exact ⟨(wrap64 (x7_1 + 1)), (by first | rfl | (simp; done) | (simp [*]; done) | (generalize ByteArray.toList _ = l_; cases l_ <;> rfl)), H', ⟨by have := HK1.out; omega⟩, ⟨by repeat (first | (with_reducible first | exact HB.out | apply below_alloc | apply pw_below_drewN | apply below_drew1) | exact HB.out)⟩⟩
     ·rw [if_neg c4] at H
      exact absurd H (by simp)
    ·rw [if_neg c3] at H
     exact absurd H (by simp)
   ·rw [if_neg c2] at H
    have c2b0 : decide (x7_1 < (l0.length : Int)) = false := decide_eq_false c2
    clear c2
    obtain rfl := Option.some.inj H
    go_wp2
    go_ret
    exact ⟨by first | rfl | (simp [errW_none, errW_some] <;> rfl) | (simp [*, errW_none, errW_some] <;> rfl), by repeat (first | (with_reducible first | exact HB.out | apply below_alloc | apply pw_below_drewN | apply below_drew1) | exact HB.out)⟩
end Go.Proofs.YtnkkdpjipfjdaaaDoor.Q
end
section
namespace Go.Proofs.YtnkkdpjipfjdaaaDoorM
open Go Go.RowKit Go.Proofs.YtnkkdpjipfjdaaaDoorW.PrintWords
section
variable {α β : Type} {A B : Nat → Option α} {r : α} {c : Prop} [Decidable c]
theorem ev_pos (h : c) (k : Ev A r) : Ev (fun n => if c then A n else B n) r := by
  obtain ⟨K, k⟩ := k
  exact ⟨K, fun n hn => (if_pos h).trans (k n hn)⟩
theorem ev_neg (h : ¬ c) (k : Ev B r) : Ev (fun n => if c then A n else B n) r := by
  obtain ⟨K, k⟩ := k
  exact ⟨K, fun n hn => (if_neg h).trans (k n hn)⟩
theorem ev_some {x : Option α} (h : x = some r) : Ev (fun _ => x) r := ⟨0, fun _ _ => h⟩
theorem ev_bindc {x : Option β} {a : β} {f : Nat → β → Option α} (h : x = some a) (k : Ev (fun n => f n a) r) : Ev (fun n => x.bind (f n)) r := by
  obtain ⟨K, k⟩ := k
  exact ⟨K, fun n hn => by show x.bind (f n) = some r; rw [h]; exact k n hn⟩
theorem ev_eq {g : Nat → Option α} {r r' : α} (h : Ev g r) (e : r = r') : Ev g r' := e ▸ h
end
theorem wrap_in {x : Int} (h0 : -9223372036854775808 ≤ x) (h1 : x ≤ 9223372036854775807) : wrap64 x = x := by
  unfold wrap64
  omega
end Go.Proofs.YtnkkdpjipfjdaaaDoorM

end
section
namespace Go.Proofs.YtnkkdpjipfjdaaaDoor.Sg
open Go.RowKit Go.Proofs.YtnkkdpjipfjdaaaDoor.Q Go.Proofs.YtnkkdpjipfjdaaaDoorW.PrintWords Go.Proofs.YtnkkdpjipfjdaaaDoorW.PrintLast Go.Proofs.YtnkkdpjipfjdaaaDoorM Go.Proofs.YtnkkdpjipfjdaaaDoor.Ix
set_option linter.unusedVariables false
theorem awake_30 : jobshelllaw25_awake.f 30 = some true := by kernel_rfl
theorem awake_ev : Ev (fun k => jobshelllaw25_awake.f k) true := by
  refine ⟨30, fun k hk => ?_⟩
  obtain ⟨d, rfl⟩ : ∃ d, k = 30 + d := ⟨k - 30, by omega⟩
  clear hk
  induction d with
  | zero => exact awake_30
  | succ d ih => exact jobshelllaw25_awake.mono (30 + d) _ ih
theorem in21 {n : Int} (h0 : 0 ≤ n) (h1 : n ≤ 20) : n = 0 ∨ n = 1 ∨ n = 2 ∨ n = 3 ∨ n = 4 ∨ n = 5 ∨ n = 6 ∨ n = 7 ∨ n = 8 ∨ n = 9 ∨ n = 10 ∨ n = 11 ∨ n = 12 ∨ n = 13 ∨ n = 14 ∨ n = 15 ∨ n = 16 ∨ n = 17 ∨ n = 18 ∨ n = 19 ∨ n = 20 := by omega
theorem name_out {n : Int} (h : ¬ (0 ≤ n ∧ n ≤ 20)) : sigName n = ⟨#[]⟩ := by
  unfold sigName
  by_cases h0 : 0 ≤ n
  · rw [if_pos h0]
    have : sigNames.length ≤ n.toNat := by show 21 ≤ _; omega
    rw [List.getD_eq_getElem?_getD, List.getElem?_eq_none this]
    rfl
  · rw [if_neg h0]
theorem name_eq (n : Int) : jobshellref25_Name.f n = some (sigName n) := by
  by_cases h : 0 ≤ n ∧ n ≤ 20
  · rcases in21 h.1 h.2 with h | h | h | h | h | h | h | h | h | h | h | h | h | h | h | h | h | h | h | h | h <;> subst h <;> rfl
  · rw [name_out h]
    unfold jobshellref25_Name.f
    repeat rw [if_neg (by omega)]
theorem name_f (n : Int) : signal_Name.f n = some (sigName n) := rfl
/-- A signal: a number with a name. -/
def named (n : Int) : Prop := ¬ (sigName n).toList = ([] : List UInt8)
instance (n : Int) : Decidable (named n) := inferInstanceAs (Decidable (¬ _))
theorem empty_toList : (⟨#[]⟩ : ByteArray).toList = ([] : List UInt8) := by kernel_rfl
theorem named_in {n : Int} (h : named n) : 1 ≤ n ∧ n ≤ 20 := by
  by_cases hr : 0 ≤ n ∧ n ≤ 20
  · by_cases h0 : n = 0
    · subst h0
      exact absurd (show (sigName 0).toList = [] by kernel_rfl) h
    · omega
  · rw [named, name_out hr] at h
    exact absurd empty_toList h
theorem drop_at (l : List Int) (i : Nat) (hi : i < l.length) : l.drop i = l.getD i 0 :: l.drop (i + 1) := by
  rw [List.drop_eq_getElem_cons hi, List.getD_eq_getElem?_getD, List.getElem?_eq_getElem hi]
  rfl
theorem has_from (l : List Int) (n : Int) (hl : l.length ≤ 1000) : ∀ (m i : Nat), i + m = l.length → Ev (fun k => jobshellref25_Has.l0 k l n (i : Int)) (decide (n ∈ l.drop i))
  | 0, i, h => Ev.step (fun k => by apply jobshellref25_Has.l0.eq_2) (ev_neg (by omega) (ev_some (by rw [List.drop_eq_nil_of_le (by omega)]; rfl)))
  | m + 1, i, h => by
    have hi : i < l.length := by omega
    have hd := drop_at l i hi
    have hr : rd l (i : Int) = l.getD i 0 := rfl
    refine Ev.step (fun k => by apply jobshellref25_Has.l0.eq_2) (ev_pos (by omega) (ev_pos (by omega) ?_))
    rw [hr]
    by_cases hq : l.getD i 0 = n
    · exact ev_pos hq (ev_some (by rw [hd, hq]; simp))
    · refine ev_neg hq ?_
      rw [wrap_in (by omega) (by omega), show (i : Int) + 1 = ((i + 1 : Nat) : Int) by omega]
      refine ev_eq (has_from l n hl m (i + 1) (by omega)) ?_
      rw [hd]
      exact decide_eq_decide.2 (by rw [List.mem_cons]; exact ⟨.inr, fun h => h.resolve_left (fun e => hq e.symm)⟩)
theorem has_ev (l : List Int) (n : Int) (hl : l.length ≤ 1000) : Ev (fun k => jobshellref25_Has.f k l n) (decide (n ∈ l)) := by
  have := has_from l n hl l.length 0 (by omega)
  rwa [List.drop_zero] at this
theorem index_from (l : List Int) (n : Int) (hl : l.length ≤ 1000) : ∀ (m i : Nat), i + m = l.length → ∃ r : Int, (r ≥ 0 ↔ n ∈ l.drop i) ∧ Ev (fun k => slices_Index_int_int.l0 k l n (l.length : Int) (i : Int)) r
  | 0, i, h => ⟨-1, by rw [List.drop_eq_nil_of_le (by omega)]; simp, Ev.step (fun k => by apply slices_Index_int_int.l0.eq_2) (ev_neg (by omega) (ev_some rfl))⟩
  | m + 1, i, h => by
    have hi : i < l.length := by omega
    have hd := drop_at l i hi
    have hr : rd l (i : Int) = l.getD i 0 := rfl
    by_cases hq : n = l.getD i 0
    · refine ⟨i, by rw [hd, ← hq]; simp, Ev.step (fun k => by apply slices_Index_int_int.l0.eq_2) (ev_pos (by omega) (ev_pos (by omega) (ev_pos (by omega) (ev_pos (by rw [hr]; exact hq) (ev_some rfl)))))⟩
    · obtain ⟨r, h1, h2⟩ := index_from l n hl m (i + 1) (by omega)
      refine ⟨r, by rw [h1, hd, List.mem_cons]; exact ⟨.inr, fun h => h.resolve_left hq⟩, Ev.step (fun k => by apply slices_Index_int_int.l0.eq_2) (ev_pos (by omega) (ev_pos (by omega) (ev_pos (by omega) (ev_neg (by rw [hr]; exact hq) ?_))))⟩
      rw [wrap_in (by omega) (by omega), show (i : Int) + 1 = ((i + 1 : Nat) : Int) by omega]
      exact h2
theorem contains_ev (l : List Int) (n : Int) (hl : l.length ≤ 1000) : Ev (fun k => slices_Contains_int_int.f k l n) (decide (n ∈ l)) := by
  obtain ⟨r, h1, h2⟩ := index_from l n hl l.length 0 (by omega)
  rw [List.drop_zero] at h1
  exact Ev.bind h2 (ev_some (congrArg some (decide_eq_decide.2 h1)))
/-- From i on, a list has signals only, each above the one ahead. -/
def okFrom (l : List Int) (i : Nat) : Prop := ∀ j, i ≤ j → j < l.length → named (l.getD j 0) ∧ (0 < j → l.getD (j - 1) 0 < l.getD j 0)
theorem ok_next {l : List Int} {i : Nat} (h : named (l.getD i 0) ∧ (0 < i → l.getD (i - 1) 0 < l.getD i 0)) : okFrom l i ↔ okFrom l (i + 1) := by
  constructor
  · exact fun k j h1 h2 => k j (by omega) h2
  · intro k j h1 h2
    by_cases e : j = i
    · subst e; exact h
    · exact k j (by omega) h2
theorem list_from (l : List Int) (hl : l.length ≤ 1000) : ∀ (m i : Nat), i + m = l.length → ∃ b : Bool, (b = true ↔ okFrom l i) ∧ Ev (fun k => jobshellref25_list.l0 k l (i : Int)) b
  | 0, i, h => ⟨true, ⟨fun _ j h1 h2 => by omega, fun _ => rfl⟩, Ev.step (fun k => by apply jobshellref25_list.l0.eq_2) (ev_neg (by omega) (ev_some rfl))⟩
  | m + 1, i, h => by
    have hi : i < l.length := by omega
    have hr : rd l (i : Int) = l.getD i 0 := rfl
    have go : ∀ {b : Bool} {g : Nat → Option Bool}, (∀ k, g k = (if ((sigName (l.getD i 0)).toList = ([] : List UInt8)) then some false else (if (i : Int) > 0 then (if 0 ≤ (wrap64 ((i : Int) - 1)) then (if (wrap64 ((i : Int) - 1)) < (l.length : Int) then (if (rd l (i : Int)) ≤ (rd l (wrap64 ((i : Int) - 1))) then (some false) else (jobshellref25_list.l0 k l (wrap64 ((i : Int) + 1)))) else (none)) else (none)) else (jobshellref25_list.l0 k l (wrap64 ((i : Int) + 1)))))) → Ev g b → Ev (fun k => jobshellref25_list.l0 k l (i : Int)) b := by
      intro b g hg hb
      refine Ev.step (fun k => by apply jobshellref25_list.l0.eq_2) (ev_pos (by omega) (ev_pos (by omega) ?_))
      refine ev_bindc (by rw [hr]; exact name_eq _) ?_
      exact Ev.congr (fun k => (hg k).symm) hb
    by_cases hn : named (l.getD i 0)
    · by_cases h0 : 0 < i
      · have hw : wrap64 ((i : Int) - 1) = ((i - 1 : Nat) : Int) := by rw [wrap_in (by omega) (by omega)]; omega
        have hr2 : rd l ((i - 1 : Nat) : Int) = l.getD (i - 1) 0 := rfl
        by_cases hle : l.getD i 0 ≤ l.getD (i - 1) 0
        · exact ⟨false, ⟨fun h => (by cases h), fun h => absurd ((h i (Nat.le_refl _) hi).2 h0) (by omega)⟩, go (fun k => rfl) (ev_neg hn (ev_pos (by omega) (by rw [hw]; exact ev_pos (by omega) (ev_pos (by omega) (ev_pos (by rw [hr, hr2]; exact hle) (ev_some rfl))))))⟩
        · obtain ⟨b, h1, h2⟩ := list_from l hl m (i + 1) (by omega)
          refine ⟨b, h1.trans (ok_next ⟨hn, fun _ => by omega⟩).symm, go (fun k => rfl) (ev_neg hn (ev_pos (by omega) (by rw [hw]; refine ev_pos (by omega) (ev_pos (by omega) (ev_neg (by rw [hr, hr2]; exact hle) ?_)); rw [wrap_in (by omega) (by omega), show (i : Int) + 1 = ((i + 1 : Nat) : Int) by omega]; exact h2)))⟩
      · obtain ⟨b, h1, h2⟩ := list_from l hl m (i + 1) (by omega)
        refine ⟨b, h1.trans (ok_next ⟨hn, fun h => absurd h h0⟩).symm, go (fun k => rfl) (ev_neg hn (ev_neg (by omega) (by rw [wrap_in (by omega) (by omega), show (i : Int) + 1 = ((i + 1 : Nat) : Int) by omega]; exact h2)))⟩
    · exact ⟨false, ⟨fun h => (by cases h), fun h => absurd (h i (Nat.le_refl _) hi).1 hn⟩, go (fun k => rfl) (ev_pos (Decidable.not_not.1 hn) (ev_some rfl))⟩
theorem asc_list (l : List Int) : ∀ (k : Nat) (i : Int), signal_ascending.l0 k l l (l.length : Int) i = jobshellref25_list.l0 k l i
  | 0, _ => rfl
  | k + 1, i => by
    unfold signal_ascending.l0 jobshellref25_list.l0
    by_cases h1 : i < (l.length : Int)
    · simp only [h1, if_true, name_f, name_eq, asc_list l k]
    · simp only [h1, if_false]
theorem list_ev (l : List Int) (hl : l.length ≤ 1000) : ∃ b : Bool, (b = true ↔ okFrom l 0) ∧ Ev (fun k => jobshellref25_list.f k l) b ∧ Ev (fun k => signal_ascending.f k l) b := by
  obtain ⟨b, h1, h2⟩ := list_from l hl l.length 0 (by omega)
  exact ⟨b, h1, h2, Ev.congr (fun k => asc_list l k 0) h2⟩
theorem ok_named {l : List Int} (h : okFrom l 0) {x : Int} (hx : x ∈ l) : named x := by
  obtain ⟨j, hj, rfl⟩ := List.getElem_of_mem hx
  have := (h j (Nat.zero_le _) hj).1
  rwa [List.getD_eq_getElem?_getD, List.getElem?_eq_getElem hj] at this
end Go.Proofs.YtnkkdpjipfjdaaaDoor.Sg

end
section
namespace Go.Proofs.YtnkkdpjipfjdaaaDoor.Sg
open Go.RowKit Go.Proofs.YtnkkdpjipfjdaaaDoor.Q Go.Proofs.YtnkkdpjipfjdaaaDoorW.PrintWords Go.Proofs.YtnkkdpjipfjdaaaDoorW.PrintLast Go.Proofs.YtnkkdpjipfjdaaaDoorM Go.Proofs.YtnkkdpjipfjdaaaDoor.Ix
set_option linter.unusedVariables false
set_option linter.unusedSectionVars false
theorem ite_iff {c d : Prop} [Decidable c] [Decidable d] {a b : Int} (h : c ↔ d) : (if c then a else b) = if d then a else b := by
  by_cases k : c
  · rw [if_pos k, if_pos (h.1 k)]
  · rw [if_neg k, if_neg (fun e => k (h.2 e))]
def stopsB (n : Int) : Bool := n == 19 || (n == 20 || (n == 4 || n == 5))
theorem stops_ref (n : Int) : jobshellref25_stops.f n = some (stopsB n) := by
  unfold jobshellref25_stops.f stopsB
  by_cases h1 : n = 19
  · subst h1; rfl
  · by_cases h2 : n = 20
    · subst h2; rfl
    · by_cases h3 : n = 4
      · subst h3; rfl
      · rw [if_neg h1, if_neg h2, if_neg h3, beq_eq_false_iff_ne.2 h1, beq_eq_false_iff_ne.2 h2, beq_eq_false_iff_ne.2 h3]; rfl
def badA (g c : List Int) (m : Int) : Prop := ((m = 9 ∨ m = 19) ∧ (m ∈ g ∨ m ∈ c)) ∨ (m ∈ g ∧ m ∈ c)
def badB (p g : List Int) (m : Int) : Prop := (m ≠ 18 ∧ m ∈ p ∧ m ∈ g) ∨ (stopsB m = true ∧ m ∈ p ∧ (18 : Int) ∈ p)
instance (g c : List Int) (m : Int) : Decidable (badA g c m) := by unfold badA; infer_instance
instance (p g : List Int) (m : Int) : Decidable (badB p g m) := by unfold badB; infer_instance
section
variable (p g c : List Int) (hp : p.length ≤ 1000) (hg : g.length ≤ 1000) (hc : c.length ≤ 1000)
include hp hg hc
theorem j4_ev (n : Int) (h0 : 1 ≤ n) (h1 : n ≤ 20) (x : Bool) (r : Int) (hr : Ev (fun k => jobshellref25_Valid.l1 k (n + 1) p g c) r) :
    Ev (fun k => jobshellref25_Valid.j4 k n x p g c) (if x = true ∨ (stopsB n = true ∧ n ∈ p ∧ (18 : Int) ∈ p) then 25 else r) := by
  refine Ev.step (fun k => by apply jobshellref25_Valid.j4.eq_2) ?_
  cases x with
  | true => rw [if_pos (.inl rfl)]; exact ev_pos rfl (ev_some rfl)
  | false =>
    refine ev_neg (by simp) (ev_bindc (stops_ref n) ?_)
    rw [wrap_in (by omega) (by omega)]
    by_cases hs : stopsB n = true
    · refine ev_pos hs (Ev.bind (has_ev p n hp) ?_)
      by_cases hn : n ∈ p
      · refine ev_pos (decide_eq_true hn) (Ev.bind (has_ev p 18 hp) ?_)
        by_cases h18 : (18 : Int) ∈ p
        · rw [if_pos (.inr ⟨hs, hn, h18⟩)]; exact ev_pos (decide_eq_true h18) (ev_some rfl)
        · rw [if_neg (fun h => h.elim (by simp) (fun h => h18 h.2.2))]; exact ev_neg (by simp [h18]) hr
      · rw [if_neg (fun h => h.elim (by simp) (fun h => hn h.2.1))]; exact ev_neg (by simp [hn]) hr
    · rw [if_neg (fun h => h.elim (by simp) (fun h => hs h.1))]; exact ev_neg hs hr
theorem l1_ev : ∀ (m : Nat) (n : Int), 1 ≤ n → n + m = 21 → ∃ r : Int, Ev (fun k => jobshellref25_Valid.l1 k n p g c) r ∧ ((r = 25 ∧ ∃ x, n ≤ x ∧ x ≤ 20 ∧ badB p g x) ∨ (r = 0 ∧ ∀ x, n ≤ x → x ≤ 20 → ¬ badB p g x))
  | 0, n, h0, h => ⟨0, Ev.step (fun k => by apply jobshellref25_Valid.l1.eq_2) (ev_neg (by omega) (ev_some rfl)), .inr ⟨rfl, fun x h1 h2 => by omega⟩⟩
  | m + 1, n, h0, h => by
    obtain ⟨r, h1, h2⟩ := l1_ev m (n + 1) (by omega) (by omega)
    refine ⟨if badB p g n then 25 else r, ?_, ?_⟩
    · refine Ev.step (fun k => by apply jobshellref25_Valid.l1.eq_2) (ev_pos (by omega) ?_)
      by_cases h18 : n = 18
      · refine ev_pos h18 (ev_eq (j4_ev p g c hp hg hc n h0 (by omega) false r h1) ?_)
        refine ite_iff ?_
        unfold badB
        constructor
        · exact fun h => h.elim (by simp) .inr
        · exact fun h => h.elim (fun h => absurd h18 h.1) .inr
      · refine ev_neg h18 (Ev.bind (has_ev p n hp) ?_)
        by_cases hn : n ∈ p
        · refine ev_pos (decide_eq_true hn) (Ev.bind (has_ev g n hg) (ev_eq (j4_ev p g c hp hg hc n h0 (by omega) _ r h1) ?_))
          refine ite_iff ?_
          unfold badB
          simp only [decide_eq_true_eq]
          constructor
          · exact fun h => h.elim (fun h => .inl ⟨h18, hn, h⟩) .inr
          · exact fun h => h.elim (fun h => .inl h.2.2) .inr
        · refine ev_neg (by simp [hn]) (ev_eq (j4_ev p g c hp hg hc n h0 (by omega) false r h1) ?_)
          refine ite_iff ?_
          unfold badB
          constructor
          · exact fun h => h.elim (by simp) .inr
          · exact fun h => h.elim (fun h => absurd h.2.1 hn) .inr
    · by_cases hb : badB p g n
      · rw [if_pos hb]; exact .inl ⟨rfl, n, Int.le_refl _, by omega, hb⟩
      · rw [if_neg hb]
        rcases h2 with ⟨e, x, x1, x2, x3⟩ | ⟨e, hx⟩
        · exact .inl ⟨e, x, by omega, x2, x3⟩
        · refine .inr ⟨e, fun x x1 x2 => ?_⟩
          by_cases hxn : x = n
          · subst hxn; exact hb
          · exact hx x (by omega) x2
theorem j2_ev (n : Int) (h0 : 1 ≤ n) (h1 : n ≤ 20) (x : Bool) (hx : x = true ↔ n = 9 ∨ n = 19) (r : Int) (hr : Ev (fun k => jobshellref25_Valid.l0 k (n + 1) p g c) r) :
    Ev (fun k => jobshellref25_Valid.j2 k n x p g c) (if badA g c n then 1 else r) := by
  refine Ev.step (fun k => by apply jobshellref25_Valid.j2.eq_2) ?_
  rw [wrap_in (by omega) (by omega)]
  by_cases h9 : n = 9 ∨ n = 19
  · refine ev_pos (hx.2 h9) (Ev.bind (has_ev g n hg) ?_)
    by_cases hn : n ∈ g
    · rw [if_pos (.inl ⟨h9, .inl hn⟩)]; exact ev_pos (decide_eq_true hn) (ev_some rfl)
    · refine ev_neg (by simp [hn]) (Ev.bind (has_ev c n hc) ?_)
      by_cases hm : n ∈ c
      · rw [if_pos (.inl ⟨h9, .inr hm⟩)]; exact ev_pos (decide_eq_true hm) (ev_some rfl)
      · rw [if_neg (fun h => h.elim (fun h => h.2.elim hn hm) (fun h => hn h.1))]; exact ev_neg (by simp [hm]) hr
  · refine ev_neg (fun h => h9 (hx.1 h)) (Ev.bind (has_ev g n hg) ?_)
    by_cases hn : n ∈ g
    · refine ev_pos (decide_eq_true hn) (Ev.bind (has_ev c n hc) ?_)
      by_cases hm : n ∈ c
      · rw [if_pos (.inr ⟨hn, hm⟩)]; exact ev_pos (decide_eq_true hm) (ev_some rfl)
      · rw [if_neg (fun h => h.elim (fun h => h9 h.1) (fun h => hm h.2))]; exact ev_neg (by simp [hm]) hr
    · rw [if_neg (fun h => h.elim (fun h => h9 h.1) (fun h => hn h.1))]; exact ev_neg (by simp [hn]) hr
theorem l0_ev (r1 : Int) (hr1 : Ev (fun k => jobshellref25_Valid.l1 k 1 p g c) r1) : ∀ (m : Nat) (n : Int), 1 ≤ n → n + m = 21 → ∃ r : Int, Ev (fun k => jobshellref25_Valid.l0 k n p g c) r ∧ ((r = 1 ∧ ∃ x, n ≤ x ∧ x ≤ 20 ∧ badA g c x) ∨ (r = r1 ∧ ∀ x, n ≤ x → x ≤ 20 → ¬ badA g c x))
  | 0, n, h0, h => ⟨r1, Ev.step (fun k => by apply jobshellref25_Valid.l0.eq_2) (ev_neg (by omega) hr1), .inr ⟨rfl, fun x h1 h2 => by omega⟩⟩
  | m + 1, n, h0, h => by
    obtain ⟨r, h1, h2⟩ := l0_ev r1 hr1 m (n + 1) (by omega) (by omega)
    refine ⟨if badA g c n then 1 else r, ?_, ?_⟩
    · refine Ev.step (fun k => by apply jobshellref25_Valid.l0.eq_2) (ev_pos (by omega) ?_)
      by_cases h9 : n = 9
      · exact ev_pos h9 (j2_ev p g c hp hg hc n h0 (by omega) true ⟨fun _ => .inl h9, fun _ => rfl⟩ r h1)
      · exact ev_neg h9 (j2_ev p g c hp hg hc n h0 (by omega) (n == 19) ⟨fun h => .inr (beq_iff_eq.1 h), fun h => beq_iff_eq.2 (h.resolve_left h9)⟩ r h1)
    · by_cases hb : badA g c n
      · rw [if_pos hb]; exact .inl ⟨rfl, n, Int.le_refl _, by omega, hb⟩
      · rw [if_neg hb]
        rcases h2 with ⟨e, x, x1, x2, x3⟩ | ⟨e, hx⟩
        · exact .inl ⟨e, x, by omega, x2, x3⟩
        · refine .inr ⟨e, fun x x1 x2 => ?_⟩
          by_cases hxn : x = n
          · subst hxn; exact hb
          · exact hx x (by omega) x2
/-- What the reference's Valid answers. -/
theorem valid_ref : ∃ r : Int, Ev (fun k => jobshellref25_Valid.f k p g c) r ∧
    ((r = 1 ∧ ¬ (okFrom p 0 ∧ okFrom g 0 ∧ okFrom c 0)) ∨
     ((okFrom p 0 ∧ okFrom g 0 ∧ okFrom c 0) ∧ ((r = 1 ∧ ∃ x, badA g c x) ∨ ((∀ x, ¬ badA g c x) ∧ ((r = 25 ∧ ∃ x, badB p g x) ∨ (r = 0 ∧ ∀ x, ¬ badB p g x)))))) := by
  obtain ⟨b1, e1, f1, _⟩ := list_ev p hp
  obtain ⟨b2, e2, f2, _⟩ := list_ev g hg
  obtain ⟨b3, e3, f3, _⟩ := list_ev c hc
  have out : Ev (fun k => jobshellref25_Valid.j0 k true p g c) 1 := Ev.step (fun k => by apply jobshellref25_Valid.j0.eq_2) (ev_pos rfl (ev_some rfl))
  cases b1 with
  | false => exact ⟨1, Ev.bind f1 (ev_neg (by simp) out), .inl ⟨rfl, fun h => by simpa using e1.2 h.1⟩⟩
  | true =>
    cases b2 with
    | false => exact ⟨1, Ev.bind f1 (ev_pos rfl (Ev.bind f2 (ev_neg (by simp) out))), .inl ⟨rfl, fun h => by simpa using e2.2 h.2.1⟩⟩
    | true =>
      cases b3 with
      | false => exact ⟨1, Ev.bind f1 (ev_pos rfl (Ev.bind f2 (ev_pos rfl (Ev.bind f3 out)))), .inl ⟨rfl, fun h => by simpa using e3.2 h.2.2⟩⟩
      | true =>
        have k1 := e1.1 rfl
        have k2 := e2.1 rfl
        have k3 := e3.1 rfl
        obtain ⟨r1, g1, s1⟩ := l1_ev p g c hp hg hc 20 1 (by omega) (by omega)
        obtain ⟨r0, g0, s0⟩ := l0_ev p g c hp hg hc r1 g1 20 1 (by omega) (by omega)
        have hA : ∀ x, badA g c x → 1 ≤ x ∧ x ≤ 20 := fun x h => h.elim (fun h => h.2.elim (fun h => named_in (ok_named k2 h)) (fun h => named_in (ok_named k3 h))) (fun h => named_in (ok_named k2 h.1))
        have hB : ∀ x, badB p g x → 1 ≤ x ∧ x ≤ 20 := fun x h => h.elim (fun h => named_in (ok_named k1 h.2.1)) (fun h => named_in (ok_named k1 h.2.1))
        refine ⟨r0, Ev.bind f1 (ev_pos rfl (Ev.bind f2 (ev_pos rfl (Ev.bind f3 (Ev.step (fun k => by apply jobshellref25_Valid.j0.eq_2) (ev_neg (by simp) g0)))))), .inr ⟨⟨k1, k2, k3⟩, ?_⟩⟩
        rcases s0 with ⟨e, x, _, _, hx⟩ | ⟨e, hx⟩
        · exact .inl ⟨e, x, hx⟩
        · refine .inr ⟨fun x h => hx x (hA x h).1 (hA x h).2 h, ?_⟩
          rcases s1 with ⟨e', y, _, _, hy⟩ | ⟨e', hy⟩
          · exact .inl ⟨e.trans e', y, hy⟩
          · exact .inr ⟨e.trans e', fun x h => hy x (hB x h).1 (hB x h).2 h⟩
end
end Go.Proofs.YtnkkdpjipfjdaaaDoor.Sg

end
section
namespace Go.Proofs.YtnkkdpjipfjdaaaDoor.Sg
open Go.RowKit Go.Proofs.YtnkkdpjipfjdaaaDoor.Q Go.Proofs.YtnkkdpjipfjdaaaDoorW.PrintWords Go.Proofs.YtnkkdpjipfjdaaaDoorW.PrintLast Go.Proofs.YtnkkdpjipfjdaaaDoorM Go.Proofs.YtnkkdpjipfjdaaaDoor.Ix
set_option linter.unusedVariables false
theorem less_f (x y : Int) : cmp_Less_int.f x y = some (decide (x < y)) := by
  have h : cmp_isNaN_int.f x = some false := by unfold cmp_isNaN_int.f; simp
  unfold cmp_Less_int.f
  rw [h, Option.bind_some, if_neg Bool.false_ne_true]
theorem nan_f (x : Int) : slices_isNaN_int.f x = some false := by unfold slices_isNaN_int.f; simp
theorem mid_eq (s : Int) (h0 : 0 ≤ s) (h1 : s ≤ 4000) : wrap64 ((IntKind.u64.wrap (wrap64 s)) / 2) = s / 2 := by
  rw [wrap_in (x := s) (by omega) (by omega), show IntKind.u64.wrap s = s by rw [IntKind.wrap_u64]; omega, wrap_in (by omega) (by omega)]
/-- Below p, a list is below x; from p on it is not. -/
def cutAt (l : List Int) (x : Int) (p : Nat) : Prop := p ≤ l.length ∧ (∀ q, q < p → l.getD q 0 < x) ∧ ∀ q, p ≤ q → q < l.length → x ≤ l.getD q 0
theorem asc_get {l : List Int} (h : okFrom l 0) : ∀ (d i : Nat), i + d < l.length → l.getD i 0 ≤ l.getD (i + d) 0
  | 0, i, _ => Int.le_refl _
  | d + 1, i, hd => by
    have h1 := asc_get h d i (by omega)
    have h2 := (h (i + d + 1) (Nat.zero_le _) (by omega)).2 (by omega)
    rw [Nat.add_sub_cancel] at h2
    rw [← Nat.add_assoc]
    omega
theorem bs_from (l : List Int) (x : Int) (hl : l.length ≤ 1000) (ha : okFrom l 0) : ∀ (d i j : Nat), j = i + d → j ≤ l.length → (∀ q, q < i → l.getD q 0 < x) → (∀ q, j ≤ q → q < l.length → x ≤ l.getD q 0) →
    ∃ p : Nat, cutAt l x p ∧ Ev (fun k => slices_BinarySearch_int_int.l0 k l x (l.length : Int) (i : Int) (j : Int)) ((p : Int), decide (p < l.length ∧ l.getD p 0 = x)) := by
  intro d
  induction d using Nat.strongRecOn with
  | ind d ih =>
    intro i j hj hjl h1 h2
    by_cases hd : d = 0
    · subst hd
      obtain rfl : i = j := by omega
      refine ⟨i, ⟨hjl, h1, h2⟩, Ev.step (fun k => by apply slices_BinarySearch_int_int.l0.eq_2) (ev_neg (by omega) ?_)⟩
      by_cases hi : i < l.length
      · refine ev_pos (by omega) (ev_pos (by omega) (ev_pos (by omega) ?_))
        have hr : rd l (i : Int) = l.getD i 0 := rfl
        rw [hr]
        by_cases hx : l.getD i 0 = x
        · exact ev_pos hx (ev_some (by rw [decide_eq_true (p := _ ∧ _) ⟨hi, hx⟩]))
        · refine ev_neg hx (ev_bindc (nan_f _) ?_)
          exact ev_neg Bool.false_ne_true (ev_some (by rw [decide_eq_false (p := _ ∧ _) (fun h => hx h.2)]))
      · exact ev_neg (by omega) (ev_some (by rw [decide_eq_false (p := _ ∧ _) (fun h => hi h.1)]))
    · have hm := mid_eq ((i : Int) + (j : Int)) (by omega) (by omega)
      obtain ⟨m, hmm⟩ : ∃ m : Nat, m = (i + j) / 2 := ⟨_, rfl⟩
      have hmi : ((i : Int) + (j : Int)) / 2 = (m : Int) := by omega
      rw [hmi] at hm
      have hr : rd l (m : Int) = l.getD m 0 := rfl
      by_cases hlt : l.getD m 0 < x
      · obtain ⟨p, hp, hev⟩ := ih (j - (m + 1)) (by omega) (m + 1) j (by omega) hjl (fun q hq => by
          have := asc_get ha (m - q) q (by omega)
          rw [show q + (m - q) = m by omega] at this
          omega) h2
        refine ⟨p, hp, Ev.step (fun k => by apply slices_BinarySearch_int_int.l0.eq_2) (ev_pos (by omega) ?_)⟩
        rw [hm]
        refine ev_pos (by omega) (ev_pos (by omega) (ev_bindc (less_f _ _) ?_))
        rw [hr]
        refine ev_pos (decide_eq_true hlt) ?_
        rw [wrap_in (by omega) (by omega), show (m : Int) + 1 = ((m + 1 : Nat) : Int) by omega]
        exact hev
      · obtain ⟨p, hp, hev⟩ := ih (m - i) (by omega) i m (by omega) (by omega) h1 (fun q hq hql => by
          have := asc_get ha (q - m) m (by omega)
          rw [show m + (q - m) = q by omega] at this
          omega)
        refine ⟨p, hp, Ev.step (fun k => by apply slices_BinarySearch_int_int.l0.eq_2) (ev_pos (by omega) ?_)⟩
        rw [hm]
        refine ev_pos (by omega) (ev_pos (by omega) (ev_bindc (less_f _ _) ?_))
        rw [hr]
        exact ev_neg (fun h => hlt (of_decide_eq_true h)) hev
/-- A list with another number. -/
theorem with_ev (l : List Int) (x : Int) (hl : l.length ≤ 1000) (ha : okFrom l 0) : ∃ p : Nat, cutAt l x p ∧ Ev (fun k => signal_with.f k l x) (if p < l.length ∧ l.getD p 0 = x then l else l.take p ++ x :: l.drop p) := by
  obtain ⟨p, hp, hev⟩ := bs_from l x hl ha l.length 0 l.length (by omega) (Nat.le_refl _) (fun q hq => absurd hq (Nat.not_lt_zero _)) (fun q hq hq2 => absurd hq2 (by omega))
  refine ⟨p, hp, Ev.bind hev (ev_pos (by omega) ?_)⟩
  by_cases h : p < l.length ∧ l.getD p 0 = x
  · rw [if_pos h]
    exact ev_pos (decide_eq_true h) (ev_some rfl)
  · rw [if_neg h]
    have := hp.1
    exact ev_neg (fun e => h (of_decide_eq_true e)) (ev_pos (by show (0 : Int) ≤ (p : Int) ∧ (p : Int) ≤ _; omega) (ev_some rfl))
end Go.Proofs.YtnkkdpjipfjdaaaDoor.Sg

end
section
namespace Go.Proofs.YtnkkdpjipfjdaaaDoor.Sg
open Go.RowKit Go.Proofs.YtnkkdpjipfjdaaaDoor.Q Go.Proofs.YtnkkdpjipfjdaaaDoorW.PrintWords Go.Proofs.YtnkkdpjipfjdaaaDoorW.PrintLast Go.Proofs.YtnkkdpjipfjdaaaDoorM Go.Proofs.YtnkkdpjipfjdaaaDoor.Ix
set_option linter.unusedVariables false
def withL (l : List Int) (x : Int) (p : Nat) : List Int := if p < l.length ∧ l.getD p 0 = x then l else l.take p ++ x :: l.drop p
theorem withL_mem (l : List Int) (x : Int) (p : Nat) (y : Int) : y ∈ withL l x p ↔ y = x ∨ y ∈ l := by
  unfold withL
  by_cases h : p < l.length ∧ l.getD p 0 = x
  · rw [if_pos h]
    have hx : x ∈ l := by
      rw [← h.2, List.getD_eq_getElem?_getD, List.getElem?_eq_getElem h.1]
      exact List.getElem_mem h.1
    exact ⟨.inr, fun k => k.elim (fun e => e ▸ hx) id⟩
  · rw [if_neg h, List.mem_append, List.mem_cons]
    have e : y ∈ l ↔ y ∈ l.take p ∨ y ∈ l.drop p := by
      rw [← List.mem_append, List.take_append_drop]
    rw [e]
    exact ⟨fun k => k.elim (fun a => .inr (.inl a)) (fun k => k.elim .inl (fun a => .inr (.inr a))), fun k => k.elim (fun a => .inr (.inl a)) (fun k => k.elim .inl (fun a => .inr (.inr a)))⟩
theorem withL_len (l : List Int) (x : Int) (p : Nat) (hp : p ≤ l.length) : (withL l x p).length ≤ l.length + 1 := by
  unfold withL
  split
  · omega
  · simp; omega
/-- Ascending lists of signals, told by order. -/
theorem ok_pair {l : List Int} : okFrom l 0 ↔ (∀ x ∈ l, named x) ∧ l.Pairwise (· < ·) := by
  constructor
  · intro h
    refine ⟨fun x hx => ok_named h hx, ?_⟩
    rw [List.pairwise_iff_getElem]
    intro i j hi hj hij
    have h1 := asc_get h (j - 1 - i) i (by omega)
    have h2 := (h j (Nat.zero_le _) hj).2 (by omega)
    rw [show i + (j - 1 - i) = j - 1 by omega] at h1
    have e1 : l.getD i 0 = l[i] := by rw [List.getD_eq_getElem?_getD, List.getElem?_eq_getElem hi]; rfl
    have e2 : l.getD j 0 = l[j] := by rw [List.getD_eq_getElem?_getD, List.getElem?_eq_getElem hj]; rfl
    omega
  · intro ⟨h1, h2⟩ j _ hj
    rw [List.pairwise_iff_getElem] at h2
    have e2 : l.getD j 0 = l[j] := by rw [List.getD_eq_getElem?_getD, List.getElem?_eq_getElem hj]; rfl
    refine ⟨by rw [e2]; exact h1 _ (List.getElem_mem hj), fun h0 => ?_⟩
    have hj1 : j - 1 < l.length := by omega
    have e1 : l.getD (j - 1) 0 = l[j - 1] := by rw [List.getD_eq_getElem?_getD, List.getElem?_eq_getElem hj1]; rfl
    rw [e1, e2]
    exact h2 (j - 1) j hj1 hj (by omega)
theorem ok_filter {l : List Int} (h : okFrom l 0) (f : Int → Bool) : okFrom (l.filter f) 0 := by
  rw [ok_pair] at h ⊢
  exact ⟨fun x hx => h.1 x (List.mem_filter.1 hx).1, h.2.filter f⟩
theorem withL_ok {l : List Int} {x : Int} {p : Nat} (h : okFrom l 0) (hn : named x) (hp : cutAt l x p) : okFrom (withL l x p) 0 := by
  have h' := ok_pair.1 h
  refine ok_pair.2 ⟨fun y hy => (withL_mem l x p y).1 hy |>.elim (fun e => e ▸ hn) (h'.1 y), ?_⟩
  unfold withL
  by_cases hf : p < l.length ∧ l.getD p 0 = x
  · rw [if_pos hf]; exact h'.2
  · rw [if_neg hf]
    have hlow : ∀ y ∈ l.take p, y < x := by
      intro y hy
      obtain ⟨q, hq, rfl⟩ := List.getElem_of_mem hy
      rw [List.length_take] at hq
      have := hp.2.1 q (by omega)
      rw [List.getD_eq_getElem?_getD, List.getElem?_eq_getElem (by omega)] at this
      rw [List.getElem_take]
      exact this
    have hhigh : ∀ y ∈ l.drop p, x < y := by
      intro y hy
      obtain ⟨q, hq, rfl⟩ := List.getElem_of_mem hy
      rw [List.length_drop] at hq
      have h0 := hp.2.2 (p + q) (by omega) (by omega)
      have hpl : p < l.length := by omega
      have h1 := hp.2.2 p (Nat.le_refl _) hpl
      have h2 := asc_get h q p (by omega)
      have hne : l.getD p 0 ≠ x := fun e => hf ⟨hpl, e⟩
      rw [List.getElem_drop]
      have e2 : l.getD (p + q) 0 = l[p + q] := by rw [List.getD_eq_getElem?_getD, List.getElem?_eq_getElem (by omega)]; rfl
      omega
    rw [List.pairwise_append]
    refine ⟨h'.2.sublist (List.take_sublist _ _), List.pairwise_cons.2 ⟨hhigh, h'.2.sublist (List.drop_sublist _ _)⟩, fun a ha b hb => ?_⟩
    rcases List.mem_cons.1 hb with rfl | hb
    · exact hlow a ha
    · have := hlow a ha
      have := hhigh b hb
      omega
end Go.Proofs.YtnkkdpjipfjdaaaDoor.Sg

end
section
namespace Go.Proofs.YtnkkdpjipfjdaaaDoor.Sg
open Go.RowKit Go.Proofs.YtnkkdpjipfjdaaaDoor.Q Go.Proofs.YtnkkdpjipfjdaaaDoorW.PrintWords Go.Proofs.YtnkkdpjipfjdaaaDoorW.PrintLast Go.Proofs.YtnkkdpjipfjdaaaDoorM Go.Proofs.YtnkkdpjipfjdaaaDoor.Ix
set_option linter.unusedVariables false
theorem stops_sig (n : Int) : signal_stops.f n = some (stopsB n) := stops_ref n
theorem clone_f (l : List Int) (h : l.length ≤ 1000) : slices_Clone_int_int.f l = some l := by
  unfold slices_Clone_int_int.f
  rw [if_pos (by omega)]
theorem copied_f (p g c : List Int) (hp : p.length ≤ 1000) (hg : g.length ≤ 1000) (hc : c.length ≤ 1000) : signal_copied.f p g c = some (p, g, c) := by
  unfold signal_copied.f
  rw [clone_f p hp, clone_f g hg, clone_f c hc]
  rfl
/-- What a sent signal leaves of the pending ones. -/
def cleared (p : List Int) (n : Int) : List Int := if n = 18 then p.filter (fun x => !stopsB x) else if stopsB n = true then p.filter (fun x => !(x == 18)) else p
theorem cleared_len (p : List Int) (n : Int) : (cleared p n).length ≤ p.length := by
  unfold cleared
  split
  · exact List.length_filter_le _ _
  · split
    · exact List.length_filter_le _ _
    · exact Nat.le_refl _
theorem cleared_ok {p : List Int} (h : okFrom p 0) (n : Int) : okFrom (cleared p n) 0 := by
  unfold cleared
  split
  · exact ok_filter h _
  · split
    · exact ok_filter h _
    · exact h
theorem send_ev (p g c : List Int) (n : Int) (hp : p.length ≤ 900) (hg : g.length ≤ 1000) (hc : c.length ≤ 1000) (ho : okFrom p 0) (hn : named n) :
    ∃ q, cutAt (cleared p n) n q ∧ Ev (fun k => signal_Send.f k p g c n) (if n ≠ 18 ∧ n ∈ g then cleared p n else withL (cleared p n) n q, g, c) := by
  have hcl := cleared_len p n
  obtain ⟨q, hq, hev⟩ := with_ev (cleared p n) n (by omega) (cleared_ok ho n)
  refine ⟨q, hq, ?_⟩
  have hj : Ev (fun k => signal_Send.j0 k n (cleared p n) g c) (if n ≠ 18 ∧ n ∈ g then cleared p n else withL (cleared p n) n q, g, c) := by
    refine Ev.step (fun k => by apply signal_Send.j0.eq_2) ?_
    by_cases h18 : n = 18
    · rw [if_neg (fun h => h.1 h18)]
      exact ev_pos h18 (Ev.bind hev (ev_some rfl))
    · refine ev_neg h18 (Ev.bind (contains_ev g n hg) ?_)
      by_cases hin : n ∈ g
      · rw [if_pos ⟨h18, hin⟩]
        exact ev_pos (decide_eq_true hin) (ev_some rfl)
      · rw [if_neg (fun h => hin h.2)]
        exact ev_neg (fun h => hin (of_decide_eq_true h)) (Ev.bind hev (ev_some rfl))
  refine ev_bindc (name_f n) (ev_neg hn (ev_bindc (copied_f p g c (by omega) hg hc) ?_))
  by_cases h18 : n = 18
  · have e : cleared p n = p.filter (fun x => !stopsB x) := by unfold cleared; rw [if_pos h18]
    rw [e] at hj ⊢
    refine ev_pos h18 (ev_bindc (by unfold signal_without_stops.f; rw [if_pos (by show p.length < _; omega)]) ?_)
    exact hj
  · refine ev_neg h18 (ev_bindc (stops_sig n) ?_)
    by_cases hs : stopsB n = true
    · have e : cleared p n = p.filter (fun x => !(x == 18)) := by unfold cleared; rw [if_neg h18, if_pos hs]
      rw [e] at hj ⊢
      refine ev_pos hs (ev_bindc (by unfold signal_without_1_44.f; rw [if_pos (by show p.length < _; omega)]) ?_)
      exact hj
    · have e : cleared p n = p := by unfold cleared; rw [if_neg h18, if_neg hs]
      rw [e] at hj ⊢
      exact ev_neg hs hj
end Go.Proofs.YtnkkdpjipfjdaaaDoor.Sg

end
section
namespace Go.Proofs.YtnkkdpjipfjdaaaDoor.Sg
open Go.RowKit Go.Proofs.YtnkkdpjipfjdaaaDoor.Q Go.Proofs.YtnkkdpjipfjdaaaDoorW.PrintWords Go.Proofs.YtnkkdpjipfjdaaaDoorW.PrintLast Go.Proofs.YtnkkdpjipfjdaaaDoorM Go.Proofs.YtnkkdpjipfjdaaaDoor.Ix
set_option linter.unusedVariables false
def fixedB (n : Int) : Bool := n == 9 || n == 19
theorem fixed_f (n : Int) : signal_fixed.f n = some (fixedB n) := by
  unfold signal_fixed.f fixedB
  by_cases h : n = 9
  · subst h; rfl
  · rw [if_neg h, beq_eq_false_iff_ne.2 h]; rfl
/-- A list without a number. -/
def lessL (l : List Int) (n : Int) : List Int := l.filter fun x => !(x == n)
theorem lessL_len (l : List Int) (n : Int) : (lessL l n).length ≤ l.length := List.length_filter_le _ _
theorem lessL_mem (l : List Int) (n y : Int) : y ∈ lessL l n ↔ y ∈ l ∧ y ≠ n := by
  unfold lessL
  rw [List.mem_filter]
  simp
theorem less48 (l : List Int) (n : Int) (h : l.length ≤ 1000) : signal_without_1_48.f l n = some (lessL l n) := by
  unfold signal_without_1_48.f lessL
  rw [if_pos (by omega)]
theorem set_bad (p g c : List Int) (n how : Int) (h : ¬ (named n ∧ fixedB n = false ∧ 0 ≤ how ∧ how ≤ 2)) : Ev (fun k => signal_Set.f k p g c n how) (p, g, c, 1) := by
  have out : Ev (fun k => signal_Set.j0 k how true p g c n) (p, g, c, 1) := Ev.step (fun k => by apply signal_Set.j0.eq_2) (ev_pos rfl (ev_some rfl))
  refine ev_bindc (name_f n) ?_
  by_cases hn : named n
  · refine ev_neg hn (ev_bindc (fixed_f n) ?_)
    cases hf : fixedB n with
    | true => exact ev_pos rfl out
    | false =>
      refine ev_neg Bool.false_ne_true ?_
      by_cases h0 : how < 0
      · exact ev_pos h0 out
      · refine ev_neg h0 ?_
        have : how > 2 := by
          by_cases h2 : how > 2
          · exact h2
          · exact absurd ⟨hn, hf, by omega, by omega⟩ h
        rw [decide_eq_true this]
        exact out
  · exact ev_pos (Decidable.not_not.1 hn) out
theorem set_good (p g c : List Int) (n how : Int) (hp : p.length ≤ 900) (hg : g.length ≤ 900) (hc : c.length ≤ 900) (hog : okFrom g 0) (hoc : okFrom c 0) (h : named n ∧ fixedB n = false ∧ 0 ≤ how ∧ how ≤ 2) :
    ∃ q q' : Nat, cutAt (lessL g n) n q ∧ cutAt (lessL c n) n q' ∧ Ev (fun k => signal_Set.f k p g c n how)
      (if how = 1 then (if n = 18 then p else lessL p n) else p, if how = 1 then withL (lessL g n) n q else lessL g n, if how = 2 then withL (lessL c n) n q' else lessL c n, 0) := by
  have hgl := lessL_len g n
  have hcl := lessL_len c n
  obtain ⟨q, hq, hev⟩ := with_ev (lessL g n) n (by omega) (ok_filter hog _)
  obtain ⟨q', hq', hev'⟩ := with_ev (lessL c n) n (by omega) (ok_filter hoc _)
  refine ⟨q, q', hq, hq', ?_⟩
  refine ev_bindc (name_f n) (ev_neg h.1 (ev_bindc ((fixed_f n).trans (congrArg some h.2.1)) (ev_neg Bool.false_ne_true (ev_neg (by omega) ?_))))
  rw [decide_eq_false (p := how > 2) (by omega)]
  refine Ev.step (fun k => by apply signal_Set.j0.eq_2) (ev_neg Bool.false_ne_true (ev_bindc (copied_f p g c (by omega) (by omega) (by omega)) (ev_bindc (less48 g n (by omega)) (ev_bindc (less48 c n (by omega)) ?_))))
  by_cases h1 : how = 1
  · refine ev_pos h1 (Ev.bind hev ?_)
    rw [if_pos h1, if_pos h1, if_neg (show ¬ how = 2 by omega)]
    by_cases h18 : n = 18
    · rw [if_pos h18, if_pos h18]
      exact ev_some rfl
    · rw [if_neg h18, if_neg h18]
      exact (ev_bindc (less48 p n (by omega)) (ev_some rfl))
  · refine ev_neg h1 ?_
    rw [if_neg h1, if_neg h1]
    by_cases h2 : how = 2
    · refine ev_pos h2 (Ev.bind hev' ?_)
      rw [if_pos h2]
      exact ev_some rfl
    · refine ev_neg h2 ?_
      rw [if_neg h2]
      exact ev_some rfl
end Go.Proofs.YtnkkdpjipfjdaaaDoor.Sg

end
section
namespace Go.Proofs.YtnkkdpjipfjdaaaDoor.Pure
open Go.RowKit Go.Proofs.YtnkkdpjipfjdaaaDoor.Q Go.Proofs.YtnkkdpjipfjdaaaDoorW.PrintWords Go.Proofs.YtnkkdpjipfjdaaaDoorW.PrintLast Go.Proofs.YtnkkdpjipfjdaaaDoorM Go.Proofs.YtnkkdpjipfjdaaaDoor.Ix Go.Proofs.YtnkkdpjipfjdaaaDoor.Sg
set_option linter.unusedVariables false
theorem cleared_not {p : List Int} {n : Int} (h : n ∉ p) : n ∉ cleared p n := by
  unfold cleared
  split
  · exact fun k => h (List.mem_filter.1 k).1
  · split
    · exact fun k => h (List.mem_filter.1 k).1
    · exact h
theorem j1_ign (P G C : List Int) (n how : Int) (hp : P.length ≤ 100) (hg : G.length ≤ 100) (hc : C.length ≤ 100) (hop : okFrom P 0) (hn : named n) (h18 : n ≠ 18) (hno : n ∉ P) (hG : n ∈ G ↔ ¬ (how = 0 ∨ how = 2)) :
    Ev (fun k => jobshelllaw25_SignalIgnored.j1 k n how false P G C) true := by
  obtain ⟨q, hq, e⟩ := send_ev P G C n (by omega) (by omega) (by omega) hop hn
  have lc := cleared_len P n
  have lw := withL_len (cleared P n) n q hq.1
  have hres : (n ∈ (if n ≠ 18 ∧ n ∈ G then cleared P n else withL (cleared P n) n q)) ↔ (how = 0 ∨ how = 2) := by
    by_cases hg : n ∈ G
    · rw [if_pos ⟨h18, hg⟩]
      exact ⟨fun h => absurd h (cleared_not hno), fun h => absurd h (hG.1 hg)⟩
    · rw [if_neg (fun h => hg h.2)]
      exact ⟨fun _ => Decidable.not_not.1 (fun h => hg (hG.2 h)), fun _ => (withL_mem _ _ _ _).2 (.inl rfl)⟩
  refine Ev.step (fun k => by apply jobshelllaw25_SignalIgnored.j1.eq_2) (ev_neg Bool.false_ne_true (Ev.bind e (Ev.bind (has_ev _ n (by show (if n ≠ 18 ∧ n ∈ G then cleared P n else withL (cleared P n) n q).length ≤ _; split <;> omega)) ?_)))
  by_cases h0 : how = 0
  · refine ev_pos h0 (ev_pos ?_ (Ev.bind awake_ev (ev_some rfl)))
    rw [decide_eq_true (hres.2 (.inl h0))]; rfl
  · refine ev_neg h0 (ev_pos ?_ (Ev.bind awake_ev (ev_some rfl)))
    by_cases h2 : how = 2
    · rw [decide_eq_true (hres.2 (.inr h2)), h2]; rfl
    · rw [decide_eq_false (fun h => (hres.1 h).elim h0 h2), beq_eq_false_iff_ne.2 h2]; rfl
theorem main_ign (p g c : List Int) (n how : Int) (hp : p.length ≤ 30) (hg : g.length ≤ 30) (hc : c.length ≤ 30) (hop : okFrom p 0) (hog : okFrom g 0) (hoc : okFrom c 0) (hn : named n) (hf : fixedB n = false) (h18 : n ≠ 18) :
    Ev (fun k => jobshelllaw25_SignalIgnored.j0 k n how false p g c) true := by
  obtain ⟨q1, q1', hq1, _, e1⟩ := set_good p g c n 1 (by omega) (by omega) (by omega) hog hoc ⟨hn, hf, by omega, by omega⟩
  rw [if_pos rfl, if_pos rfl, if_neg h18, if_neg (by omega)] at e1
  have l1 := lessL_len p n
  have l2 := lessL_len g n
  have l3 := lessL_len c n
  have hin : n ∈ withL (lessL g n) n q1 := (withL_mem _ _ _ _).2 (.inl rfl)
  have lw := withL_len (lessL g n) n q1 hq1.1
  have okw := withL_ok (ok_filter hog _) hn hq1
  obtain ⟨_, _, e2⟩ := send_ev (lessL p n) (withL (lessL g n) n q1) (lessL c n) n (by omega) (by omega) (by omega) (ok_filter hop _) hn
  rw [if_pos ⟨h18, hin⟩] at e2
  have lc := cleared_len (lessL p n) n
  have hnot : n ∉ cleared (lessL p n) n := by
    have h0 : n ∉ lessL p n := fun h => ((lessL_mem p n n).1 h).2 rfl
    unfold cleared
    rw [if_neg h18]
    split
    · exact fun h => h0 (List.mem_filter.1 h).1
    · exact h0
  refine Ev.step (fun k => by apply jobshelllaw25_SignalIgnored.j0.eq_2) (ev_neg Bool.false_ne_true (Ev.bind e1 (Ev.bind e2 ?_)))
  have tail : ∀ (P2 G2 C2 : List Int) (f : Int), n ∉ P2 → okFrom P2 0 → P2.length ≤ 100 → G2.length ≤ 100 → C2.length ≤ 100 → (n ∈ G2 ↔ ¬ (how = 0 ∨ how = 2)) → (f = 0 ↔ 0 ≤ how ∧ how ≤ 2) →
      Ev (fun k => if (0 : Int) = 0 then ((jobshellref25_Has.f k (cleared (lessL p n) n) n).bind fun t510 => (if t510 = true then (jobshelllaw25_SignalIgnored.j1 k n how true P2 G2 C2) else ((jobshellref25_Has.f k P2 n).bind fun t511 => (if t511 = true then (jobshelllaw25_SignalIgnored.j1 k n how true P2 G2 C2) else (if how ≥ 0 then (jobshelllaw25_SignalIgnored.j1 k n how ((f == 0) != (decide (how ≤ 2))) P2 G2 C2) else (jobshelllaw25_SignalIgnored.j1 k n how ((f == 0) != false) P2 G2 C2)))))) else (jobshelllaw25_SignalIgnored.j1 k n how true P2 G2 C2)) true := by
    intro P2 G2 C2 f hno hok lp lg lcc hG hfi
    have hj := j1_ign P2 G2 C2 n how lp lg lcc hok hn h18 hno hG
    refine ev_pos rfl (Ev.bind (has_ev _ n (by omega)) (ev_neg (fun h => hnot (of_decide_eq_true h)) (Ev.bind (has_ev P2 n (by omega)) (ev_neg (fun h => hno (of_decide_eq_true h)) ?_))))
    by_cases h0 : how ≥ 0
    · refine ev_pos h0 ?_
      have e : ((f == 0) != decide (how ≤ 2)) = false := by
        by_cases h2 : how ≤ 2
        · rw [decide_eq_true h2, beq_iff_eq.2 (hfi.2 ⟨h0, h2⟩)]; rfl
        · rw [decide_eq_false h2, beq_eq_false_iff_ne.2 (fun e => h2 (hfi.1 e).2)]; rfl
      rw [e]
      exact hj
    · refine ev_neg h0 ?_
      have e : ((f == 0) != false) = false := by
        rw [beq_eq_false_iff_ne.2 (fun e => h0 (hfi.1 e).1)]; rfl
      rw [e]
      exact hj
  by_cases hh : 0 ≤ how ∧ how ≤ 2
  · obtain ⟨q2, q2', hq2, hq2', e3⟩ := set_good (cleared (lessL p n) n) (withL (lessL g n) n q1) (lessL c n) n how (by omega) (by omega) (by omega) okw (ok_filter hoc _) ⟨hn, hf, hh.1, hh.2⟩
    have m1 := lessL_len (cleared (lessL p n) n) n
    have m2 := lessL_len (withL (lessL g n) n q1) n
    have m3 := lessL_len (lessL c n) n
    have m4 := withL_len (lessL (withL (lessL g n) n q1) n) n q2 hq2.1
    have m5 := withL_len (lessL (lessL c n) n) n q2' hq2'.1
    have hno2 : n ∉ lessL (cleared (lessL p n) n) n := fun h => hnot ((lessL_mem _ _ _).1 h).1
    have hgo : n ∉ lessL (withL (lessL g n) n q1) n := fun h => ((lessL_mem _ n n).1 h).2 rfl
    have hcok := cleared_ok (ok_filter hop (fun x => !(x == n))) n
    refine Ev.bind e3 (tail _ _ _ 0 ?_ ?_ ?_ ?_ ?_ ?_ ⟨fun _ => hh, fun _ => rfl⟩)
    · by_cases h1 : how = 1
      · show n ∉ (if how = 1 then _ else _)
        rw [if_pos h1, if_neg h18]; exact hno2
      · show n ∉ (if how = 1 then _ else _)
        rw [if_neg h1]; exact hnot
    · show okFrom (if how = 1 then _ else _) 0
      by_cases h1 : how = 1
      · rw [if_pos h1, if_neg h18]; exact ok_filter hcok _
      · rw [if_neg h1]; exact hcok
    · show (if how = 1 then _ else _ : List Int).length ≤ 100
      by_cases h1 : how = 1
      · rw [if_pos h1, if_neg h18]; omega
      · rw [if_neg h1]; omega
    · show (if how = 1 then _ else _ : List Int).length ≤ 100
      by_cases h1 : how = 1
      · rw [if_pos h1]; omega
      · rw [if_neg h1]; omega
    · show (if how = 2 then _ else _ : List Int).length ≤ 100
      by_cases h1 : how = 2
      · rw [if_pos h1]; omega
      · rw [if_neg h1]; omega
    · show n ∈ (if how = 1 then _ else _ : List Int) ↔ _
      by_cases h1 : how = 1
      · rw [if_pos h1]
        exact ⟨fun _ => by omega, fun _ => (withL_mem _ _ _ _).2 (.inl rfl)⟩
      · rw [if_neg h1]
        exact ⟨fun h => absurd h hgo, fun h => absurd (by omega : how = 0 ∨ how = 2) h⟩
  · have e3 := set_bad (cleared (lessL p n) n) (withL (lessL g n) n q1) (lessL c n) n how (fun h => hh ⟨h.2.2.1, h.2.2.2⟩)
    exact Ev.bind e3 (tail _ _ _ 1 hnot (cleared_ok (ok_filter hop _) n) (by show (cleared (lessL p n) n).length ≤ _; omega) (by show (withL (lessL g n) n q1).length ≤ _; omega) (by show (lessL c n).length ≤ _; omega) ⟨fun _ => by omega, fun _ => hin⟩ ⟨fun h => by omega, fun h => absurd h hh⟩)
theorem named_lit {n : Int} (h : ((sigName n).toList == ([] : List UInt8)) = false) : named n := fun k => by rw [k] at h; exact absurd h (by decide)
theorem def_some (n : Int) : ∃ d, signal_Default.f n = some d ∧ (d = 0 ∨ named n) := by
  unfold signal_Default.f
  rw [stops_sig, Option.bind_some]
  by_cases h1 : stopsB n = true
  · rw [if_pos h1]
    refine ⟨_, rfl, .inr ?_⟩
    have h2 : n = 19 ∨ n = 20 ∨ n = 4 ∨ n = 5 := by simpa [stopsB] using h1
    rcases h2 with rfl | rfl | rfl | rfl <;> exact named_lit (by kernel_rfl)
  · rw [if_neg h1]
    by_cases h2 : n = 18
    · rw [if_pos h2]
      exact ⟨_, rfl, .inr (by rw [h2]; exact named_lit (by kernel_rfl))⟩
    · rw [if_neg h2]
      by_cases h3 : n = 17
      · rw [if_pos h3]; exact ⟨_, rfl, .inl rfl⟩
      · rw [if_neg h3, name_f, Option.bind_some]
        by_cases h4 : (sigName n).toList = ([] : List UInt8)
        · rw [if_pos h4]; exact ⟨_, rfl, .inl rfl⟩
        · rw [if_neg h4]; exact ⟨_, rfl, .inr h4⟩
theorem out_ev (p g c : List Int) (n how : Int) : Ev (fun k => jobshelllaw25_SignalIgnored.j0 k n how true p g c) true :=
  Ev.step (fun k => by apply jobshelllaw25_SignalIgnored.j0.eq_2) (ev_pos rfl (Ev.bind awake_ev (ev_some rfl)))
theorem short_f (p g c : List Int) : jobshelllaw25_short.f p g c = some (decide (p.length ≤ 30 ∧ g.length ≤ 30 ∧ c.length ≤ 30)) := by
  unfold jobshelllaw25_short.f
  by_cases h1 : p.length ≤ 30
  · rw [if_pos (by omega)]
    by_cases h2 : g.length ≤ 30
    · rw [if_pos (by omega)]
      exact congrArg some (decide_eq_decide.2 (by omega))
    · rw [if_neg (by omega)]
      exact congrArg some (by simp [h2])
  · rw [if_neg (by omega)]
    exact congrArg some (by simp [h1])
theorem SignalIgnored : StSignalIgnored.Pure := by
  intro p g c n how _ _ _ _ _ _ _ _ _ _ _
  have h : Ev (fun k => jobshelllaw25_SignalIgnored.f k p g c n how) true := by
    have out := out_ev p g c n how
    by_cases hs : p.length ≤ 30 ∧ g.length ≤ 30 ∧ c.length ≤ 30
    · obtain ⟨r, h1, h2⟩ := valid_ref p g c (by omega) (by omega) (by omega)
      refine ev_bindc (short_f p g c) (ev_pos (decide_eq_true hs) (Ev.bind h1 ?_))
      by_cases hr : r = 0
      · refine ev_pos hr ?_
        have ok : okFrom p 0 ∧ okFrom g 0 ∧ okFrom c 0 := by
          rcases h2 with ⟨a, _⟩ | ⟨o, _⟩
          · omega
          · exact o
        obtain ⟨d, hd, hdn⟩ := def_some n
        refine ev_bindc hd ?_
        have tail : named n → Ev (fun k => if n = 18 then (jobshelllaw25_SignalIgnored.j0 k n how true p g c) else (if n = 9 then (jobshelllaw25_SignalIgnored.j0 k n how true p g c) else (jobshelllaw25_SignalIgnored.j0 k n how (n == 19) p g c))) true := by
          intro hn
          by_cases h18 : n = 18
          · exact ev_pos h18 out
          · refine ev_neg h18 ?_
            by_cases h9 : n = 9
            · exact ev_pos h9 out
            · refine ev_neg h9 ?_
              by_cases h19 : n = 19
              · rw [beq_iff_eq.2 h19]; exact out
              · rw [beq_eq_false_iff_ne.2 h19]
                exact main_ign p g c n how hs.1 hs.2.1 hs.2.2 ok.1 ok.2.1 ok.2.2 hn (by unfold fixedB; rw [beq_eq_false_iff_ne.2 h9, beq_eq_false_iff_ne.2 h19]; rfl) h18
        by_cases h0 : d = 0
        · refine ev_pos h0 ?_
          by_cases h17 : n = 17
          · exact ev_pos h17 (tail (by rw [h17]; exact named_lit (by kernel_rfl)))
          · exact ev_neg h17 out
        · exact ev_neg h0 (tail (hdn.resolve_left h0))
      · exact ev_neg hr out
    · exact ev_bindc (short_f p g c) (ev_neg (by simpa using hs) out)
  obtain ⟨K, hK⟩ := h
  exact ⟨K, hK K (Nat.le_refl _)⟩
end Go.Proofs.YtnkkdpjipfjdaaaDoor.Pure

end
section
namespace Go.Proofs.YtnkkdpjipfjdaaaDoorM
open Go Go.RowKit Go.Proofs.YtnkkdpjipfjdaaaDoorW.PrintWords Go.WideShapes Go.ChangeShapes
/-- A value of type t whose cells can be read as data reads as a thing of kind d, of which G holds. -/
def Opens {α : Type} (P : Program) (d : Kd α) (t : TypeId) (G : α → Prop) : Prop :=
  ∀ (H : Type) (enc : TypeId × Value → H) (w : World) (spare : Nat → Bool) (held : Bool) (fuel : Nat) (cs : List Value) (dd : DataW H) (ps : List MemPlace),
    DataW.trod enc P w 0 spare held fuel t cs = some (dd, ps) → (dd.weights P t).all (· ≤ reachBytes) = true → ∃ x : α, d.K w x cs ∧ G x
theorem opens_int {P : Program} {t : TypeId} {k : IntKind} (ht : P.underlying t = some (.int k)) : Opens P (Kd.int k) t (fun x => (Lit.int k x).wf = true) := by
  intro H enc w s hd fuel cs dd ps h _
  obtain ⟨n, rfl, _, hw⟩ := DataW.trod_int ht h
  exact ⟨n, rfl, hw⟩
theorem weightsAll_mem {H : Type} {P : Program} {e : TypeId} {d : DataW H} : ∀ {l : List (DataW H)}, d ∈ l → (DataW.weightsAll P e l).all (· ≤ reachBytes) = true → (d.weights P e).all (· ≤ reachBytes) = true
  | a :: l, hd, h => by
    rw [DataW.weightsAll, List.all_append, Bool.and_eq_true] at h
    rcases List.mem_cons.1 hd with rfl | hd
    · exact h.1
    · exact weightsAll_mem hd h.2
theorem collect {α : Type} {Q : Nat → α → Prop} : ∀ {n : Nat}, (∀ i, i < n → ∃ x, Q i x) → ∃ l : List α, l.length = n ∧ ∀ j x, l[j]? = some x → Q j x
  | 0, _ => ⟨[], rfl, fun j x hx => by simp at hx⟩
  | n + 1, h => by
    obtain ⟨l, hl, hq⟩ := collect (n := n) (fun i hi => h i (by omega))
    obtain ⟨x, hx⟩ := h n (by omega)
    refine ⟨l ++ [x], by simp [hl], fun j y hy => ?_⟩
    rcases Nat.lt_or_ge j l.length with hj | hj
    · rw [List.getElem?_append_left hj] at hy
      exact hq j y hy
    · rw [List.getElem?_append_right hj] at hy
      have h0 : j - l.length = 0 := by
        rcases Nat.eq_zero_or_pos (j - l.length) with h0 | h0
        · exact h0
        · rw [List.getElem?_eq_none (by simp; omega)] at hy
          cases hy
      rw [h0] at hy
      obtain rfl : x = y := by simpa using hy
      obtain rfl : j = n := by omega
      exact hx
theorem add_add_ (a : Addr) (i j : Nat) : (a.add i).add j = a.add (i + j) := by
  by_cases hi : i = 0
  · subst hi
    simp [Addr.add]
  · by_cases hj : j = 0
    · subst hj
      simp [Addr.add, hi]
    · simp [Addr.add, hi, hj, Nat.add_assoc]
theorem opens_slice {α : Type} {P : Program} {d : Kd α} {t e : TypeId} {G : α → Prop} (ht : P.underlying t = some (.slice e)) (he : Opens P d e G) (hsz : P.cellsOf e = d.sz) :
    Opens P (Kd.slice e d) t (fun l => l.length * P.bytesOf e ≤ 140737488351232 ∧ l.length ≤ maxLen ∧ ∀ x ∈ l, G x) := by
  intro H enc w s hd fuel cs dd ps h hw
  rcases Go.Deep.open_slice ht h with ⟨rfl, _⟩ | ⟨a, len, cap, m, n, D, Pl, rfl, hb, hl, hm, hmm, hx, hget⟩
  · exact ⟨[], ⟨none, 0, rfl, Nat.le_refl _, rfl, by simp, fun h0 => absurd h0 (by simp)⟩, by simp, by simp, by simp⟩
  · injection hx with h1 h2
    subst h1
    have hlm : len ≤ m := by rw [hmm]; split <;> omega
    have hw1 : (len * P.bytesOf e ≤ reachBytes) ∧ ∀ i, i < len → ((D i).weights P e).all (· ≤ reachBytes) = true := by
      simp only [DataW.weights, ht, List.all_cons, List.all_append, Bool.and_eq_true, decide_eq_true_eq, List.length_map, List.length_range] at hw
      obtain ⟨hw1, hw2, _⟩ := hw
      refine ⟨Nat.le_trans (Nat.mul_le_mul_right _ (Nat.le_add_right _ _)) hw1, fun i hi => weightsAll_mem (List.mem_map.2 ⟨i, List.mem_range.2 hi, rfl⟩) hw2⟩
    have hex : ∀ i : Nat, i < len → ∃ x : α, G x ∧ ∃ c, c.length = d.sz ∧ d.K w x c ∧ ∀ q u, c[q]? = some u → w.cell? ((a.add (i * P.cellsOf e)).add q) = some u := by
      intro i hi
      obtain ⟨cs', h1, h2⟩ := hget i (by omega)
      obtain ⟨x, hk, hg⟩ := he H enc w s hd n cs' (D i) (Pl i) h2 (hw1.2 i hi)
      obtain ⟨_, hlen, hc⟩ := World.cells?_some h1
      refine ⟨x, hg, cs', hlen.trans hsz, hk, fun q u hq => ?_⟩
      have hq' : q < P.cellsOf e := by rw [← hlen]; exact (List.getElem?_eq_some_iff.1 hq).1
      rw [hc q hq']
      exact hq
    obtain ⟨l, hll, hl2⟩ := collect hex
    subst hll
    have hmax : cap ≤ 9223372036854775807 := hm
    refine ⟨l, ⟨some a, cap, rfl, hl, rfl, by omega, fun _ => ⟨a, rfl, fun j x hj => ?_⟩⟩, hw1.1, Nat.le_trans hl hm, fun x hx => ?_⟩
    · obtain ⟨_, c, hc, hk, hcell⟩ := hl2 j x hj
      refine ⟨c, hc, hk, fun q u hq => ?_⟩
      rw [← add_add_ a (j * d.sz) q, ← hsz]
      exact hcell q u hq
    · obtain ⟨j, hj⟩ := List.getElem?_of_mem hx
      exact (hl2 j x hj).1
/-- The fields of a struct, one behind the other from place o on, of n cells in all. -/
def OpensF {γ : Type} (P : Program) (fs : List Field) (o n : Nat) (d : Kd γ) (G : γ → Prop) : Prop :=
  ∀ (H : Type) (enc : TypeId × Value → H) (w : World) (spare : Nat → Bool) (held : Bool) (fuel : Nat) (cs : List Value) (xs : List (DataW H × List MemPlace)), cs.length = n → xs.length = fs.length →
    (∀ (i : Nat) (f : Field), fs[i]? = some f → DataW.trod enc P w 0 spare held fuel f.type ((cs.drop f.offset).take (P.cellsOf f.type)) = xs[i]?) →
    (DataW.weightsEach P (fs.map (·.type)) (xs.map (·.1))).all (· ≤ reachBytes) = true → ∃ x : γ, d.K w x (cs.drop o) ∧ G x
theorem OpensF.last {γ : Type} {P : Program} {f : Field} {o n : Nat} {d : Kd γ} {G : γ → Prop} (h : Opens P d f.type G) (ho : f.offset = o) (hn : n = o + P.cellsOf f.type) : OpensF P [f] o n d G := by
  intro H enc w s hd fuel cs xs hl hx hf hw
  obtain ⟨x0, rfl⟩ : ∃ x0, xs = [x0] := by
    rcases xs with _ | ⟨x0, _ | ⟨x1, r⟩⟩
    · cases hx
    · exact ⟨x0, rfl⟩
    · simp at hx
  have h0 := hf 0 f rfl
  rw [ho, List.take_of_length_le (by rw [List.length_drop]; omega)] at h0
  obtain ⟨x1, x2⟩ := x0
  refine h H enc w s hd fuel _ x1 x2 (by rw [h0]; rfl) ?_
  simpa [DataW.weightsEach] using hw
theorem OpensF.next {α γ : Type} {P : Program} {f : Field} {fs : List Field} {o n : Nat} {a : Kd α} {b : Kd γ} {Ga : α → Prop} {Gb : γ → Prop} (h : Opens P a f.type Ga) (ho : f.offset = o) (m : Nat) (hm : m = o + P.cellsOf f.type) (hr : OpensF P fs m n b Gb) :
    OpensF P (f :: fs) o n (Kd.pair a b) (fun x => Ga x.1 ∧ Gb x.2) := by
  intro H enc w s hd fuel cs xs hl hx hf hw
  rcases xs with _ | ⟨⟨x1, x2⟩, xs⟩
  · cases hx
  have h0 := hf 0 f rfl
  rw [ho] at h0
  simp only [List.map_cons, DataW.weightsEach, List.all_append, Bool.and_eq_true] at hw
  obtain ⟨x, hk, hg⟩ := h H enc w s hd fuel _ x1 x2 (by rw [h0]; rfl) hw.1
  obtain ⟨y, hk2, hg2⟩ := hr H enc w s hd fuel cs xs hl (by simpa using hx) (fun i f' hf' => hf (i + 1) f' (by simpa using hf')) hw.2
  refine ⟨(x, y), ⟨_, _, ?_, hk, hk2⟩, hg, hg2⟩
  rw [hm, ← List.drop_drop, List.take_append_drop]
theorem Opens.struct {γ : Type} {P : Program} {t : TypeId} {fs : Array Field} {n : Nat} {d : Kd γ} {G : γ → Prop} (ht : P.underlying t = some (.struct fs)) (hn : P.cellsOf t = n) (h : OpensF P fs.toList 0 n d G) : Opens P d t G := by
  intro H enc w s hd fuel cs dd ps h1 hw
  obtain ⟨xs, m, _, hx, hl, hlen, hf⟩ := DataW.trod_struct ht h1
  injection hx with h2 h3
  subst h2
  have := h H enc w s hd m cs xs (hl.trans hn) (by simpa using hlen) (fun i f hf' => hf i f (by simpa using hf')) (by simpa [DataW.weights, ht] using hw)
  simpa using this
theorem Opens.iso {α β : Type} {P : Program} {t : TypeId} {d : Kd α} {G : α → Prop} (h : Opens P d t G) (f : β → α) (g : α → β) (hfg : ∀ x, f (g x) = x) : Opens P (Kd.iso d f) t (fun y => G (f y)) := by
  intro H enc w s hd fuel cs dd ps h1 hw
  obtain ⟨x, hk, hg⟩ := h H enc w s hd fuel cs dd ps h1 hw
  exact ⟨g x, by show d.K w (f (g x)) cs; rw [hfg]; exact hk, by show G (f (g x)); rw [hfg]; exact hg⟩
/-- An argument, opened. -/
theorem Opens.arg {α : Type} {P : Program} {d : Kd α} {t : TypeId} {G : α → Prop} (h : Opens P d t G) {H : Type} {enc : TypeId × Value → H} {w : World} {spare : Nat → Bool} {held : Bool} {v : Value} {dd : DataW H} {ps : List MemPlace} {ts : List TypeId} {ds : List (DataW H)}
    (hT : DataW.Trod enc P w 0 spare held t v dd ps) (hs : (DataW.weightsEach P ts ds).all (· ≤ reachBytes) = true) {j : Nat} (h1 : ts[j]? = some t) (h2 : ds[j]? = some dd) : ∃ x : α, d.K w x v.cells.toList ∧ G x := by
  obtain ⟨fuel, hf⟩ := hT
  exact h H enc w spare held fuel _ dd ps hf (List.all_eq_true.2 (fun n hn => List.all_eq_true.1 hs n (DataW.weights_mem_each h1 h2 n hn)))
end Go.Proofs.YtnkkdpjipfjdaaaDoorM

end
section
namespace Go.Proofs.YtnkkdpjipfjdaaaDoorM
open Go Go.Proofs.YtnkkdpjipfjdaaaDoor
def tab10 : List Int := [1, 10, 100, 1000, 10000, 100000, 1000000, 10000000, 100000000, 1000000000, 10000000000, 100000000000, 1000000000000, 10000000000000, 100000000000000, 1000000000000000, 10000000000000000, 100000000000000000, 1000000000000000000, 10000000000000000000]
def tab32 : List Int := [0, 1, 28, 2, 29, 14, 24, 3, 30, 22, 20, 15, 25, 17, 4, 8, 31, 27, 13, 23, 21, 19, 16, 7, 26, 12, 18, 6, 11, 5, 10, 9]
def tab64 : List Int := [0, 1, 56, 2, 57, 49, 28, 3, 61, 58, 42, 50, 38, 29, 17, 4, 62, 47, 59, 36, 45, 43, 51, 22, 53, 39, 33, 30, 24, 18, 12, 5, 63, 55, 48, 27, 60, 41, 37, 16, 46, 35, 44, 21, 52, 32, 23, 11, 54, 26, 40, 15, 34, 20, 31, 10, 25, 14, 19, 9, 13, 8, 7, 6]
/-- An object's cells, written anew. -/
def putCells (cs : Array Value) : Obj → Obj
  | .cells _ t frozen => .cells cs t frozen
  | o => o
/-- The settled world, the three tables holding what their initialisers lay. -/
noncomputable def laidWorld (os : Os) : World :=
  { World.holding Tryd.prog os ⟨#[], #[], []⟩ with heap := (((World.holding Tryd.prog os ⟨#[], #[], []⟩).heap.modify 0 (putCells (tab10.map fun z => Value.int .u64 z).toArray)).modify 1 (putCells (tab32.map fun z => Value.int .u8 z).toArray)).modify 2 (putCells (tab64.map fun z => Value.int .u8 z).toArray) }
theorem laid_met (os : Os) (args : Array Value) : laidMet Tryd.prog Rows.signalNamesRow.laid ((laidWorld os).forCall (fun _ _ => 0) ⟨#[], args, []⟩).memory :=
  laidMet_of_run' 8 (by kernel_rfl) (by kernel_rfl)
end Go.Proofs.YtnkkdpjipfjdaaaDoorM

end
