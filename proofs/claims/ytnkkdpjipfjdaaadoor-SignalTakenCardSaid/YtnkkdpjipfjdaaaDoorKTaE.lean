/- Own texts of one claim, put one behind the other by wip/tool/pack.py: words beside the print's, what each printed function computes, and the plain laws. -/
import Derived.Test.YtnkkdpjipfjdaaaDoorKTaD
section
-- Written by wip/tool/myprint.py, a program of this repo that drives the kit's print over hand-written contracts; Lean checks it.
namespace Go.Proofs.YtnkkdpjipfjdaaaDoor.Q
open Go.RowKit Go.Proofs.YtnkkdpjipfjdaaaDoorW.PrintWords Go.Proofs.YtnkkdpjipfjdaaaDoorW.PrintLast Go.Proofs.YtnkkdpjipfjdaaaDoorW.PrintMore Go.Proofs.YtnkkdpjipfjdaaaDoorM
open Kd
attribute [local go_sem] max2_int min2_int max_two min_two max_three min_three max_four min_four   -- for this text's walks alone
set_option linter.unusedVariables false
set_option linter.unusedSimpArgs false
mutual
def jobshelllaw25_SignalTaken.j0 : Nat → List Int → Bool → List Int → List Int → List Int → Option (Bool)
 | 0, _, _, _, _, _ => none
 | k + 1, x1, x29, x390000, x390001, x390002 => if x29 = true then ((jobshelllaw25_awake.f k).bind fun t392 => (some t392)) else (jobshelllaw25_SignalTaken.l0 k x1 0 x390000 x390001 x390002)
def jobshelllaw25_SignalTaken.l0 : Nat → List Int → Int → List Int → List Int → List Int → Option (Bool)
 | 0, _, _, _, _, _ => none
 | k + 1, x1, x5, x390000, x390001, x390002 => if x5 < (x1.length : Int) then (if 0 ≤ x5 then ((signal_Send.f k x390000 x390001 x390002 (rd x1 x5)).bind fun bt394 => ((signal_Send.f k bt394.1 bt394.2.1 bt394.2.2 (rd x1 x5)).bind fun bt405 => ((jobshellref25_Same.f k bt405.1 bt405.2.1 bt405.2.2 bt394.1 bt394.2.1 bt394.2.2).bind fun t414 => (if t414 = true then (jobshelllaw25_SignalTaken.l0 k x1 (wrap64 (x5 + 1)) bt394.1 bt394.2.1 bt394.2.2) else (none))))) else (none)) else (if (x390000.length : Int) > 20 then (none) else (jobshelllaw25_SignalTaken.l1 k (x390000.length : Int) 0 0 x390000 x390001 x390002))
def jobshelllaw25_SignalTaken.l1 : Nat → Int → Int → Int → List Int → List Int → List Int → Option (Bool)
 | 0, _, _, _, _, _, _ => none
 | k + 1, x7, x8, x9, x390000, x390001, x390002 => if x9 < x7 then ((signal_Next.f k x390000 x390001 x390002).bind fun bt429 => (if x9 = 0 then (jobshelllaw25_SignalTaken.j3 k x7 x8 x9 bt429.2.2.2.1 (bt429.2.2.2.1 == 9) x390000 x390001 x390002 bt429.1 bt429.2.1 bt429.2.2.1) else (jobshelllaw25_SignalTaken.j3 k x7 x8 x9 bt429.2.2.2.1 false x390000 x390001 x390002 bt429.1 bt429.2.1 bt429.2.2.1))) else ((signal_Next.f k x390000 x390001 x390002).bind fun bt415 => (if bt415.2.2.2.1 = 0 then (if bt415.2.2.2.2 = 0 then ((jobshellref25_Same.f k x390000 x390001 x390002 bt415.1 bt415.2.1 bt415.2.2.1).bind fun t427 => (if t427 = true then ((jobshelllaw25_awake.f k).bind fun t428 => (some t428)) else (none))) else (none)) else (none)))
def jobshelllaw25_SignalTaken.j3 : Nat → Int → Int → Int → Int → Bool → List Int → List Int → List Int → List Int → List Int → List Int → Option (Bool)
 | 0, _, _, _, _, _, _, _, _, _, _, _ => none
 | k + 1, x7, x8, x9, x11, x13, x390000, x390001, x390002, x441000, x441001, x441002 => (jobshellref25_Has.f k x390000 x11).bind fun t441 => (if t441 = true then ((jobshellref25_Has.f k x441000 x11).bind fun t442 => (if t442 = true then (jobshelllaw25_SignalTaken.j4 k x7 x8 x9 x11 x13 true x441000 x441001 x441002) else (if (x441000.length : Int) = (wrap64 ((x390000.length : Int) - 1)) then (if x13 = true then (jobshelllaw25_SignalTaken.j4 k x7 x8 x9 x11 x13 false x441000 x441001 x441002) else (if x11 ≤ x8 then (jobshelllaw25_SignalTaken.j4 k x7 x8 x9 x11 x13 true x441000 x441001 x441002) else ((jobshellref25_Has.f k x390000 9).bind fun t443 => (jobshelllaw25_SignalTaken.j4 k x7 x8 x9 x11 x13 t443 x441000 x441001 x441002)))) else (jobshelllaw25_SignalTaken.j4 k x7 x8 x9 x11 x13 true x441000 x441001 x441002)))) else (jobshelllaw25_SignalTaken.j4 k x7 x8 x9 x11 x13 true x441000 x441001 x441002))
def jobshelllaw25_SignalTaken.j4 : Nat → Int → Int → Int → Int → Bool → Bool → List Int → List Int → List Int → Option (Bool)
 | 0, _, _, _, _, _, _, _, _, _ => none
 | k + 1, x7, x8, x9, x11, x13, x113, x441000, x441001, x441002 => if x113 = true then (none) else (if x13 = true then (jobshelllaw25_SignalTaken.l1 k x7 x8 (wrap64 (x9 + 1)) x441000 x441001 x441002) else (jobshelllaw25_SignalTaken.l1 k x7 x11 (wrap64 (x9 + 1)) x441000 x441001 x441002))
end
def jobshelllaw25_SignalTaken.f (k : Nat) (l0_0 : List Int) (l0_1 : List Int) (l0_2 : List Int) (l1 : List Int) : Option (Bool) := (jobshelllaw25_short.f l0_0 l0_1 l0_2).bind fun t390 => (if t390 = true then ((jobshellref25_Valid.f k l0_0 l0_1 l0_2).bind fun t391 => (if t391 = 0 then (jobshelllaw25_SignalTaken.j0 k l1 (decide ((l1.length : Int) > 60)) l0_0 l0_1 l0_2) else (jobshelllaw25_SignalTaken.j0 k l1 true l0_0 l0_1 l0_2))) else (jobshelllaw25_SignalTaken.j0 k l1 true l0_0 l0_1 l0_2))
theorem jobshelllaw25_SignalTaken.mono_l : ∀ k, (∀ y0 y1 y2 y3 y4, LeO (jobshelllaw25_SignalTaken.j0 k y0 y1 y2 y3 y4) (jobshelllaw25_SignalTaken.j0 (k + 1) y0 y1 y2 y3 y4)) ∧ (∀ y0 y1 y2 y3 y4, LeO (jobshelllaw25_SignalTaken.l0 k y0 y1 y2 y3 y4) (jobshelllaw25_SignalTaken.l0 (k + 1) y0 y1 y2 y3 y4)) ∧ (∀ y0 y1 y2 y3 y4 y5, LeO (jobshelllaw25_SignalTaken.l1 k y0 y1 y2 y3 y4 y5) (jobshelllaw25_SignalTaken.l1 (k + 1) y0 y1 y2 y3 y4 y5)) ∧ (∀ y0 y1 y2 y3 y4 y5 y6 y7 y8 y9 y10, LeO (jobshelllaw25_SignalTaken.j3 k y0 y1 y2 y3 y4 y5 y6 y7 y8 y9 y10) (jobshelllaw25_SignalTaken.j3 (k + 1) y0 y1 y2 y3 y4 y5 y6 y7 y8 y9 y10)) ∧ (∀ y0 y1 y2 y3 y4 y5 y6 y7 y8, LeO (jobshelllaw25_SignalTaken.j4 k y0 y1 y2 y3 y4 y5 y6 y7 y8) (jobshelllaw25_SignalTaken.j4 (k + 1) y0 y1 y2 y3 y4 y5 y6 y7 y8))
 | 0 => ⟨fun _ _ _ _ _ r h => by simp [jobshelllaw25_SignalTaken.j0] at h, fun _ _ _ _ _ r h => by simp [jobshelllaw25_SignalTaken.l0] at h, fun _ _ _ _ _ _ r h => by simp [jobshelllaw25_SignalTaken.l1] at h, fun _ _ _ _ _ _ _ _ _ _ _ r h => by simp [jobshelllaw25_SignalTaken.j3] at h, fun _ _ _ _ _ _ _ _ _ r h => by simp [jobshelllaw25_SignalTaken.j4] at h⟩
 | k + 1 => by
  obtain ⟨ih0, ih1, ih2, ih3, ih4⟩ := jobshelllaw25_SignalTaken.mono_l k
  refine ⟨?_, ?_, ?_, ?_, ?_⟩
  ·intro y0 y1 y2 y3 y4
   unfold jobshelllaw25_SignalTaken.j0
   repeat' first
   | (with_reducible exact ih0 _ _ _ _ _)
   | (with_reducible exact ih1 _ _ _ _ _)
   | (with_reducible exact ih2 _ _ _ _ _ _)
   | (with_reducible exact ih3 _ _ _ _ _ _ _ _ _ _ _)
   | (with_reducible exact ih4 _ _ _ _ _ _ _ _ _)
   | (with_reducible exact jobshelllaw25_awake.mono _)
   | (with_reducible exact jobshellref25_Has.mono _ _ _)
   | (with_reducible exact jobshellref25_Same.mono _ _ _ _ _ _ _)
   | (with_reducible exact jobshellref25_Valid.mono _ _ _ _)
   | (with_reducible exact signal_Next.mono _ _ _ _)
   | (with_reducible exact signal_Send.mono _ _ _ _ _)
   | (with_reducible exact LeO.refl _)
   | (with_reducible exact LeO.none _)
   | (with_reducible refine LeO.ite ?_ ?_)
   | (with_reducible refine LeO.bind ?_ (fun _ => ?_))
   | exact ih0 _ _ _ _ _
   | exact ih1 _ _ _ _ _
   | exact ih2 _ _ _ _ _ _
   | exact ih3 _ _ _ _ _ _ _ _ _ _ _
   | exact ih4 _ _ _ _ _ _ _ _ _
   | exact jobshelllaw25_awake.mono _
   | exact jobshellref25_Has.mono _ _ _
   | exact jobshellref25_Same.mono _ _ _ _ _ _ _
   | exact jobshellref25_Valid.mono _ _ _ _
   | exact signal_Next.mono _ _ _ _
   | exact signal_Send.mono _ _ _ _ _
   | exact LeO.none _
   | refine LeO.ite ?_ ?_
   | refine LeO.bind ?_ (fun _ => ?_)
  ·intro y0 y1 y2 y3 y4
   unfold jobshelllaw25_SignalTaken.l0
   repeat' first
   | (with_reducible exact ih0 _ _ _ _ _)
   | (with_reducible exact ih1 _ _ _ _ _)
   | (with_reducible exact ih2 _ _ _ _ _ _)
   | (with_reducible exact ih3 _ _ _ _ _ _ _ _ _ _ _)
   | (with_reducible exact ih4 _ _ _ _ _ _ _ _ _)
   | (with_reducible exact jobshelllaw25_awake.mono _)
   | (with_reducible exact jobshellref25_Has.mono _ _ _)
   | (with_reducible exact jobshellref25_Same.mono _ _ _ _ _ _ _)
   | (with_reducible exact jobshellref25_Valid.mono _ _ _ _)
   | (with_reducible exact signal_Next.mono _ _ _ _)
   | (with_reducible exact signal_Send.mono _ _ _ _ _)
   | (with_reducible exact LeO.refl _)
   | (with_reducible exact LeO.none _)
   | (with_reducible refine LeO.ite ?_ ?_)
   | (with_reducible refine LeO.bind ?_ (fun _ => ?_))
   | exact ih0 _ _ _ _ _
   | exact ih1 _ _ _ _ _
   | exact ih2 _ _ _ _ _ _
   | exact ih3 _ _ _ _ _ _ _ _ _ _ _
   | exact ih4 _ _ _ _ _ _ _ _ _
   | exact jobshelllaw25_awake.mono _
   | exact jobshellref25_Has.mono _ _ _
   | exact jobshellref25_Same.mono _ _ _ _ _ _ _
   | exact jobshellref25_Valid.mono _ _ _ _
   | exact signal_Next.mono _ _ _ _
   | exact signal_Send.mono _ _ _ _ _
   | exact LeO.none _
   | refine LeO.ite ?_ ?_
   | refine LeO.bind ?_ (fun _ => ?_)
  ·intro y0 y1 y2 y3 y4 y5
   unfold jobshelllaw25_SignalTaken.l1
   repeat' first
   | (with_reducible exact ih0 _ _ _ _ _)
   | (with_reducible exact ih1 _ _ _ _ _)
   | (with_reducible exact ih2 _ _ _ _ _ _)
   | (with_reducible exact ih3 _ _ _ _ _ _ _ _ _ _ _)
   | (with_reducible exact ih4 _ _ _ _ _ _ _ _ _)
   | (with_reducible exact jobshelllaw25_awake.mono _)
   | (with_reducible exact jobshellref25_Has.mono _ _ _)
   | (with_reducible exact jobshellref25_Same.mono _ _ _ _ _ _ _)
   | (with_reducible exact jobshellref25_Valid.mono _ _ _ _)
   | (with_reducible exact signal_Next.mono _ _ _ _)
   | (with_reducible exact signal_Send.mono _ _ _ _ _)
   | (with_reducible exact LeO.refl _)
   | (with_reducible exact LeO.none _)
   | (with_reducible refine LeO.ite ?_ ?_)
   | (with_reducible refine LeO.bind ?_ (fun _ => ?_))
   | exact ih0 _ _ _ _ _
   | exact ih1 _ _ _ _ _
   | exact ih2 _ _ _ _ _ _
   | exact ih3 _ _ _ _ _ _ _ _ _ _ _
   | exact ih4 _ _ _ _ _ _ _ _ _
   | exact jobshelllaw25_awake.mono _
   | exact jobshellref25_Has.mono _ _ _
   | exact jobshellref25_Same.mono _ _ _ _ _ _ _
   | exact jobshellref25_Valid.mono _ _ _ _
   | exact signal_Next.mono _ _ _ _
   | exact signal_Send.mono _ _ _ _ _
   | exact LeO.none _
   | refine LeO.ite ?_ ?_
   | refine LeO.bind ?_ (fun _ => ?_)
  ·intro y0 y1 y2 y3 y4 y5 y6 y7 y8 y9 y10
   unfold jobshelllaw25_SignalTaken.j3
   repeat' first
   | (with_reducible exact ih0 _ _ _ _ _)
   | (with_reducible exact ih1 _ _ _ _ _)
   | (with_reducible exact ih2 _ _ _ _ _ _)
   | (with_reducible exact ih3 _ _ _ _ _ _ _ _ _ _ _)
   | (with_reducible exact ih4 _ _ _ _ _ _ _ _ _)
   | (with_reducible exact jobshelllaw25_awake.mono _)
   | (with_reducible exact jobshellref25_Has.mono _ _ _)
   | (with_reducible exact jobshellref25_Same.mono _ _ _ _ _ _ _)
   | (with_reducible exact jobshellref25_Valid.mono _ _ _ _)
   | (with_reducible exact signal_Next.mono _ _ _ _)
   | (with_reducible exact signal_Send.mono _ _ _ _ _)
   | (with_reducible exact LeO.refl _)
   | (with_reducible exact LeO.none _)
   | (with_reducible refine LeO.ite ?_ ?_)
   | (with_reducible refine LeO.bind ?_ (fun _ => ?_))
   | exact ih0 _ _ _ _ _
   | exact ih1 _ _ _ _ _
   | exact ih2 _ _ _ _ _ _
   | exact ih3 _ _ _ _ _ _ _ _ _ _ _
   | exact ih4 _ _ _ _ _ _ _ _ _
   | exact jobshelllaw25_awake.mono _
   | exact jobshellref25_Has.mono _ _ _
   | exact jobshellref25_Same.mono _ _ _ _ _ _ _
   | exact jobshellref25_Valid.mono _ _ _ _
   | exact signal_Next.mono _ _ _ _
   | exact signal_Send.mono _ _ _ _ _
   | exact LeO.none _
   | refine LeO.ite ?_ ?_
   | refine LeO.bind ?_ (fun _ => ?_)
  ·intro y0 y1 y2 y3 y4 y5 y6 y7 y8
   unfold jobshelllaw25_SignalTaken.j4
   repeat' first
   | (with_reducible exact ih0 _ _ _ _ _)
   | (with_reducible exact ih1 _ _ _ _ _)
   | (with_reducible exact ih2 _ _ _ _ _ _)
   | (with_reducible exact ih3 _ _ _ _ _ _ _ _ _ _ _)
   | (with_reducible exact ih4 _ _ _ _ _ _ _ _ _)
   | (with_reducible exact jobshelllaw25_awake.mono _)
   | (with_reducible exact jobshellref25_Has.mono _ _ _)
   | (with_reducible exact jobshellref25_Same.mono _ _ _ _ _ _ _)
   | (with_reducible exact jobshellref25_Valid.mono _ _ _ _)
   | (with_reducible exact signal_Next.mono _ _ _ _)
   | (with_reducible exact signal_Send.mono _ _ _ _ _)
   | (with_reducible exact LeO.refl _)
   | (with_reducible exact LeO.none _)
   | (with_reducible refine LeO.ite ?_ ?_)
   | (with_reducible refine LeO.bind ?_ (fun _ => ?_))
   | exact ih0 _ _ _ _ _
   | exact ih1 _ _ _ _ _
   | exact ih2 _ _ _ _ _ _
   | exact ih3 _ _ _ _ _ _ _ _ _ _ _
   | exact ih4 _ _ _ _ _ _ _ _ _
   | exact jobshelllaw25_awake.mono _
   | exact jobshellref25_Has.mono _ _ _
   | exact jobshellref25_Same.mono _ _ _ _ _ _ _
   | exact jobshellref25_Valid.mono _ _ _ _
   | exact signal_Next.mono _ _ _ _
   | exact signal_Send.mono _ _ _ _ _
   | exact LeO.none _
   | refine LeO.ite ?_ ?_
   | refine LeO.bind ?_ (fun _ => ?_)
theorem jobshelllaw25_SignalTaken.mono : ∀ a0 a1 a2 a3 k, LeO (jobshelllaw25_SignalTaken.f k a0 a1 a2 a3) (jobshelllaw25_SignalTaken.f (k + 1) a0 a1 a2 a3) := by
 intro a0 a1 a2 a3 k
 obtain ⟨ih0, ih1, ih2, ih3, ih4⟩ := jobshelllaw25_SignalTaken.mono_l k
 unfold jobshelllaw25_SignalTaken.f
 repeat' first
   | (with_reducible exact ih0 _ _ _ _ _)
   | (with_reducible exact ih1 _ _ _ _ _)
   | (with_reducible exact ih2 _ _ _ _ _ _)
   | (with_reducible exact ih3 _ _ _ _ _ _ _ _ _ _ _)
   | (with_reducible exact ih4 _ _ _ _ _ _ _ _ _)
   | (with_reducible exact jobshelllaw25_awake.mono _)
   | (with_reducible exact jobshellref25_Has.mono _ _ _)
   | (with_reducible exact jobshellref25_Same.mono _ _ _ _ _ _ _)
   | (with_reducible exact jobshellref25_Valid.mono _ _ _ _)
   | (with_reducible exact signal_Next.mono _ _ _ _)
   | (with_reducible exact signal_Send.mono _ _ _ _ _)
   | (with_reducible exact LeO.refl _)
   | (with_reducible exact LeO.none _)
   | (with_reducible refine LeO.ite ?_ ?_)
   | (with_reducible refine LeO.bind ?_ (fun _ => ?_))
   | exact ih0 _ _ _ _ _
   | exact ih1 _ _ _ _ _
   | exact ih2 _ _ _ _ _ _
   | exact ih3 _ _ _ _ _ _ _ _ _ _ _
   | exact ih4 _ _ _ _ _ _ _ _ _
   | exact jobshelllaw25_awake.mono _
   | exact jobshellref25_Has.mono _ _ _
   | exact jobshellref25_Same.mono _ _ _ _ _ _ _
   | exact jobshellref25_Valid.mono _ _ _ _
   | exact signal_Next.mono _ _ _ _
   | exact signal_Send.mono _ _ _ _ _
   | exact LeO.none _
   | refine LeO.ite ?_ ?_
   | refine LeO.bind ?_ (fun _ => ?_)
def jobshelllaw25_SignalTaken.T6 : Bool × List (List Nat × List Nat) := (true, [([], []), ([], []), ([], []), ([1, 2], [1, 2]), ([3], [3]), ([0, 4], [0, 4]), ([], []), ([6, 5, 5, 0, 1, 2, 3, 4, 5, 6], [5, 6])])
def jobshelllaw25_SignalTaken.B6 : List Nat := [0, 0, 0, 6, 14, 31, 0, 127]
theorem jobshelllaw25_SignalTaken.tab6 : rtab .any (opsOf Tryd.f5 6) = jobshelllaw25_SignalTaken.T6 := by kernel_rfl
theorem jobshelllaw25_SignalTaken.bits6 : waitsOk jobshelllaw25_SignalTaken.T6.2 jobshelllaw25_SignalTaken.B6 = true := by kernel_rfl
def jobshelllaw25_SignalTaken.T7 : Bool × List (List Nat × List Nat) := (true, [([], []), ([], []), ([], []), ([1, 2], [1, 2]), ([3], [3]), ([0, 4], [0, 4]), ([], []), ([5, 6, 5], [5, 6]), ([7], [7])])
def jobshelllaw25_SignalTaken.B7 : List Nat := [0, 0, 0, 6, 14, 31, 0, 127, 255]
theorem jobshelllaw25_SignalTaken.tab7 : rtab .any (opsOf Tryd.f5 7) = jobshelllaw25_SignalTaken.T7 := by kernel_rfl
theorem jobshelllaw25_SignalTaken.bits7 : waitsOk jobshelllaw25_SignalTaken.T7.2 jobshelllaw25_SignalTaken.B7 = true := by kernel_rfl
set_option maxHeartbeats 8000000 in
set_option maxRecDepth 10000000 in
theorem jobshelllaw25_SignalTaken.calls (k : Nat) (P0_0_ : Nat → Prop) (A0_0 : Option Addr) (c0_0 : Nat) (l0_0 : List Int) (P0_1_ : Nat → Prop) (A0_1 : Option Addr) (c0_1 : Nat) (l0_1 : List Int) (P0_2_ : Nat → Prop) (A0_2 : Option Addr) (c0_2 : Nat) (l0_2 : List Int) (A1 : Option Addr) (c1 : Nat) (l1 : List Int) (r : Bool) (w : World) (hs0_0 : Kd.V (Kd.int .i64) 3 w w.heap.size (fun k_ => P0_0_ k_) (.slice A0_0 l0_0.length c0_0) l0_0) (hs0_1 : Kd.V (Kd.int .i64) 3 w w.heap.size (fun k_ => P0_1_ k_) (.slice A0_1 l0_1.length c0_1) l0_1) (hs0_2 : Kd.V (Kd.int .i64) 3 w w.heap.size (fun k_ => P0_2_ k_) (.slice A0_2 l0_2.length c0_2) l0_2) (hr1 : Kd.C (Kd.int .i64) w A1 l1.length l1) (hc1 : l1.length ≤ c1) (h : jobshelllaw25_SignalTaken.f k l0_0 l0_1 l0_2 l1 = some r) :
  Calls Tryd.prog 5 #[.agg #[.slice A0_0 l0_0.length c0_0, .slice A0_1 l0_1.length c0_1, .slice A0_2 l0_2.length c0_2], .slice A1 l1.length c1] w fun e w' => e = .returned (.bool r) ∧ Below w.heap.size w w' := by
 have hu30 := Tryd.underlying30
 have HO0_0 := Zk (show Kd.V (Kd.int .i64) 3 w w.heap.size (fun k_ => ((P0_0_ k_ ∨ P0_1_ k_ ∨ P0_2_ k_) ∨ w.heap.size ≤ k_)) (.slice A0_0 l0_0.length c0_0) l0_0 from V_mono hs0_0 (fun k_ hk => .inl (.inl hk)))
 have HO0_1 := Zk (show Kd.V (Kd.int .i64) 3 w w.heap.size (fun k_ => ((P0_0_ k_ ∨ P0_1_ k_ ∨ P0_2_ k_) ∨ w.heap.size ≤ k_)) (.slice A0_1 l0_1.length c0_1) l0_1 from V_mono hs0_1 (fun k_ hk => .inl (.inr (.inl hk))))
 have HO0_2 := Zk (show Kd.V (Kd.int .i64) 3 w w.heap.size (fun k_ => ((P0_0_ k_ ∨ P0_1_ k_ ∨ P0_2_ k_) ∨ w.heap.size ≤ k_)) (.slice A0_2 l0_2.length c0_2) l0_2 from V_mono hs0_2 (fun k_ hk => .inl (.inr (.inr hk))))
 have HR1 := Zk hr1
 have HC1 := Zk hc1
 clear hr1 hc1
 have HB := Zk (Below.refl w.heap.size w)
 have H : ((jobshelllaw25_short.f l0_0 l0_1 l0_2).bind fun t390 => (if t390 = true then ((jobshellref25_Valid.f k l0_0 l0_1 l0_2).bind fun t391 => (if t391 = 0 then (jobshelllaw25_SignalTaken.j0 k l1 (decide ((l1.length : Int) > 60)) l0_0 l0_1 l0_2) else (jobshelllaw25_SignalTaken.j0 k l1 true l0_0 l0_1 l0_2))) else (jobshelllaw25_SignalTaken.j0 k l1 true l0_0 l0_1 l0_2))) = some r := h
 clear h
 have HC3 := Zk H
 clear H
 go_enter Tryd.func5, Tryd.ntmps5
 go_upto_region 1 with (first | ((with_reducible refine gate_dst (N := 2) rfl ?_); (try (refine gate_guard (by rfl) ?_; dsimp only)); refine box_event ?hg (N := 2) ?hd (cs := #[.slice A0_0 l0_0.length c0_0, .slice A0_1 l0_1.length c0_1, .slice A0_2 l0_2.length c0_2]) (t := 30) ?hr ?_; (case hd => rfl); (case hg => rfl); (case hr => first | (go_simp; done) | (go_simp; rfl)); intro gb389 hg w4 hbox hb; have n0_ := Zk (V_below (V_elderB (by (with_reducible repeat (first | apply V_alloc | apply V_drewN | apply V_drew)); exact HO0_0.out) gb389 (Nat.le_of_eq hg.symm)) hb); have n1_ := Zk (V_below (V_elderB (by (with_reducible repeat (first | apply V_alloc | apply V_drewN | apply V_drew)); exact HO0_1.out) gb389 (Nat.le_of_eq hg.symm)) hb); have n2_ := Zk (V_below (V_elderB (by (with_reducible repeat (first | apply V_alloc | apply V_drewN | apply V_drew)); exact HO0_2.out) gb389 (Nat.le_of_eq hg.symm)) hb); have n3_ := Zk (below_step (by repeat (first | (with_reducible first | exact HB.out | apply below_alloc | apply pw_below_drewN | apply below_drew1) | exact HB.out)) hb); have n4_ := Zk (hbox); have n5_ := Zk ((by rw [hg]; exact (below_size (by repeat (first | (with_reducible first | exact HB.out | apply below_alloc | apply pw_below_drewN | apply below_drew1) | exact HB.out))) : w.heap.size ≤ gb389)); have n6_ := Zk ((by rw [hg]; exact (below_size (by repeat (first | (with_reducible first | exact HB.out | apply below_alloc | apply pw_below_drewN | apply below_drew1) | exact HB.out))) : w.heap.size ≤ gb389)); clear HO0_0; clear HO0_1; clear HO0_2; clear HB; have HO0_0 := n0_; have HO0_1 := n1_; have HO0_2 := n2_; have HB := n3_; have BK389 := n4_; have GW389 := n5_; have GE389 := n6_; clear n0_ n1_ n2_ n3_ n4_ n5_ n6_; clear hb hbox hg))
 (try simp only [Act.put, List.setIfInBounds_toArray, List.set_cons_zero, List.set_cons_succ])
 go_cut [29] (fun v29 wc => ∃ (kq : Nat) (x29_2 : Bool), v29 = .bool x29_2 ∧ Aside0 (jobshelllaw25_SignalTaken.j0 kq l1 x29_2 l0_0 l0_1 l0_2 = some r) ∧ Aside0 (kq ≤ k) ∧ Aside0 (Kd.V (Kd.int .i64) 3 wc w.heap.size (fun k_ => ((P0_0_ k_ ∨ P0_1_ k_ ∨ P0_2_ k_) ∨ w.heap.size ≤ k_) ∧ k_ ≠ gb389) (.slice A0_0 l0_0.length c0_0) l0_0) ∧ Aside0 (Kd.V (Kd.int .i64) 3 wc w.heap.size (fun k_ => ((P0_0_ k_ ∨ P0_1_ k_ ∨ P0_2_ k_) ∨ w.heap.size ≤ k_) ∧ k_ ≠ gb389) (.slice A0_1 l0_1.length c0_1) l0_1) ∧ Aside0 (Kd.V (Kd.int .i64) 3 wc w.heap.size (fun k_ => ((P0_0_ k_ ∨ P0_1_ k_ ∨ P0_2_ k_) ∨ w.heap.size ≤ k_) ∧ k_ ≠ gb389) (.slice A0_2 l0_2.length c0_2) l0_2) ∧ Aside0 (wc.heap[gb389]? = some (.cells #[(.slice A0_0 l0_0.length c0_0), (.slice A0_1 l0_1.length c0_1), (.slice A0_2 l0_2.length c0_2)] 30 (0, 0))) ∧ Aside0 (Below w.heap.size w wc))
 case first =>
  have H := HC3.out
  clear HC3
  replace H := Option.bind_eq_some_iff.mp H
  obtain ⟨t390, A50, H⟩ := H
  replace H : (if t390 = true then ((jobshellref25_Valid.f k l0_0 l0_1 l0_2).bind fun t391 => (if t391 = 0 then (jobshelllaw25_SignalTaken.j0 k l1 (decide ((l1.length : Int) > 60)) l0_0 l0_1 l0_2) else (jobshelllaw25_SignalTaken.j0 k l1 true l0_0 l0_1 l0_2))) else (jobshelllaw25_SignalTaken.j0 k l1 true l0_0 l0_1 l0_2)) = some r := H
  have A5 := Zk A50
  clear A50
  by_cases c6 : t390 = true
  ·subst c6
   have H1 : ((jobshellref25_Valid.f k l0_0 l0_1 l0_2).bind fun t391 => (if t391 = 0 then (jobshelllaw25_SignalTaken.j0 k l1 (decide ((l1.length : Int) > 60)) l0_0 l0_1 l0_2) else (jobshelllaw25_SignalTaken.j0 k l1 true l0_0 l0_1 l0_2))) = some r := by rw [if_pos rfl] at H; exact H
   clear H
   have H := H1
   clear H1
   replace H := Option.bind_eq_some_iff.mp H
   obtain ⟨t391, A70, H⟩ := H
   replace H : (if t391 = 0 then (jobshelllaw25_SignalTaken.j0 k l1 (decide ((l1.length : Int) > 60)) l0_0 l0_1 l0_2) else (jobshelllaw25_SignalTaken.j0 k l1 true l0_0 l0_1 l0_2)) = some r := H
   have A7 := Zk A70
   clear A70
   by_cases c8 : t391 = 0
   ·rw [if_pos c8] at H
    have c8b0 : (t391 == 0) = true := beq_iff_eq.mpr c8
    have c8b1 : (t391 != 0) = false := bne_eq_false_iff_eq.mpr c8
    clear c8
    (first | rw [c8b0] | (simp only [i64_w, i32_w]; rw [c8b0]) | skip)
    have H' := Zk H
    clear H
    have hcz9_0 : w4.cell? ⟨gb389, 0, none⟩ = some (.slice A0_0 l0_0.length c0_0) := (blk_cell BK389.out 0).trans rfl
    have hcz9_1 : w4.cell? ⟨gb389, 1, none⟩ = some (.slice A0_1 l0_1.length c0_1) := (blk_cell BK389.out 1).trans rfl
    have hcz9_2 : w4.cell? ⟨gb389, 2, none⟩ = some (.slice A0_2 l0_2.length c0_2) := (blk_cell BK389.out 2).trans rfl
    have hfz9_0 := blk_frozen BK389.out 0
    have hfz9_1 := blk_frozen BK389.out 1
    have hfz9_2 := blk_frozen BK389.out 2
    go_wp2_with (first | ((with_reducible refine gate_callee (f := 17) rfl ?_); refine goesL_ (some 18) rfl rfl Tryd.func17 (by kernel_rfl) rfl #[.agg #[.slice A0_0 l0_0.length c0_0, .slice A0_1 l0_1.length c0_1, .slice A0_2 l0_2.length c0_2]] rfl (by (try simp only [List.map_toArray, List.map_cons, List.map_nil]); first | done | rfl | (simp only [List.length_drop, List.length_take]; rfl)) ?_; (with_reducible refine (jobshelllaw25_short.calls _ _ l0_0 _ _ l0_1 _ _ l0_2 true _ ?side1 ?side2 ?side3 ?side4 ?side5 ?side6 A5.out).mono ?_); (case side1 => repeat (first | exact (V_reads' HO0_0.out).2.2 | (with_reducible refine C_alloc ?_ _) | (with_reducible refine C_drewN ?_ _) | (with_reducible refine C_drew ?_))); (case side2 => exact (V_reads' HO0_0.out).2.1); (case side3 => repeat (first | exact (V_reads' HO0_1.out).2.2 | (with_reducible refine C_alloc ?_ _) | (with_reducible refine C_drewN ?_ _) | (with_reducible refine C_drew ?_))); (case side4 => exact (V_reads' HO0_1.out).2.1); (case side5 => repeat (first | exact (V_reads' HO0_2.out).2.2 | (with_reducible refine C_alloc ?_ _) | (with_reducible refine C_drewN ?_ _) | (with_reducible refine C_drew ?_))); (case side6 => exact (V_reads' HO0_2.out).2.1); rintro e w10 ⟨rfl, hb⟩; refine ⟨_, rfl, ?_⟩; have n0_ := Zk (V_below (by (with_reducible repeat (first | apply V_alloc | apply V_drewN | apply V_drew)); exact HO0_0.out) hb); have n1_ := Zk (V_below (by (with_reducible repeat (first | apply V_alloc | apply V_drewN | apply V_drew)); exact HO0_1.out) hb); have n2_ := Zk (V_below (by (with_reducible repeat (first | apply V_alloc | apply V_drewN | apply V_drew)); exact HO0_2.out) hb); have n3_ := Zk (blk_below (g := gb389) (o := .cells #[.slice A0_0 l0_0.length c0_0, .slice A0_1 l0_1.length c0_1, .slice A0_2 l0_2.length c0_2] 30 (0, 0)) (by (with_reducible repeat (first | refine blk_drewN ?_ _ | refine blk_drew ?_ | refine blk_alloc ?_ _)); exact BK389.out) hb); have n4_ := Zk (below_step (by repeat (first | (with_reducible first | exact HB.out | apply below_alloc | apply pw_below_drewN | apply below_drew1 | refine below_set ?_ GE389.out) | exact HB.out)) hb); clear HO0_0; clear HO0_1; clear HO0_2; clear BK389; clear HB; have HO0_0 := n0_; have HO0_1 := n1_; have HO0_2 := n2_; have BK389 := n3_; have HB := n4_; clear n0_ n1_ n2_ n3_ n4_; (try clear hb); (try clear hb2); (try clear hk); (try clear hi); have hcz11_0 : w10.cell? ⟨gb389, 0, none⟩ = some (.slice A0_0 l0_0.length c0_0) := (blk_cell BK389.out 0).trans rfl; have hcz11_1 : w10.cell? ⟨gb389, 1, none⟩ = some (.slice A0_1 l0_1.length c0_1) := (blk_cell BK389.out 1).trans rfl; have hcz11_2 : w10.cell? ⟨gb389, 2, none⟩ = some (.slice A0_2 l0_2.length c0_2) := (blk_cell BK389.out 2).trans rfl; have hfz11_0 := blk_frozen BK389.out 0; have hfz11_1 := blk_frozen BK389.out 1; have hfz11_2 := blk_frozen BK389.out 2) | (go_at_call 18; (with_reducible refine (jobshellref25_Valid.calls k _ _ l0_0 _ _ l0_1 _ _ l0_2 t391 _ ?side1 ?side2 ?side3 ?side4 ?side5 ?side6 A7.out).mono ?_); (case side1 => repeat (first | exact (V_reads' HO0_0.out).2.2 | (with_reducible refine C_alloc ?_ _) | (with_reducible refine C_drewN ?_ _) | (with_reducible refine C_drew ?_))); (case side2 => exact (V_reads' HO0_0.out).2.1); (case side3 => repeat (first | exact (V_reads' HO0_1.out).2.2 | (with_reducible refine C_alloc ?_ _) | (with_reducible refine C_drewN ?_ _) | (with_reducible refine C_drew ?_))); (case side4 => exact (V_reads' HO0_1.out).2.1); (case side5 => repeat (first | exact (V_reads' HO0_2.out).2.2 | (with_reducible refine C_alloc ?_ _) | (with_reducible refine C_drewN ?_ _) | (with_reducible refine C_drew ?_))); (case side6 => exact (V_reads' HO0_2.out).2.1); rintro e w12 ⟨rfl, hb⟩; have n0_ := Zk (V_below (by (with_reducible repeat (first | apply V_alloc | apply V_drewN | apply V_drew)); exact HO0_0.out) hb); have n1_ := Zk (V_below (by (with_reducible repeat (first | apply V_alloc | apply V_drewN | apply V_drew)); exact HO0_1.out) hb); have n2_ := Zk (V_below (by (with_reducible repeat (first | apply V_alloc | apply V_drewN | apply V_drew)); exact HO0_2.out) hb); have n3_ := Zk (blk_below (g := gb389) (o := .cells #[.slice A0_0 l0_0.length c0_0, .slice A0_1 l0_1.length c0_1, .slice A0_2 l0_2.length c0_2] 30 (0, 0)) (by (with_reducible repeat (first | refine blk_drewN ?_ _ | refine blk_drew ?_ | refine blk_alloc ?_ _)); exact BK389.out) hb); have n4_ := Zk (below_step (by repeat (first | (with_reducible first | exact HB.out | apply below_alloc | apply pw_below_drewN | apply below_drew1 | refine below_set ?_ GE389.out) | exact HB.out)) hb); clear HO0_0; clear HO0_1; clear HO0_2; clear BK389; clear HB; have HO0_0 := n0_; have HO0_1 := n1_; have HO0_2 := n2_; have BK389 := n3_; have HB := n4_; clear n0_ n1_ n2_ n3_ n4_; (try clear hb); (try clear hb2); (try clear hk); (try clear hi)))
    go_meet
    case rel => exact ⟨_, (decide ((l1.length : Int) > 60)), (by first | rfl | (simp; done) | (simp [*]; done) | (generalize ByteArray.toList _ = l_; cases l_ <;> rfl)), H', ⟨by first | omega | exact Nat.le_refl _⟩, ⟨by (with_reducible repeat (first | apply V_alloc | apply V_drewN | apply V_drew)); exact HO0_0.out⟩, ⟨by (with_reducible repeat (first | apply V_alloc | apply V_drewN | apply V_drew)); exact HO0_1.out⟩, ⟨by (with_reducible repeat (first | apply V_alloc | apply V_drewN | apply V_drew)); exact HO0_2.out⟩, ⟨by (with_reducible repeat (first | refine blk_drewN ?_ _ | refine blk_drew ?_ | refine blk_alloc ?_ _)); exact BK389.out⟩, ⟨by repeat (first | (with_reducible first | exact HB.out | apply below_alloc | apply pw_below_drewN | apply below_drew1 | refine below_set ?_ GE389.out) | exact HB.out)⟩⟩
   ·rw [if_neg c8] at H
    have c8b0 : (t391 == 0) = false := beq_eq_false_iff_ne.mpr c8
    have c8b1 : (t391 != 0) = true := bne_iff_ne.mpr c8
    (first | rw [c8b0] | (simp only [i64_w, i32_w]; rw [c8b0]) | skip)
    have H' := Zk H
    clear H
    have hcz13_0 : w4.cell? ⟨gb389, 0, none⟩ = some (.slice A0_0 l0_0.length c0_0) := (blk_cell BK389.out 0).trans rfl
    have hcz13_1 : w4.cell? ⟨gb389, 1, none⟩ = some (.slice A0_1 l0_1.length c0_1) := (blk_cell BK389.out 1).trans rfl
    have hcz13_2 : w4.cell? ⟨gb389, 2, none⟩ = some (.slice A0_2 l0_2.length c0_2) := (blk_cell BK389.out 2).trans rfl
    have hfz13_0 := blk_frozen BK389.out 0
    have hfz13_1 := blk_frozen BK389.out 1
    have hfz13_2 := blk_frozen BK389.out 2
    go_wp2_with (first | ((with_reducible refine gate_callee (f := 17) rfl ?_); refine goesL_ (some 18) rfl rfl Tryd.func17 (by kernel_rfl) rfl #[.agg #[.slice A0_0 l0_0.length c0_0, .slice A0_1 l0_1.length c0_1, .slice A0_2 l0_2.length c0_2]] rfl (by (try simp only [List.map_toArray, List.map_cons, List.map_nil]); first | done | rfl | (simp only [List.length_drop, List.length_take]; rfl)) ?_; (with_reducible refine (jobshelllaw25_short.calls _ _ l0_0 _ _ l0_1 _ _ l0_2 true _ ?side1 ?side2 ?side3 ?side4 ?side5 ?side6 A5.out).mono ?_); (case side1 => repeat (first | exact (V_reads' HO0_0.out).2.2 | (with_reducible refine C_alloc ?_ _) | (with_reducible refine C_drewN ?_ _) | (with_reducible refine C_drew ?_))); (case side2 => exact (V_reads' HO0_0.out).2.1); (case side3 => repeat (first | exact (V_reads' HO0_1.out).2.2 | (with_reducible refine C_alloc ?_ _) | (with_reducible refine C_drewN ?_ _) | (with_reducible refine C_drew ?_))); (case side4 => exact (V_reads' HO0_1.out).2.1); (case side5 => repeat (first | exact (V_reads' HO0_2.out).2.2 | (with_reducible refine C_alloc ?_ _) | (with_reducible refine C_drewN ?_ _) | (with_reducible refine C_drew ?_))); (case side6 => exact (V_reads' HO0_2.out).2.1); rintro e w14 ⟨rfl, hb⟩; refine ⟨_, rfl, ?_⟩; have n0_ := Zk (V_below (by (with_reducible repeat (first | apply V_alloc | apply V_drewN | apply V_drew)); exact HO0_0.out) hb); have n1_ := Zk (V_below (by (with_reducible repeat (first | apply V_alloc | apply V_drewN | apply V_drew)); exact HO0_1.out) hb); have n2_ := Zk (V_below (by (with_reducible repeat (first | apply V_alloc | apply V_drewN | apply V_drew)); exact HO0_2.out) hb); have n3_ := Zk (blk_below (g := gb389) (o := .cells #[.slice A0_0 l0_0.length c0_0, .slice A0_1 l0_1.length c0_1, .slice A0_2 l0_2.length c0_2] 30 (0, 0)) (by (with_reducible repeat (first | refine blk_drewN ?_ _ | refine blk_drew ?_ | refine blk_alloc ?_ _)); exact BK389.out) hb); have n4_ := Zk (below_step (by repeat (first | (with_reducible first | exact HB.out | apply below_alloc | apply pw_below_drewN | apply below_drew1 | refine below_set ?_ GE389.out) | exact HB.out)) hb); clear HO0_0; clear HO0_1; clear HO0_2; clear BK389; clear HB; have HO0_0 := n0_; have HO0_1 := n1_; have HO0_2 := n2_; have BK389 := n3_; have HB := n4_; clear n0_ n1_ n2_ n3_ n4_; (try clear hb); (try clear hb2); (try clear hk); (try clear hi); have hcz15_0 : w14.cell? ⟨gb389, 0, none⟩ = some (.slice A0_0 l0_0.length c0_0) := (blk_cell BK389.out 0).trans rfl; have hcz15_1 : w14.cell? ⟨gb389, 1, none⟩ = some (.slice A0_1 l0_1.length c0_1) := (blk_cell BK389.out 1).trans rfl; have hcz15_2 : w14.cell? ⟨gb389, 2, none⟩ = some (.slice A0_2 l0_2.length c0_2) := (blk_cell BK389.out 2).trans rfl; have hfz15_0 := blk_frozen BK389.out 0; have hfz15_1 := blk_frozen BK389.out 1; have hfz15_2 := blk_frozen BK389.out 2) | (go_at_call 18; (with_reducible refine (jobshellref25_Valid.calls k _ _ l0_0 _ _ l0_1 _ _ l0_2 t391 _ ?side1 ?side2 ?side3 ?side4 ?side5 ?side6 A7.out).mono ?_); (case side1 => repeat (first | exact (V_reads' HO0_0.out).2.2 | (with_reducible refine C_alloc ?_ _) | (with_reducible refine C_drewN ?_ _) | (with_reducible refine C_drew ?_))); (case side2 => exact (V_reads' HO0_0.out).2.1); (case side3 => repeat (first | exact (V_reads' HO0_1.out).2.2 | (with_reducible refine C_alloc ?_ _) | (with_reducible refine C_drewN ?_ _) | (with_reducible refine C_drew ?_))); (case side4 => exact (V_reads' HO0_1.out).2.1); (case side5 => repeat (first | exact (V_reads' HO0_2.out).2.2 | (with_reducible refine C_alloc ?_ _) | (with_reducible refine C_drewN ?_ _) | (with_reducible refine C_drew ?_))); (case side6 => exact (V_reads' HO0_2.out).2.1); rintro e w16 ⟨rfl, hb⟩; have n0_ := Zk (V_below (by (with_reducible repeat (first | apply V_alloc | apply V_drewN | apply V_drew)); exact HO0_0.out) hb); have n1_ := Zk (V_below (by (with_reducible repeat (first | apply V_alloc | apply V_drewN | apply V_drew)); exact HO0_1.out) hb); have n2_ := Zk (V_below (by (with_reducible repeat (first | apply V_alloc | apply V_drewN | apply V_drew)); exact HO0_2.out) hb); have n3_ := Zk (blk_below (g := gb389) (o := .cells #[.slice A0_0 l0_0.length c0_0, .slice A0_1 l0_1.length c0_1, .slice A0_2 l0_2.length c0_2] 30 (0, 0)) (by (with_reducible repeat (first | refine blk_drewN ?_ _ | refine blk_drew ?_ | refine blk_alloc ?_ _)); exact BK389.out) hb); have n4_ := Zk (below_step (by repeat (first | (with_reducible first | exact HB.out | apply below_alloc | apply pw_below_drewN | apply below_drew1 | refine below_set ?_ GE389.out) | exact HB.out)) hb); clear HO0_0; clear HO0_1; clear HO0_2; clear BK389; clear HB; have HO0_0 := n0_; have HO0_1 := n1_; have HO0_2 := n2_; have BK389 := n3_; have HB := n4_; clear n0_ n1_ n2_ n3_ n4_; (try clear hb); (try clear hb2); (try clear hk); (try clear hi)))
    go_meet
    case rel => exact ⟨_, (true), (by first | rfl | (simp; done) | (simp [*]; done) | (generalize ByteArray.toList _ = l_; cases l_ <;> rfl)), H', ⟨by first | omega | exact Nat.le_refl _⟩, ⟨by (with_reducible repeat (first | apply V_alloc | apply V_drewN | apply V_drew)); exact HO0_0.out⟩, ⟨by (with_reducible repeat (first | apply V_alloc | apply V_drewN | apply V_drew)); exact HO0_1.out⟩, ⟨by (with_reducible repeat (first | apply V_alloc | apply V_drewN | apply V_drew)); exact HO0_2.out⟩, ⟨by (with_reducible repeat (first | refine blk_drewN ?_ _ | refine blk_drew ?_ | refine blk_alloc ?_ _)); exact BK389.out⟩, ⟨by repeat (first | (with_reducible first | exact HB.out | apply below_alloc | apply pw_below_drewN | apply below_drew1 | refine below_set ?_ GE389.out) | exact HB.out)⟩⟩
  ·replace c6 := Bool.eq_false_iff.mpr c6
   subst c6
   have H1 : (jobshelllaw25_SignalTaken.j0 k l1 true l0_0 l0_1 l0_2) = some r := by rw [if_neg (show ¬ (false = true) by decide)] at H; exact H
   clear H
   have H := H1
   clear H1
   have H' := Zk H
   clear H
   have hcz17_0 : w4.cell? ⟨gb389, 0, none⟩ = some (.slice A0_0 l0_0.length c0_0) := (blk_cell BK389.out 0).trans rfl
   have hcz17_1 : w4.cell? ⟨gb389, 1, none⟩ = some (.slice A0_1 l0_1.length c0_1) := (blk_cell BK389.out 1).trans rfl
   have hcz17_2 : w4.cell? ⟨gb389, 2, none⟩ = some (.slice A0_2 l0_2.length c0_2) := (blk_cell BK389.out 2).trans rfl
   have hfz17_0 := blk_frozen BK389.out 0
   have hfz17_1 := blk_frozen BK389.out 1
   have hfz17_2 := blk_frozen BK389.out 2
   go_wp2_with (first | ((with_reducible refine gate_callee (f := 17) rfl ?_); refine goesL_ (some 18) rfl rfl Tryd.func17 (by kernel_rfl) rfl #[.agg #[.slice A0_0 l0_0.length c0_0, .slice A0_1 l0_1.length c0_1, .slice A0_2 l0_2.length c0_2]] rfl (by (try simp only [List.map_toArray, List.map_cons, List.map_nil]); first | done | rfl | (simp only [List.length_drop, List.length_take]; rfl)) ?_; (with_reducible refine (jobshelllaw25_short.calls _ _ l0_0 _ _ l0_1 _ _ l0_2 false _ ?side1 ?side2 ?side3 ?side4 ?side5 ?side6 A5.out).mono ?_); (case side1 => repeat (first | exact (V_reads' HO0_0.out).2.2 | (with_reducible refine C_alloc ?_ _) | (with_reducible refine C_drewN ?_ _) | (with_reducible refine C_drew ?_))); (case side2 => exact (V_reads' HO0_0.out).2.1); (case side3 => repeat (first | exact (V_reads' HO0_1.out).2.2 | (with_reducible refine C_alloc ?_ _) | (with_reducible refine C_drewN ?_ _) | (with_reducible refine C_drew ?_))); (case side4 => exact (V_reads' HO0_1.out).2.1); (case side5 => repeat (first | exact (V_reads' HO0_2.out).2.2 | (with_reducible refine C_alloc ?_ _) | (with_reducible refine C_drewN ?_ _) | (with_reducible refine C_drew ?_))); (case side6 => exact (V_reads' HO0_2.out).2.1); rintro e w18 ⟨rfl, hb⟩; refine ⟨_, rfl, ?_⟩; have n0_ := Zk (V_below (by (with_reducible repeat (first | apply V_alloc | apply V_drewN | apply V_drew)); exact HO0_0.out) hb); have n1_ := Zk (V_below (by (with_reducible repeat (first | apply V_alloc | apply V_drewN | apply V_drew)); exact HO0_1.out) hb); have n2_ := Zk (V_below (by (with_reducible repeat (first | apply V_alloc | apply V_drewN | apply V_drew)); exact HO0_2.out) hb); have n3_ := Zk (blk_below (g := gb389) (o := .cells #[.slice A0_0 l0_0.length c0_0, .slice A0_1 l0_1.length c0_1, .slice A0_2 l0_2.length c0_2] 30 (0, 0)) (by (with_reducible repeat (first | refine blk_drewN ?_ _ | refine blk_drew ?_ | refine blk_alloc ?_ _)); exact BK389.out) hb); have n4_ := Zk (below_step (by repeat (first | (with_reducible first | exact HB.out | apply below_alloc | apply pw_below_drewN | apply below_drew1 | refine below_set ?_ GE389.out) | exact HB.out)) hb); clear HO0_0; clear HO0_1; clear HO0_2; clear BK389; clear HB; have HO0_0 := n0_; have HO0_1 := n1_; have HO0_2 := n2_; have BK389 := n3_; have HB := n4_; clear n0_ n1_ n2_ n3_ n4_; (try clear hb); (try clear hb2); (try clear hk); (try clear hi)))
   go_meet
   case rel => exact ⟨_, (true), (by first | rfl | (simp; done) | (simp [*]; done) | (generalize ByteArray.toList _ = l_; cases l_ <;> rfl)), H', ⟨by first | omega | exact Nat.le_refl _⟩, ⟨by (with_reducible repeat (first | apply V_alloc | apply V_drewN | apply V_drew)); exact HO0_0.out⟩, ⟨by (with_reducible repeat (first | apply V_alloc | apply V_drewN | apply V_drew)); exact HO0_1.out⟩, ⟨by (with_reducible repeat (first | apply V_alloc | apply V_drewN | apply V_drew)); exact HO0_2.out⟩, ⟨by (with_reducible repeat (first | refine blk_drewN ?_ _ | refine blk_drew ?_ | refine blk_alloc ?_ _)); exact BK389.out⟩, ⟨by repeat (first | (with_reducible first | exact HB.out | apply below_alloc | apply pw_below_drewN | apply below_drew1 | refine below_set ?_ GE389.out) | exact HB.out)⟩⟩
 case rest =>
  clear HC3
  try clear c1
  try clear p2
  try clear c5
  try clear c6
  try clear c8
  try clear c8b0
  try clear c8b1
  try clear c17
  try clear hcz11_0
  try clear hcz11_1
  try clear hcz11_2
  try clear hcz13_0
  try clear hcz13_1
  try clear hcz13_2
  try clear hcz15_0
  try clear hcz15_1
  try clear hcz15_2
  try clear hcz17_0
  try clear hcz17_1
  try clear hcz17_2
  try clear hcz9_0
  try clear hcz9_1
  try clear hcz9_2
  try clear hfz11_0
  try clear hfz11_1
  try clear hfz11_2
  try clear hfz13_0
  try clear hfz13_1
  try clear hfz13_2
  try clear hfz15_0
  try clear hfz15_1
  try clear hfz15_2
  try clear hfz17_0
  try clear hfz17_1
  try clear hfz17_2
  try clear hfz9_0
  try clear hfz9_1
  try clear hfz9_2
  obtain ⟨kq, x29_2, rfl, HA, HJ2, HO_390000, HO_390001, HO_390002, BK389, HB⟩ := hcut
  cases kq with
  | zero => exact absurd HA.out (by simp [jobshelllaw25_SignalTaken.j0])
  | succ kj2 =>
   have H := HA.out
   clear HA
   simp only [jobshelllaw25_SignalTaken.j0] at H
   by_cases c19 : x29_2 = true
   ·subst c19
    have H1 : ((jobshelllaw25_awake.f kj2).bind fun t392 => (some t392)) = some r := by rw [if_pos rfl] at H; exact H
    clear H
    have H := H1
    clear H1
    replace H := Option.bind_eq_some_iff.mp H
    obtain ⟨t392, A200, H⟩ := H
    replace H : (some t392) = some r := H
    have A20 := Zk A200
    clear A200
    obtain rfl := Option.some.inj H
    go_wp2_with (first | ((with_reducible refine gate_callee (f := 10) rfl ?_); refine goesL_ (some 30) rfl rfl Tryd.func10 (by kernel_rfl) rfl #[] rfl (by (try simp only [List.map_toArray, List.map_cons, List.map_nil]); first | done | rfl | (simp only [List.length_drop, List.length_take]; rfl)) ?_; (with_reducible refine (jobshelllaw25_awake.calls kj2  t392 _ A20.out).mono ?_); rintro e w21 ⟨rfl, hb⟩; refine ⟨_, rfl, ?_⟩; have n0_ := Zk (V_below (by (with_reducible repeat (first | apply V_alloc | apply V_drewN | apply V_drew)); exact HO_390000.out) hb); have n1_ := Zk (V_below (by (with_reducible repeat (first | apply V_alloc | apply V_drewN | apply V_drew)); exact HO_390001.out) hb); have n2_ := Zk (V_below (by (with_reducible repeat (first | apply V_alloc | apply V_drewN | apply V_drew)); exact HO_390002.out) hb); have n3_ := Zk (blk_below (g := gb389) (o := .cells #[.slice A0_0 l0_0.length c0_0, .slice A0_1 l0_1.length c0_1, .slice A0_2 l0_2.length c0_2] 30 (0, 0)) (by (with_reducible repeat (first | refine blk_drewN ?_ _ | refine blk_drew ?_ | refine blk_alloc ?_ _)); exact BK389.out) hb); have n4_ := Zk (below_step (by repeat (first | (with_reducible first | exact HB.out | apply below_alloc | apply pw_below_drewN | apply below_drew1 | refine below_set ?_ GE389.out) | exact HB.out)) hb); clear HO_390000; clear HO_390001; clear HO_390002; clear BK389; clear HB; have HO_390000 := n0_; have HO_390001 := n1_; have HO_390002 := n2_; have BK389 := n3_; have HB := n4_; clear n0_ n1_ n2_ n3_ n4_; (try clear hb); (try clear hb2); (try clear hk); (try clear hi)))
    go_ret
    exact ⟨by first | rfl | (simp [errW_none, errW_some] <;> rfl) | (simp [*, errW_none, errW_some] <;> rfl), by repeat (first | (with_reducible first | exact HB.out | apply below_alloc | apply pw_below_drewN | apply below_drew1 | refine below_set ?_ GE389.out) | exact HB.out)⟩
   ·replace c19 := Bool.eq_false_iff.mpr c19
    subst c19
    have H1 : (jobshelllaw25_SignalTaken.l0 kj2 l1 0 l0_0 l0_1 l0_2) = some r := by rw [if_neg (show ¬ (false = true) by decide)] at H; exact H
    clear H
    have H := H1
    clear H1
    have H' := Zk H
    clear H
    go_wp2
    go_loopg [5] kj2 (fun kq v5 w' => ∃ (x5_2 : Int) (x390000_2 : List Int) (x390001_2 : List Int) (x390002_2 : List Int) (u390000 : Value) (u390001 : Value) (u390002 : Value), v5 = .int .i64 x5_2 ∧ Aside0 (jobshelllaw25_SignalTaken.l0 kq l1 x5_2 x390000_2 x390001_2 x390002_2 = some r) ∧ Aside0 (kq ≤ kj2) ∧ Aside0 (Kd.V (Kd.int .i64) 3 w' w.heap.size (fun k_ => ((P0_0_ k_ ∨ P0_1_ k_ ∨ P0_2_ k_) ∨ w.heap.size ≤ k_) ∧ k_ ≠ gb389) u390000 x390000_2) ∧ Aside0 (Kd.V (Kd.int .i64) 3 w' w.heap.size (fun k_ => ((P0_0_ k_ ∨ P0_1_ k_ ∨ P0_2_ k_) ∨ w.heap.size ≤ k_) ∧ k_ ≠ gb389) u390001 x390001_2) ∧ Aside0 (Kd.V (Kd.int .i64) 3 w' w.heap.size (fun k_ => ((P0_0_ k_ ∨ P0_1_ k_ ∨ P0_2_ k_) ∨ w.heap.size ≤ k_) ∧ k_ ≠ gb389) u390002 x390002_2) ∧ Aside0 (w'.heap[gb389]? = some (.cells #[u390000, u390001, u390002] 30 (0, 0))) ∧ Aside0 (Below w.heap.size w w'))
    case atStart => exact ⟨(0), (l0_0), (l0_1), (l0_2), (.slice A0_0 l0_0.length c0_0), (.slice A0_1 l0_1.length c0_1), (.slice A0_2 l0_2.length c0_2), (by first | rfl | (simp; done) | (simp [*]; done) | (generalize ByteArray.toList _ = l_; cases l_ <;> rfl)), H', ⟨Nat.le_refl _⟩, ⟨by (with_reducible repeat (first | apply V_alloc | apply V_drewN | apply V_drew)); exact HO_390000.out⟩, ⟨by (with_reducible repeat (first | apply V_alloc | apply V_drewN | apply V_drew)); exact HO_390001.out⟩, ⟨by (with_reducible repeat (first | apply V_alloc | apply V_drewN | apply V_drew)); exact HO_390002.out⟩, ⟨by (with_reducible repeat (first | refine blk_drewN ?_ _ | refine blk_drew ?_ | refine blk_alloc ?_ _)); exact BK389.out⟩, ⟨by repeat (first | (with_reducible first | exact HB.out | apply below_alloc | apply pw_below_drewN | apply below_drew1 | refine below_set ?_ GE389.out) | exact HB.out)⟩⟩
    case round =>
     clear H'
     try clear c1
     try clear p2
     try clear c5
     try clear c6
     try clear c8
     try clear c8b0
     try clear c8b1
     try clear c10
     try clear c17
     try clear c19
     try clear hcz11_0
     try clear hcz11_1
     try clear hcz11_2
     try clear hcz13_0
     try clear hcz13_1
     try clear hcz13_2
     try clear hcz15_0
     try clear hcz15_1
     try clear hcz15_2
     try clear hcz17_0
     try clear hcz17_1
     try clear hcz17_2
     try clear hcz9_0
     try clear hcz9_1
     try clear hcz9_2
     try clear hfz11_0
     try clear hfz11_1
     try clear hfz11_2
     try clear hfz13_0
     try clear hfz13_1
     try clear hfz13_2
     try clear hfz15_0
     try clear hfz15_1
     try clear hfz15_2
     try clear hfz17_0
     try clear hfz17_1
     try clear hfz17_2
     try clear hfz9_0
     try clear hfz9_1
     try clear hfz9_2
     try clear p2
     obtain ⟨x5_2, x390000_2, x390001_2, x390002_2, u390000, u390001, u390002, rfl, HA, HK2, HO_390000, HO_390001, HO_390002, BK389, HB⟩ := hrel
     cases gk with
     | zero => exact absurd HA.out (by simp [jobshelllaw25_SignalTaken.l0])
     | succ k2 =>
      have H := HA.out
      clear HA
      simp only [jobshelllaw25_SignalTaken.l0] at H
      by_cases c22 : x5_2 < (l1.length : Int)
      ·rw [if_pos c22] at H
       have c22b0 : decide (x5_2 < (l1.length : Int)) = true := decide_eq_true c22
       clear c22
       by_cases c23 : 0 ≤ x5_2
       ·rw [if_pos c23] at H
        have c23b0 : decide (0 ≤ x5_2) = true := decide_eq_true c23
        clear c23
        replace H := Option.bind_eq_some_iff.mp H
        obtain ⟨⟨t394, t397, t400⟩, A240, H⟩ := H
        replace H : ((signal_Send.f k2 t394 t397 t400 (rd l1 x5_2)).bind fun bt405 => ((jobshellref25_Same.f k2 bt405.1 bt405.2.1 bt405.2.2 t394 t397 t400).bind fun t414 => (if t414 = true then (jobshelllaw25_SignalTaken.l0 k2 l1 (wrap64 (x5_2 + 1)) t394 t397 t400) else (none)))) = some r := H
        have A24 := Zk A240
        clear A240
        replace H := Option.bind_eq_some_iff.mp H
        obtain ⟨⟨t405, t408, t411⟩, A250, H⟩ := H
        replace H : ((jobshellref25_Same.f k2 t405 t408 t411 t394 t397 t400).bind fun t414 => (if t414 = true then (jobshelllaw25_SignalTaken.l0 k2 l1 (wrap64 (x5_2 + 1)) t394 t397 t400) else (none))) = some r := H
        have A25 := Zk A250
        clear A250
        replace H := Option.bind_eq_some_iff.mp H
        obtain ⟨t414, A260, H⟩ := H
        replace H : (if t414 = true then (jobshelllaw25_SignalTaken.l0 k2 l1 (wrap64 (x5_2 + 1)) t394 t397 t400) else (none)) = some r := H
        have A26 := Zk A260
        clear A260
        by_cases c27 : t414 = true
        ·subst c27
         have H1 : (jobshelllaw25_SignalTaken.l0 k2 l1 (wrap64 (x5_2 + 1)) t394 t397 t400) = some r := by rw [if_pos rfl] at H; exact H
         clear H
         have H := H1
         clear H1
         have H' := Zk H
         clear H
         obtain ⟨Ao28, co28, eo28⟩ := V_slice HO_390000.out
         subst eo28
         obtain ⟨Ao29, co29, eo29⟩ := V_slice HO_390001.out
         subst eo29
         obtain ⟨Ao30, co30, eo30⟩ := V_slice HO_390002.out
         subst eo30
         try go_wp2
         have n0_ := Zk (V_drew HO_390000.out)
         have n1_ := Zk (V_drew HO_390001.out)
         have n2_ := Zk (V_drew HO_390002.out)
         have n3_ := Zk (blk_drew BK389.out)
         have n4_ := Zk (below_drew1 HB.out)
         clear HO_390000
         clear HO_390001
         clear HO_390002
         clear BK389
         clear HB
         have HO_390000 := n0_
         have HO_390001 := n1_
         have HO_390002 := n2_
         have BK389 := n3_
         have HB := n4_
         clear n0_ n1_ n2_ n3_ n4_
         have p393 : 0 ≤ (x5_2 : Int) := of_decide_eq_true (by first | (with_reducible assumption) | assumption)
         have q393 : x5_2 < (l1.length : Int) := of_decide_eq_true (by first | (with_reducible assumption) | assumption)
         obtain ⟨ad393, e393, hx393_0⟩ := Kd.at_int HR1.out x5_2 p393 q393
         have hw393_0 := hx393_0
         cases e393
         replace hx393_0 := (HB.out.cell (World.block_lt_of_cell? w _ hx393_0)).trans hx393_0
         replace p393 := eq_true p393
         replace q393 := eq_true q393
         refine start_ (n := 8) (S := fun w' => w'.cell? ⟨gb389, 0, none⟩ = some (.slice Ao28 x390000_2.length co28) ∧ w'.cell? ⟨gb389, 1, none⟩ = some (.slice Ao29 x390001_2.length co29) ∧ w'.cell? ⟨gb389, 2, none⟩ = some (.slice Ao30 x390002_2.length co30) ∧ w'.cell? (ad393.add (x5_2).toNat) = some (.int .i64 (rd l1 x5_2))) (ds := []) #[false, false, false, false, false, false, false, false] (by kernel_rfl) rfl rfl ⟨(blk_cell BK389.out 0).trans rfl, (blk_cell BK389.out 1).trans rfl, (blk_cell BK389.out 2).trans rfl, ((HB.out.cell (World.block_lt_of_cell? w _ hw393_0)).trans hw393_0)⟩ (fun hHeld => ?_); refine with_tabW jobshelllaw25_SignalTaken.tab6 jobshelllaw25_SignalTaken.bits6 (fun HT_ HW_ => ?_)
         generalize wr.drew = w31 at HO_390000 HO_390001 HO_390002 BK389 HB hx393_0 hHeld ⊢
         refine pure_ (i := 1) (N := some 38) (v := ?_) (a' := ?_) #[false, true, false, false, false, false, false, false] rfl rfl (any_of HT_.out (by kernel_rfl)) (fun _ _ _ h => h) (Or.inl ⟨by rfl, ?_⟩) ?_ ?_
         rotate_left
         ·intro w'
          go_simp
          with_reducible rfl
         rotate_left
         ·simp only [Act.put, List.setIfInBounds_toArray, List.set_cons_zero, List.set_cons_succ, i64_w, i32_w]
          rfl
         refine pure_ (i := 2) (N := some 39) (v := ?_) (a' := ?_) #[false, true, true, false, false, false, false, false] rfl rfl (any_of HT_.out (by kernel_rfl)) (fun _ _ _ h => h) (Or.inl ⟨by rfl, ?_⟩) ?_ ?_
         rotate_left
         ·intro w'
          go_simp
          with_reducible rfl
         rotate_left
         ·simp only [Act.put, List.setIfInBounds_toArray, List.set_cons_zero, List.set_cons_succ, i64_w, i32_w]
          rfl
         refine pure_ (i := 3) (N := some 40) (v := ?_) (a' := ?_) #[false, true, true, true, false, false, false, false] rfl rfl (any_of HT_.out (by kernel_rfl)) (fun _ _ _ h => h) (Or.inl ⟨by rfl, ?_⟩) ?_ ?_
         rotate_left
         ·intro w'
          go_simp
          with_reducible rfl
         rotate_left
         ·simp only [Act.put, List.setIfInBounds_toArray, List.set_cons_zero, List.set_cons_succ, i64_w, i32_w]
          rfl
         refine take_ (i := 0) (N := some 37) (v := ?_) (a' := ?_) #[true, true, true, true, false, false, false, false] rfl rfl (take_ofW HT_.out HW_.out (by kernel_rfl)) (fun _ _ _ h => h) (Or.inl ⟨by rfl, ?_⟩) hHeld ?_ ?_
         rotate_left
         ·rintro w' ⟨s0, s1, s2, s3⟩
          go_simp
          with_reducible rfl
         rotate_left
         ·simp only [Act.put, List.setIfInBounds_toArray, List.set_cons_zero, List.set_cons_succ, i64_w, i32_w]
          rfl
         refine take_ (i := 4) (N := some 41) (v := ?_) (a' := ?_) #[true, true, true, true, true, false, false, false] rfl rfl (take_ofW HT_.out HW_.out (by kernel_rfl)) (fun _ _ _ h => h) (Or.inl ⟨by rfl, ?_⟩) hHeld ?_ ?_
         rotate_left
         ·rintro w' ⟨s0, s1, s2, s3⟩
          go_simp
          with_reducible rfl
         rotate_left
         ·simp only [Act.put, List.setIfInBounds_toArray, List.set_cons_zero, List.set_cons_succ, i64_w, i32_w]
          rfl
         refine join_ (σ := Value × Value × Value × Nat) 1 #[true, true, true, true, true, true, true, false] (fun s_ => [(42, .agg #[s_.1, s_.2.1, s_.2.2.1]), (6, .pointer (some ⟨s_.2.2.2, 0, none⟩))]) (fun s_ w' => (w'.cell? ⟨gb389, 0, none⟩ = some (.slice Ao28 x390000_2.length co28) ∧ w'.cell? ⟨gb389, 1, none⟩ = some (.slice Ao29 x390001_2.length co29) ∧ w'.cell? ⟨gb389, 2, none⟩ = some (.slice Ao30 x390002_2.length co30) ∧ w'.cell? (ad393.add (x5_2).toNat) = some (.int .i64 (rd l1 x5_2))) ∧ (Kd.V (Kd.int .i64) 3 w' w.heap.size (fun k_ => ((P0_0_ k_ ∨ P0_1_ k_ ∨ P0_2_ k_) ∨ w.heap.size ≤ k_) ∧ k_ ≠ gb389 ∧ k_ ≠ s_.2.2.2) s_.1 t394) ∧ (Kd.V (Kd.int .i64) 3 w' w.heap.size (fun k_ => ((P0_0_ k_ ∨ P0_1_ k_ ∨ P0_2_ k_) ∨ w.heap.size ≤ k_) ∧ k_ ≠ gb389 ∧ k_ ≠ s_.2.2.2) s_.2.1 t397) ∧ (Kd.V (Kd.int .i64) 3 w' w.heap.size (fun k_ => ((P0_0_ k_ ∨ P0_1_ k_ ∨ P0_2_ k_) ∨ w.heap.size ≤ k_) ∧ k_ ≠ gb389 ∧ k_ ≠ s_.2.2.2) s_.2.2.1 t400) ∧ (Kd.V (Kd.int .i64) 3 w' w.heap.size (fun k_ => ((P0_0_ k_ ∨ P0_1_ k_ ∨ P0_2_ k_) ∨ w.heap.size ≤ k_) ∧ k_ ≠ gb389 ∧ k_ ≠ s_.2.2.2) (.slice Ao28 x390000_2.length co28) x390000_2) ∧ (Kd.V (Kd.int .i64) 3 w' w.heap.size (fun k_ => ((P0_0_ k_ ∨ P0_1_ k_ ∨ P0_2_ k_) ∨ w.heap.size ≤ k_) ∧ k_ ≠ gb389 ∧ k_ ≠ s_.2.2.2) (.slice Ao29 x390001_2.length co29) x390001_2) ∧ (Kd.V (Kd.int .i64) 3 w' w.heap.size (fun k_ => ((P0_0_ k_ ∨ P0_1_ k_ ∨ P0_2_ k_) ∨ w.heap.size ≤ k_) ∧ k_ ≠ gb389 ∧ k_ ≠ s_.2.2.2) (.slice Ao30 x390002_2.length co30) x390002_2) ∧ (w'.heap[gb389]? = some (.cells #[.slice Ao28 x390000_2.length co28, .slice Ao29 x390001_2.length co29, .slice Ao30 x390002_2.length co30] 30 (0, 0))) ∧ (w'.heap[s_.2.2.2]? = some (.cells #[.slice none 0 0, .slice none 0 0, .slice none 0 0] 30 (0, 0))) ∧ (w.heap.size ≤ s_.2.2.2) ∧ (w.heap.size ≤ s_.2.2.2) ∧ (gb389 ≠ s_.2.2.2) ∧ (s_.2.2.2 ≠ gb389) ∧ (Below w.heap.size w w')) ?_ ?_
         rotate_left
         ·intro hCont
          refine two_ (i := 5) (j := 6) (Ni := some 42) (Nj := some 6) #[true, true, true, true, true, true, false, false] #[true, true, true, true, true, false, true, false] rfl rfl rfl rfl (two_of HT_.out (by kernel_rfl)) (by decide) (by decide) (fun K hK => ?_) (fun K hK => ?_)
          ·skip
           refine goes_ Tryd.func22 (by kernel_rfl) rfl #[.agg #[.slice Ao28 x390000_2.length co28, .slice Ao29 x390001_2.length co29, .slice Ao30 x390002_2.length co30], .int .i64 (rd l1 x5_2)] (by rfl) rfl rfl (by (try simp only [List.map_toArray, List.map_cons, List.map_nil]); first | done | rfl | (simp only [List.length_drop, List.length_take]; rfl)) ?_
           with_reducible refine (signal_Send.calls k2 (fun k_ => (((P0_0_ k_ ∨ P0_1_ k_ ∨ P0_2_ k_) ∨ w.heap.size ≤ k_) ∧ k_ ≠ gb389)) _ _ x390000_2 (fun k_ => (((P0_0_ k_ ∨ P0_1_ k_ ∨ P0_2_ k_) ∨ w.heap.size ≤ k_) ∧ k_ ≠ gb389)) _ _ x390001_2 (fun k_ => (((P0_0_ k_ ∨ P0_1_ k_ ∨ P0_2_ k_) ∨ w.heap.size ≤ k_) ∧ k_ ≠ gb389)) _ _ x390002_2 (rd l1 x5_2) t394 t397 t400 _ ?side1 ?side2 ?side3 A24.out).mono ?_
           (case side1 => exact HO_390000.out)
           (case side2 => exact HO_390001.out)
           (case side3 => exact HO_390002.out)
           rintro e w32 ⟨v395, v398, v401, rfl, ho0, ho1, ho2, hb⟩
           refine ⟨_, rfl, ?_⟩
           have n0_ := Zk (V_below (by (with_reducible repeat (first | apply V_alloc | apply V_drewN | apply V_drew)); exact HO_390000.out) hb)
           have n1_ := Zk (V_below (by (with_reducible repeat (first | apply V_alloc | apply V_drewN | apply V_drew)); exact HO_390001.out) hb)
           have n2_ := Zk (V_below (by (with_reducible repeat (first | apply V_alloc | apply V_drewN | apply V_drew)); exact HO_390002.out) hb)
           have n3_ := Zk (V_lower (V_mono (ok' := fun k_ => ((P0_0_ k_ ∨ P0_1_ k_ ∨ P0_2_ k_) ∨ w.heap.size ≤ k_) ∧ k_ ≠ gb389) ho0 (fun k_ hk_ => ⟨Or.elim hk_ (fun hs_ => Or.elim hs_ (fun hs_ => hs_.1) (fun hs_ => Or.elim hs_ (fun hs_ => hs_.1) (fun hs_ => hs_.1))) (fun hn_ => (.inr (Nat.le_trans (below_size (by repeat (first | (with_reducible first | exact HB.out | apply below_alloc | apply pw_below_drewN | apply below_drew1 | refine below_set ?_ GE389.out) | exact HB.out))) hn_))), Or.elim hk_ (fun hs_ => Or.elim hs_ (fun hs_ => hs_.2) (fun hs_ => Or.elim hs_ (fun hs_ => hs_.2) (fun hs_ => hs_.2))) (fun hn_ => (Kd.freshB (g := gb389) (o := .cells #[.slice Ao28 x390000_2.length co28, .slice Ao29 x390001_2.length co29, .slice Ao30 x390002_2.length co30] 30 (0, 0)) (by (with_reducible repeat (first | refine blk_drewN ?_ _ | refine blk_drew ?_ | refine blk_alloc ?_ _)); exact BK389.out) k_ hn_))⟩)) (below_size (by repeat (first | (with_reducible first | exact HB.out | apply below_alloc | apply pw_below_drewN | apply below_drew1 | refine below_set ?_ GE389.out) | exact HB.out))))
           have n4_ := Zk (V_lower (V_mono (ok' := fun k_ => ((P0_0_ k_ ∨ P0_1_ k_ ∨ P0_2_ k_) ∨ w.heap.size ≤ k_) ∧ k_ ≠ gb389) ho1 (fun k_ hk_ => ⟨Or.elim hk_ (fun hs_ => Or.elim hs_ (fun hs_ => hs_.1) (fun hs_ => Or.elim hs_ (fun hs_ => hs_.1) (fun hs_ => hs_.1))) (fun hn_ => (.inr (Nat.le_trans (below_size (by repeat (first | (with_reducible first | exact HB.out | apply below_alloc | apply pw_below_drewN | apply below_drew1 | refine below_set ?_ GE389.out) | exact HB.out))) hn_))), Or.elim hk_ (fun hs_ => Or.elim hs_ (fun hs_ => hs_.2) (fun hs_ => Or.elim hs_ (fun hs_ => hs_.2) (fun hs_ => hs_.2))) (fun hn_ => (Kd.freshB (g := gb389) (o := .cells #[.slice Ao28 x390000_2.length co28, .slice Ao29 x390001_2.length co29, .slice Ao30 x390002_2.length co30] 30 (0, 0)) (by (with_reducible repeat (first | refine blk_drewN ?_ _ | refine blk_drew ?_ | refine blk_alloc ?_ _)); exact BK389.out) k_ hn_))⟩)) (below_size (by repeat (first | (with_reducible first | exact HB.out | apply below_alloc | apply pw_below_drewN | apply below_drew1 | refine below_set ?_ GE389.out) | exact HB.out))))
           have n5_ := Zk (V_lower (V_mono (ok' := fun k_ => ((P0_0_ k_ ∨ P0_1_ k_ ∨ P0_2_ k_) ∨ w.heap.size ≤ k_) ∧ k_ ≠ gb389) ho2 (fun k_ hk_ => ⟨Or.elim hk_ (fun hs_ => Or.elim hs_ (fun hs_ => hs_.1) (fun hs_ => Or.elim hs_ (fun hs_ => hs_.1) (fun hs_ => hs_.1))) (fun hn_ => (.inr (Nat.le_trans (below_size (by repeat (first | (with_reducible first | exact HB.out | apply below_alloc | apply pw_below_drewN | apply below_drew1 | refine below_set ?_ GE389.out) | exact HB.out))) hn_))), Or.elim hk_ (fun hs_ => Or.elim hs_ (fun hs_ => hs_.2) (fun hs_ => Or.elim hs_ (fun hs_ => hs_.2) (fun hs_ => hs_.2))) (fun hn_ => (Kd.freshB (g := gb389) (o := .cells #[.slice Ao28 x390000_2.length co28, .slice Ao29 x390001_2.length co29, .slice Ao30 x390002_2.length co30] 30 (0, 0)) (by (with_reducible repeat (first | refine blk_drewN ?_ _ | refine blk_drew ?_ | refine blk_alloc ?_ _)); exact BK389.out) k_ hn_))⟩)) (below_size (by repeat (first | (with_reducible first | exact HB.out | apply below_alloc | apply pw_below_drewN | apply below_drew1 | refine below_set ?_ GE389.out) | exact HB.out))))
           have n6_ := Zk (blk_below (g := gb389) (o := .cells #[.slice Ao28 x390000_2.length co28, .slice Ao29 x390001_2.length co29, .slice Ao30 x390002_2.length co30] 30 (0, 0)) (by (with_reducible repeat (first | refine blk_drewN ?_ _ | refine blk_drew ?_ | refine blk_alloc ?_ _)); exact BK389.out) hb)
           have n7_ := Zk (below_step (by repeat (first | (with_reducible first | exact HB.out | apply below_alloc | apply pw_below_drewN | apply below_drew1 | refine below_set ?_ GE389.out) | exact HB.out)) hb)
           clear HO_390000
           clear HO_390001
           clear HO_390002
           clear BK389
           clear HB
           have HO_390000 := n0_
           have HO_390001 := n1_
           have HO_390002 := n2_
           have HO396 := n3_
           have HO399 := n4_
           have HO402 := n5_
           have BK389 := n6_
           have HB := n7_
           clear n0_ n1_ n2_ n3_ n4_ n5_ n6_ n7_
           (try clear hb)
           (try clear hb2)
           (try clear hk)
           (try clear hi)
           (try clear ho0)
           (try clear ho1)
           (try clear ho2)
           refine hK.out _ _ ⟨(blk_cell BK389.out 0).trans rfl, (blk_cell BK389.out 1).trans rfl, (blk_cell BK389.out 2).trans rfl, ((HB.out.cell (World.block_lt_of_cell? w _ hw393_0)).trans hw393_0)⟩ (fun hHeld => ?_)
           clear hK K
           refine norm_ (a' := ?_) ?_ ?_
           rotate_left
           ·show Act.put _ (some 42) _ = _
            simp only [Act.put, List.setIfInBounds_toArray, List.set_cons_zero, List.set_cons_succ, i64_w, i32_w]
            rfl
           refine one_ (i := 6) (N := some 6) #[true, true, true, true, true, true, true, false] rfl rfl (one_of HT_.out (by kernel_rfl)) (by decide) (fun K hK => ?_)
           refine box_step ?hg (N := 6) ?hd (cs := #[.slice none 0 0, .slice none 0 0, .slice none 0 0]) (t := 30) ?hr ?_; (case hd => rfl); (case hg => rfl); (case hr => first | (go_simp; done) | (go_simp; rfl))
           intro gb403 hg w33 hbox hb
           have n0_ := Zk (V_below (V_elderB (by (with_reducible repeat (first | apply V_alloc | apply V_drewN | apply V_drew)); exact HO_390000.out) gb403 (Nat.le_of_eq hg.symm)) hb)
           have n1_ := Zk (V_below (V_elderB (by (with_reducible repeat (first | apply V_alloc | apply V_drewN | apply V_drew)); exact HO_390001.out) gb403 (Nat.le_of_eq hg.symm)) hb)
           have n2_ := Zk (V_below (V_elderB (by (with_reducible repeat (first | apply V_alloc | apply V_drewN | apply V_drew)); exact HO_390002.out) gb403 (Nat.le_of_eq hg.symm)) hb)
           have n3_ := Zk (V_below (V_elderB (by (with_reducible repeat (first | apply V_alloc | apply V_drewN | apply V_drew)); exact HO396.out) gb403 (Nat.le_of_eq hg.symm)) hb)
           have n4_ := Zk (V_below (V_elderB (by (with_reducible repeat (first | apply V_alloc | apply V_drewN | apply V_drew)); exact HO399.out) gb403 (Nat.le_of_eq hg.symm)) hb)
           have n5_ := Zk (V_below (V_elderB (by (with_reducible repeat (first | apply V_alloc | apply V_drewN | apply V_drew)); exact HO402.out) gb403 (Nat.le_of_eq hg.symm)) hb)
           have n6_ := Zk (blk_below (g := gb389) (o := .cells #[.slice Ao28 x390000_2.length co28, .slice Ao29 x390001_2.length co29, .slice Ao30 x390002_2.length co30] 30 (0, 0)) (by (with_reducible repeat (first | refine blk_drewN ?_ _ | refine blk_drew ?_ | refine blk_alloc ?_ _)); exact BK389.out) hb)
           have n7_ := Zk (below_step (by repeat (first | (with_reducible first | exact HB.out | apply below_alloc | apply pw_below_drewN | apply below_drew1 | refine below_set ?_ GE389.out) | exact HB.out)) hb)
           have n8_ := Zk (hbox)
           have n9_ := Zk ((by rw [hg]; exact (below_size (by repeat (first | (with_reducible first | exact HB.out | apply below_alloc | apply pw_below_drewN | apply below_drew1 | refine below_set ?_ GE389.out) | exact HB.out))) : w.heap.size ≤ gb403))
           have n10_ := Zk ((by rw [hg]; exact (below_size (by repeat (first | (with_reducible first | exact HB.out | apply below_alloc | apply pw_below_drewN | apply below_drew1 | refine below_set ?_ GE389.out) | exact HB.out))) : w.heap.size ≤ gb403))
           have n11_ := Zk ((by rw [hg]; exact Nat.ne_of_lt (blk_lt (g := gb389) (o := .cells #[.slice Ao28 x390000_2.length co28, .slice Ao29 x390001_2.length co29, .slice Ao30 x390002_2.length co30] 30 (0, 0)) (by (with_reducible repeat (first | refine blk_drewN ?_ _ | refine blk_drew ?_ | refine blk_alloc ?_ _)); exact BK389.out)) : gb389 ≠ gb403))
           have n12_ := Zk ((by rw [hg]; exact Nat.ne_of_gt (blk_lt (g := gb389) (o := .cells #[.slice Ao28 x390000_2.length co28, .slice Ao29 x390001_2.length co29, .slice Ao30 x390002_2.length co30] 30 (0, 0)) (by (with_reducible repeat (first | refine blk_drewN ?_ _ | refine blk_drew ?_ | refine blk_alloc ?_ _)); exact BK389.out)) : gb403 ≠ gb389))
           clear HO_390000
           clear HO_390001
           clear HO_390002
           clear HO396
           clear HO399
           clear HO402
           clear BK389
           clear HB
           have HO_390000 := n0_
           have HO_390001 := n1_
           have HO_390002 := n2_
           have HO396 := n3_
           have HO399 := n4_
           have HO402 := n5_
           have BK389 := n6_
           have HB := n7_
           have BK403 := n8_
           have GW403 := n9_
           have GE403 := n10_
           have NB389_403 := n11_
           have NB403_389 := n12_
           clear n0_ n1_ n2_ n3_ n4_ n5_ n6_ n7_ n8_ n9_ n10_ n11_ n12_
           clear hb hbox hg
           refine hK.out _ _ ⟨(blk_cell BK389.out 0).trans rfl, (blk_cell BK389.out 1).trans rfl, (blk_cell BK389.out 2).trans rfl, ((HB.out.cell (World.block_lt_of_cell? w _ hw393_0)).trans hw393_0)⟩ (fun hHeld => ?_)
           clear hK K
           refine norm_ (a' := ?_) ?_ ?_
           rotate_left
           ·show Act.put _ (some 6) _ = _
            simp only [Act.put, List.setIfInBounds_toArray, List.set_cons_zero, List.set_cons_succ, i64_w, i32_w]
            rfl
           exact norm_ (by simp only [putAll, Act.put, List.setIfInBounds_toArray, List.set_cons_zero, List.set_cons_succ]) (hCont (v395, v398, v401, gb403) _ ⟨hHeld, (by (with_reducible repeat (first | apply V_alloc | apply V_drewN | apply V_drew)); exact V_mono HO396.out (fun _ hk => ⟨hk.1.1, ⟨hk.1.2, hk.2⟩⟩)), (by (with_reducible repeat (first | apply V_alloc | apply V_drewN | apply V_drew)); exact V_mono HO399.out (fun _ hk => ⟨hk.1.1, ⟨hk.1.2, hk.2⟩⟩)), (by (with_reducible repeat (first | apply V_alloc | apply V_drewN | apply V_drew)); exact V_mono HO402.out (fun _ hk => ⟨hk.1.1, ⟨hk.1.2, hk.2⟩⟩)), (by (with_reducible repeat (first | apply V_alloc | apply V_drewN | apply V_drew)); exact V_mono HO_390000.out (fun _ hk => ⟨hk.1.1, ⟨hk.1.2, hk.2⟩⟩)), (by (with_reducible repeat (first | apply V_alloc | apply V_drewN | apply V_drew)); exact V_mono HO_390001.out (fun _ hk => ⟨hk.1.1, ⟨hk.1.2, hk.2⟩⟩)), (by (with_reducible repeat (first | apply V_alloc | apply V_drewN | apply V_drew)); exact V_mono HO_390002.out (fun _ hk => ⟨hk.1.1, ⟨hk.1.2, hk.2⟩⟩)), (by (with_reducible repeat (first | refine blk_drewN ?_ _ | refine blk_drew ?_ | refine blk_alloc ?_ _)); exact BK389.out), (by (with_reducible repeat (first | refine blk_drewN ?_ _ | refine blk_drew ?_ | refine blk_alloc ?_ _)); exact BK403.out), GW403.out, GE403.out, NB389_403.out, NB403_389.out, (by repeat (first | (with_reducible first | exact HB.out | apply below_alloc | apply pw_below_drewN | apply below_drew1 | refine below_set ?_ GE389.out | refine below_set ?_ GE403.out) | exact HB.out))⟩)
          ·skip
           refine box_step ?hg (N := 6) ?hd (cs := #[.slice none 0 0, .slice none 0 0, .slice none 0 0]) (t := 30) ?hr ?_; (case hd => rfl); (case hg => rfl); (case hr => first | (go_simp; done) | (go_simp; rfl))
           intro gb403 hg w32 hbox hb
           have n0_ := Zk (V_below (V_elderB (by (with_reducible repeat (first | apply V_alloc | apply V_drewN | apply V_drew)); exact HO_390000.out) gb403 (Nat.le_of_eq hg.symm)) hb)
           have n1_ := Zk (V_below (V_elderB (by (with_reducible repeat (first | apply V_alloc | apply V_drewN | apply V_drew)); exact HO_390001.out) gb403 (Nat.le_of_eq hg.symm)) hb)
           have n2_ := Zk (V_below (V_elderB (by (with_reducible repeat (first | apply V_alloc | apply V_drewN | apply V_drew)); exact HO_390002.out) gb403 (Nat.le_of_eq hg.symm)) hb)
           have n3_ := Zk (blk_below (g := gb389) (o := .cells #[.slice Ao28 x390000_2.length co28, .slice Ao29 x390001_2.length co29, .slice Ao30 x390002_2.length co30] 30 (0, 0)) (by (with_reducible repeat (first | refine blk_drewN ?_ _ | refine blk_drew ?_ | refine blk_alloc ?_ _)); exact BK389.out) hb)
           have n4_ := Zk (below_step (by repeat (first | (with_reducible first | exact HB.out | apply below_alloc | apply pw_below_drewN | apply below_drew1 | refine below_set ?_ GE389.out) | exact HB.out)) hb)
           have n5_ := Zk (hbox)
           have n6_ := Zk ((by rw [hg]; exact (below_size (by repeat (first | (with_reducible first | exact HB.out | apply below_alloc | apply pw_below_drewN | apply below_drew1 | refine below_set ?_ GE389.out) | exact HB.out))) : w.heap.size ≤ gb403))
           have n7_ := Zk ((by rw [hg]; exact (below_size (by repeat (first | (with_reducible first | exact HB.out | apply below_alloc | apply pw_below_drewN | apply below_drew1 | refine below_set ?_ GE389.out) | exact HB.out))) : w.heap.size ≤ gb403))
           have n8_ := Zk ((by rw [hg]; exact Nat.ne_of_lt (blk_lt (g := gb389) (o := .cells #[.slice Ao28 x390000_2.length co28, .slice Ao29 x390001_2.length co29, .slice Ao30 x390002_2.length co30] 30 (0, 0)) (by (with_reducible repeat (first | refine blk_drewN ?_ _ | refine blk_drew ?_ | refine blk_alloc ?_ _)); exact BK389.out)) : gb389 ≠ gb403))
           have n9_ := Zk ((by rw [hg]; exact Nat.ne_of_gt (blk_lt (g := gb389) (o := .cells #[.slice Ao28 x390000_2.length co28, .slice Ao29 x390001_2.length co29, .slice Ao30 x390002_2.length co30] 30 (0, 0)) (by (with_reducible repeat (first | refine blk_drewN ?_ _ | refine blk_drew ?_ | refine blk_alloc ?_ _)); exact BK389.out)) : gb403 ≠ gb389))
           clear HO_390000
           clear HO_390001
           clear HO_390002
           clear BK389
           clear HB
           have HO_390000 := n0_
           have HO_390001 := n1_
           have HO_390002 := n2_
           have BK389 := n3_
           have HB := n4_
           have BK403 := n5_
           have GW403 := n6_
           have GE403 := n7_
           have NB389_403 := n8_
           have NB403_389 := n9_
           clear n0_ n1_ n2_ n3_ n4_ n5_ n6_ n7_ n8_ n9_
           clear hb hbox hg
           refine hK.out _ _ ⟨(blk_cell BK389.out 0).trans rfl, (blk_cell BK389.out 1).trans rfl, (blk_cell BK389.out 2).trans rfl, ((HB.out.cell (World.block_lt_of_cell? w _ hw393_0)).trans hw393_0)⟩ (fun hHeld => ?_)
           clear hK K
           refine norm_ (a' := ?_) ?_ ?_
           rotate_left
           ·show Act.put _ (some 6) _ = _
            simp only [Act.put, List.setIfInBounds_toArray, List.set_cons_zero, List.set_cons_succ, i64_w, i32_w]
            rfl
           refine one_ (i := 5) (N := some 42) #[true, true, true, true, true, true, true, false] rfl rfl (one_of HT_.out (by kernel_rfl)) (by decide) (fun K hK => ?_)
           refine goes_ Tryd.func22 (by kernel_rfl) rfl #[.agg #[.slice Ao28 x390000_2.length co28, .slice Ao29 x390001_2.length co29, .slice Ao30 x390002_2.length co30], .int .i64 (rd l1 x5_2)] (by rfl) rfl rfl (by (try simp only [List.map_toArray, List.map_cons, List.map_nil]); first | done | rfl | (simp only [List.length_drop, List.length_take]; rfl)) ?_
           with_reducible refine (signal_Send.calls k2 (fun k_ => ((((P0_0_ k_ ∨ P0_1_ k_ ∨ P0_2_ k_) ∨ w.heap.size ≤ k_) ∧ k_ ≠ gb389) ∧ k_ ≠ gb403)) _ _ x390000_2 (fun k_ => ((((P0_0_ k_ ∨ P0_1_ k_ ∨ P0_2_ k_) ∨ w.heap.size ≤ k_) ∧ k_ ≠ gb389) ∧ k_ ≠ gb403)) _ _ x390001_2 (fun k_ => ((((P0_0_ k_ ∨ P0_1_ k_ ∨ P0_2_ k_) ∨ w.heap.size ≤ k_) ∧ k_ ≠ gb389) ∧ k_ ≠ gb403)) _ _ x390002_2 (rd l1 x5_2) t394 t397 t400 _ ?side1 ?side2 ?side3 A24.out).mono ?_
           (case side1 => exact HO_390000.out)
           (case side2 => exact HO_390001.out)
           (case side3 => exact HO_390002.out)
           rintro e w33 ⟨v395, v398, v401, rfl, ho0, ho1, ho2, hb⟩
           refine ⟨_, rfl, ?_⟩
           have n0_ := Zk (V_below (by (with_reducible repeat (first | apply V_alloc | apply V_drewN | apply V_drew)); exact HO_390000.out) hb)
           have n1_ := Zk (V_below (by (with_reducible repeat (first | apply V_alloc | apply V_drewN | apply V_drew)); exact HO_390001.out) hb)
           have n2_ := Zk (V_below (by (with_reducible repeat (first | apply V_alloc | apply V_drewN | apply V_drew)); exact HO_390002.out) hb)
           have n3_ := Zk (V_lower (V_mono (ok' := fun k_ => ((P0_0_ k_ ∨ P0_1_ k_ ∨ P0_2_ k_) ∨ w.heap.size ≤ k_) ∧ k_ ≠ gb389 ∧ k_ ≠ gb403) ho0 (fun k_ hk_ => ⟨Or.elim hk_ (fun hs_ => Or.elim hs_ (fun hs_ => hs_.1.1) (fun hs_ => Or.elim hs_ (fun hs_ => hs_.1.1) (fun hs_ => hs_.1.1))) (fun hn_ => (.inr (Nat.le_trans (below_size (by repeat (first | (with_reducible first | exact HB.out | apply below_alloc | apply pw_below_drewN | apply below_drew1 | refine below_set ?_ GE389.out | refine below_set ?_ GE403.out) | exact HB.out))) hn_))), Or.elim hk_ (fun hs_ => Or.elim hs_ (fun hs_ => hs_.1.2) (fun hs_ => Or.elim hs_ (fun hs_ => hs_.1.2) (fun hs_ => hs_.1.2))) (fun hn_ => (Kd.freshB (g := gb389) (o := .cells #[.slice Ao28 x390000_2.length co28, .slice Ao29 x390001_2.length co29, .slice Ao30 x390002_2.length co30] 30 (0, 0)) (by (with_reducible repeat (first | refine blk_drewN ?_ _ | refine blk_drew ?_ | refine blk_alloc ?_ _)); exact BK389.out) k_ hn_)), Or.elim hk_ (fun hs_ => Or.elim hs_ (fun hs_ => hs_.2) (fun hs_ => Or.elim hs_ (fun hs_ => hs_.2) (fun hs_ => hs_.2))) (fun hn_ => (Kd.freshB (g := gb403) (o := .cells #[.slice none 0 0, .slice none 0 0, .slice none 0 0] 30 (0, 0)) (by (with_reducible repeat (first | refine blk_drewN ?_ _ | refine blk_drew ?_ | refine blk_alloc ?_ _)); exact BK403.out) k_ hn_))⟩)) (below_size (by repeat (first | (with_reducible first | exact HB.out | apply below_alloc | apply pw_below_drewN | apply below_drew1 | refine below_set ?_ GE389.out | refine below_set ?_ GE403.out) | exact HB.out))))
           have n4_ := Zk (V_lower (V_mono (ok' := fun k_ => ((P0_0_ k_ ∨ P0_1_ k_ ∨ P0_2_ k_) ∨ w.heap.size ≤ k_) ∧ k_ ≠ gb389 ∧ k_ ≠ gb403) ho1 (fun k_ hk_ => ⟨Or.elim hk_ (fun hs_ => Or.elim hs_ (fun hs_ => hs_.1.1) (fun hs_ => Or.elim hs_ (fun hs_ => hs_.1.1) (fun hs_ => hs_.1.1))) (fun hn_ => (.inr (Nat.le_trans (below_size (by repeat (first | (with_reducible first | exact HB.out | apply below_alloc | apply pw_below_drewN | apply below_drew1 | refine below_set ?_ GE389.out | refine below_set ?_ GE403.out) | exact HB.out))) hn_))), Or.elim hk_ (fun hs_ => Or.elim hs_ (fun hs_ => hs_.1.2) (fun hs_ => Or.elim hs_ (fun hs_ => hs_.1.2) (fun hs_ => hs_.1.2))) (fun hn_ => (Kd.freshB (g := gb389) (o := .cells #[.slice Ao28 x390000_2.length co28, .slice Ao29 x390001_2.length co29, .slice Ao30 x390002_2.length co30] 30 (0, 0)) (by (with_reducible repeat (first | refine blk_drewN ?_ _ | refine blk_drew ?_ | refine blk_alloc ?_ _)); exact BK389.out) k_ hn_)), Or.elim hk_ (fun hs_ => Or.elim hs_ (fun hs_ => hs_.2) (fun hs_ => Or.elim hs_ (fun hs_ => hs_.2) (fun hs_ => hs_.2))) (fun hn_ => (Kd.freshB (g := gb403) (o := .cells #[.slice none 0 0, .slice none 0 0, .slice none 0 0] 30 (0, 0)) (by (with_reducible repeat (first | refine blk_drewN ?_ _ | refine blk_drew ?_ | refine blk_alloc ?_ _)); exact BK403.out) k_ hn_))⟩)) (below_size (by repeat (first | (with_reducible first | exact HB.out | apply below_alloc | apply pw_below_drewN | apply below_drew1 | refine below_set ?_ GE389.out | refine below_set ?_ GE403.out) | exact HB.out))))
           have n5_ := Zk (V_lower (V_mono (ok' := fun k_ => ((P0_0_ k_ ∨ P0_1_ k_ ∨ P0_2_ k_) ∨ w.heap.size ≤ k_) ∧ k_ ≠ gb389 ∧ k_ ≠ gb403) ho2 (fun k_ hk_ => ⟨Or.elim hk_ (fun hs_ => Or.elim hs_ (fun hs_ => hs_.1.1) (fun hs_ => Or.elim hs_ (fun hs_ => hs_.1.1) (fun hs_ => hs_.1.1))) (fun hn_ => (.inr (Nat.le_trans (below_size (by repeat (first | (with_reducible first | exact HB.out | apply below_alloc | apply pw_below_drewN | apply below_drew1 | refine below_set ?_ GE389.out | refine below_set ?_ GE403.out) | exact HB.out))) hn_))), Or.elim hk_ (fun hs_ => Or.elim hs_ (fun hs_ => hs_.1.2) (fun hs_ => Or.elim hs_ (fun hs_ => hs_.1.2) (fun hs_ => hs_.1.2))) (fun hn_ => (Kd.freshB (g := gb389) (o := .cells #[.slice Ao28 x390000_2.length co28, .slice Ao29 x390001_2.length co29, .slice Ao30 x390002_2.length co30] 30 (0, 0)) (by (with_reducible repeat (first | refine blk_drewN ?_ _ | refine blk_drew ?_ | refine blk_alloc ?_ _)); exact BK389.out) k_ hn_)), Or.elim hk_ (fun hs_ => Or.elim hs_ (fun hs_ => hs_.2) (fun hs_ => Or.elim hs_ (fun hs_ => hs_.2) (fun hs_ => hs_.2))) (fun hn_ => (Kd.freshB (g := gb403) (o := .cells #[.slice none 0 0, .slice none 0 0, .slice none 0 0] 30 (0, 0)) (by (with_reducible repeat (first | refine blk_drewN ?_ _ | refine blk_drew ?_ | refine blk_alloc ?_ _)); exact BK403.out) k_ hn_))⟩)) (below_size (by repeat (first | (with_reducible first | exact HB.out | apply below_alloc | apply pw_below_drewN | apply below_drew1 | refine below_set ?_ GE389.out | refine below_set ?_ GE403.out) | exact HB.out))))
           have n6_ := Zk (blk_below (g := gb389) (o := .cells #[.slice Ao28 x390000_2.length co28, .slice Ao29 x390001_2.length co29, .slice Ao30 x390002_2.length co30] 30 (0, 0)) (by (with_reducible repeat (first | refine blk_drewN ?_ _ | refine blk_drew ?_ | refine blk_alloc ?_ _)); exact BK389.out) hb)
           have n7_ := Zk (blk_below (g := gb403) (o := .cells #[.slice none 0 0, .slice none 0 0, .slice none 0 0] 30 (0, 0)) (by (with_reducible repeat (first | refine blk_drewN ?_ _ | refine blk_drew ?_ | refine blk_alloc ?_ _)); exact BK403.out) hb)
           have n8_ := Zk (below_step (by repeat (first | (with_reducible first | exact HB.out | apply below_alloc | apply pw_below_drewN | apply below_drew1 | refine below_set ?_ GE389.out | refine below_set ?_ GE403.out) | exact HB.out)) hb)
           clear HO_390000
           clear HO_390001
           clear HO_390002
           clear BK389
           clear BK403
           clear HB
           have HO_390000 := n0_
           have HO_390001 := n1_
           have HO_390002 := n2_
           have HO396 := n3_
           have HO399 := n4_
           have HO402 := n5_
           have BK389 := n6_
           have BK403 := n7_
           have HB := n8_
           clear n0_ n1_ n2_ n3_ n4_ n5_ n6_ n7_ n8_
           (try clear hb)
           (try clear hb2)
           (try clear hk)
           (try clear hi)
           (try clear ho0)
           (try clear ho1)
           (try clear ho2)
           refine hK.out _ _ ⟨(blk_cell BK389.out 0).trans rfl, (blk_cell BK389.out 1).trans rfl, (blk_cell BK389.out 2).trans rfl, ((HB.out.cell (World.block_lt_of_cell? w _ hw393_0)).trans hw393_0)⟩ (fun hHeld => ?_)
           clear hK K
           refine norm_ (a' := ?_) ?_ ?_
           rotate_left
           ·show Act.put _ (some 42) _ = _
            simp only [Act.put, List.setIfInBounds_toArray, List.set_cons_zero, List.set_cons_succ, i64_w, i32_w]
            rfl
           exact norm_ (by simp only [putAll, Act.put, List.setIfInBounds_toArray, List.set_cons_zero, List.set_cons_succ]) (hCont (v395, v398, v401, gb403) _ ⟨hHeld, (by (with_reducible repeat (first | apply V_alloc | apply V_drewN | apply V_drew)); exact HO396.out), (by (with_reducible repeat (first | apply V_alloc | apply V_drewN | apply V_drew)); exact HO399.out), (by (with_reducible repeat (first | apply V_alloc | apply V_drewN | apply V_drew)); exact HO402.out), (by (with_reducible repeat (first | apply V_alloc | apply V_drewN | apply V_drew)); exact V_mono HO_390000.out (fun _ hk => ⟨hk.1.1, ⟨hk.1.2, hk.2⟩⟩)), (by (with_reducible repeat (first | apply V_alloc | apply V_drewN | apply V_drew)); exact V_mono HO_390001.out (fun _ hk => ⟨hk.1.1, ⟨hk.1.2, hk.2⟩⟩)), (by (with_reducible repeat (first | apply V_alloc | apply V_drewN | apply V_drew)); exact V_mono HO_390002.out (fun _ hk => ⟨hk.1.1, ⟨hk.1.2, hk.2⟩⟩)), (by (with_reducible repeat (first | refine blk_drewN ?_ _ | refine blk_drew ?_ | refine blk_alloc ?_ _)); exact BK389.out), (by (with_reducible repeat (first | refine blk_drewN ?_ _ | refine blk_drew ?_ | refine blk_alloc ?_ _)); exact BK403.out), GW403.out, GE403.out, NB389_403.out, NB403_389.out, (by repeat (first | (with_reducible first | exact HB.out | apply below_alloc | apply pw_below_drewN | apply below_drew1 | refine below_set ?_ GE389.out | refine below_set ?_ GE403.out) | exact HB.out))⟩)
         rintro ⟨v395, v398, v401, gb403⟩ w34 ⟨hS_, h0_, h1_, h2_, h3_, h4_, h5_, h6_, h7_, h8_, h9_, h10_, h11_, h12_⟩
         have n0_ : Aside0 (Kd.V (Kd.int .i64) 3 w34 w.heap.size (fun k_ => ((P0_0_ k_ ∨ P0_1_ k_ ∨ P0_2_ k_) ∨ w.heap.size ≤ k_) ∧ k_ ≠ gb389 ∧ k_ ≠ gb403) v395 t394) := ⟨h0_⟩
         have n1_ : Aside0 (Kd.V (Kd.int .i64) 3 w34 w.heap.size (fun k_ => ((P0_0_ k_ ∨ P0_1_ k_ ∨ P0_2_ k_) ∨ w.heap.size ≤ k_) ∧ k_ ≠ gb389 ∧ k_ ≠ gb403) v398 t397) := ⟨h1_⟩
         have n2_ : Aside0 (Kd.V (Kd.int .i64) 3 w34 w.heap.size (fun k_ => ((P0_0_ k_ ∨ P0_1_ k_ ∨ P0_2_ k_) ∨ w.heap.size ≤ k_) ∧ k_ ≠ gb389 ∧ k_ ≠ gb403) v401 t400) := ⟨h2_⟩
         have n3_ : Aside0 (Kd.V (Kd.int .i64) 3 w34 w.heap.size (fun k_ => ((P0_0_ k_ ∨ P0_1_ k_ ∨ P0_2_ k_) ∨ w.heap.size ≤ k_) ∧ k_ ≠ gb389 ∧ k_ ≠ gb403) (.slice Ao28 x390000_2.length co28) x390000_2) := ⟨h3_⟩
         have n4_ : Aside0 (Kd.V (Kd.int .i64) 3 w34 w.heap.size (fun k_ => ((P0_0_ k_ ∨ P0_1_ k_ ∨ P0_2_ k_) ∨ w.heap.size ≤ k_) ∧ k_ ≠ gb389 ∧ k_ ≠ gb403) (.slice Ao29 x390001_2.length co29) x390001_2) := ⟨h4_⟩
         have n5_ : Aside0 (Kd.V (Kd.int .i64) 3 w34 w.heap.size (fun k_ => ((P0_0_ k_ ∨ P0_1_ k_ ∨ P0_2_ k_) ∨ w.heap.size ≤ k_) ∧ k_ ≠ gb389 ∧ k_ ≠ gb403) (.slice Ao30 x390002_2.length co30) x390002_2) := ⟨h5_⟩
         have n6_ : Aside0 (w34.heap[gb389]? = some (.cells #[.slice Ao28 x390000_2.length co28, .slice Ao29 x390001_2.length co29, .slice Ao30 x390002_2.length co30] 30 (0, 0))) := ⟨h6_⟩
         have n7_ : Aside0 (w34.heap[gb403]? = some (.cells #[.slice none 0 0, .slice none 0 0, .slice none 0 0] 30 (0, 0))) := ⟨h7_⟩
         have n8_ : Aside0 (w.heap.size ≤ gb403) := ⟨h8_⟩
         have n9_ : Aside0 (w.heap.size ≤ gb403) := ⟨h9_⟩
         have n10_ : Aside0 (gb389 ≠ gb403) := ⟨h10_⟩
         have n11_ : Aside0 (gb403 ≠ gb389) := ⟨h11_⟩
         have n12_ : Aside0 (Below w.heap.size w w34) := ⟨h12_⟩
         clear HO_390000
         clear HO_390001
         clear HO_390002
         clear BK389
         clear HB
         clear h0_ h1_ h2_ h3_ h4_ h5_ h6_ h7_ h8_ h9_ h10_ h11_ h12_
         have HO396 := n0_
         have HO399 := n1_
         have HO402 := n2_
         have HO_390000 := n3_
         have HO_390001 := n4_
         have HO_390002 := n5_
         have BK389 := n6_
         have BK403 := n7_
         have GW403 := n8_
         have GE403 := n9_
         have NB389_403 := n10_
         have NB403_389 := n11_
         have HB := n12_
         clear n0_ n1_ n2_ n3_ n4_ n5_ n6_ n7_ n8_ n9_ n10_ n11_ n12_
         have hHeld : w34.cell? ⟨gb389, 0, none⟩ = some (.slice Ao28 x390000_2.length co28) ∧ w34.cell? ⟨gb389, 1, none⟩ = some (.slice Ao29 x390001_2.length co29) ∧ w34.cell? ⟨gb389, 2, none⟩ = some (.slice Ao30 x390002_2.length co30) ∧ w34.cell? (ad393.add (x5_2).toNat) = some (.int .i64 (rd l1 x5_2)) := hS_
         obtain ⟨Ao35, co35, eo35⟩ := V_slice HO396.out
         (first | subst eo35 | (injection eo35 with f1_ f2_ f3_; have f4_ := f1_.symm; have f5_ := f3_.symm; clear f1_ f2_ f3_; subst f4_; subst f5_))
         obtain ⟨Ao37, co37, eo37⟩ := V_slice HO399.out
         (first | subst eo37 | (injection eo37 with f1_ f2_ f3_; have f4_ := f1_.symm; have f5_ := f3_.symm; clear f1_ f2_ f3_; subst f4_; subst f5_))
         obtain ⟨Ao39, co39, eo39⟩ := V_slice HO402.out
         (first | subst eo39 | (injection eo39 with f1_ f2_ f3_; have f4_ := f1_.symm; have f5_ := f3_.symm; clear f1_ f2_ f3_; subst f4_; subst f5_))
         refine norm_ (a' := ?_) ?_ ?_
         rotate_left
         ·simp only [putAll, Act.put, List.setIfInBounds_toArray, List.set_cons_zero, List.set_cons_succ]
          rfl
         refine one_ (i := 7) (N := none) #[true, true, true, true, true, true, true, true] rfl rfl (one_of HT_.out (by kernel_rfl)) (by decide) (fun K hK => ?_)
         have hs36 : w34.cell? ⟨gb403, 0, none⟩ = some (.slice none 0 0) := (blk_cell BK403.out 0).trans rfl
         have hfs36 := blk_frozen BK403.out 0
         have hns36_0 := NB389_403.out
         have hms36_0 := NB403_389.out
         have hs38 : w34.cell? ⟨gb403, 1, none⟩ = some (.slice none 0 0) := (blk_cell BK403.out 1).trans rfl
         have hfs38 := blk_frozen BK403.out 1
         have hns38_0 := NB389_403.out
         have hms38_0 := NB403_389.out
         have hs40 : w34.cell? ⟨gb403, 2, none⟩ = some (.slice none 0 0) := (blk_cell BK403.out 2).trans rfl
         have hfs40 := blk_frozen BK403.out 2
         have hns40_0 := NB389_403.out
         have hms40_0 := NB403_389.out
         refine skip_ (w1 := ?_) (by rfl) rfl ?_ ?_
         rotate_left
         ·go_simp
          rfl
         refine hK.out _ _ ⟨((cell_far (p := ⟨gb403, _, none⟩) NB389_403.out _).trans (((cell_far (p := ⟨gb403, _, none⟩) NB389_403.out _).trans (((cell_far (p := ⟨gb403, _, none⟩) NB389_403.out _).trans (hHeld.1)))))), ((cell_far (p := ⟨gb403, _, none⟩) NB389_403.out _).trans (((cell_far (p := ⟨gb403, _, none⟩) NB389_403.out _).trans (((cell_far (p := ⟨gb403, _, none⟩) NB389_403.out _).trans (hHeld.2.1)))))), ((cell_far (p := ⟨gb403, _, none⟩) NB389_403.out _).trans (((cell_far (p := ⟨gb403, _, none⟩) NB389_403.out _).trans (((cell_far (p := ⟨gb403, _, none⟩) NB389_403.out _).trans (hHeld.2.2.1)))))), ((cell_far (p := ⟨gb403, _, none⟩) (by first | exact Nat.ne_of_lt (Nat.lt_of_lt_of_le (by have := World.block_lt_of_cell? _ _ hw393_0; first | rwa [add_block] at this | exact this) GW403.out) | (rw [add_block]; exact Nat.ne_of_lt (Nat.lt_of_lt_of_le (by have := World.block_lt_of_cell? _ _ hw393_0; first | rwa [add_block] at this | exact this) GW403.out)) | (show (Addr.add _ _).block ≠ _; rw [add_block]; exact Nat.ne_of_lt (Nat.lt_of_lt_of_le (by have := World.block_lt_of_cell? _ _ hw393_0; first | rwa [add_block] at this | exact this) GW403.out)) | (dsimp only; exact Nat.ne_of_lt (Nat.lt_of_lt_of_le (by have := World.block_lt_of_cell? _ _ hw393_0; first | rwa [add_block] at this | exact this) GW403.out))) _).trans (((cell_far (p := ⟨gb403, _, none⟩) (by first | exact Nat.ne_of_lt (Nat.lt_of_lt_of_le (by have := World.block_lt_of_cell? _ _ hw393_0; first | rwa [add_block] at this | exact this) GW403.out) | (rw [add_block]; exact Nat.ne_of_lt (Nat.lt_of_lt_of_le (by have := World.block_lt_of_cell? _ _ hw393_0; first | rwa [add_block] at this | exact this) GW403.out)) | (show (Addr.add _ _).block ≠ _; rw [add_block]; exact Nat.ne_of_lt (Nat.lt_of_lt_of_le (by have := World.block_lt_of_cell? _ _ hw393_0; first | rwa [add_block] at this | exact this) GW403.out)) | (dsimp only; exact Nat.ne_of_lt (Nat.lt_of_lt_of_le (by have := World.block_lt_of_cell? _ _ hw393_0; first | rwa [add_block] at this | exact this) GW403.out))) _).trans (((cell_far (p := ⟨gb403, _, none⟩) (by first | exact Nat.ne_of_lt (Nat.lt_of_lt_of_le (by have := World.block_lt_of_cell? _ _ hw393_0; first | rwa [add_block] at this | exact this) GW403.out) | (rw [add_block]; exact Nat.ne_of_lt (Nat.lt_of_lt_of_le (by have := World.block_lt_of_cell? _ _ hw393_0; first | rwa [add_block] at this | exact this) GW403.out)) | (show (Addr.add _ _).block ≠ _; rw [add_block]; exact Nat.ne_of_lt (Nat.lt_of_lt_of_le (by have := World.block_lt_of_cell? _ _ hw393_0; first | rwa [add_block] at this | exact this) GW403.out)) | (dsimp only; exact Nat.ne_of_lt (Nat.lt_of_lt_of_le (by have := World.block_lt_of_cell? _ _ hw393_0; first | rwa [add_block] at this | exact this) GW403.out))) _).trans (hHeld.2.2.2))))))⟩ (fun hHeld => ?_)
         clear hK K
         refine done_ (done_of HT_.out (by kernel_rfl)) ?_
         try go_wp2
         have n0_ : Aside0 (Kd.V (Kd.int .i64) 3 (((w34.setCell ⟨gb403, 0, none⟩ (.slice Ao35 t394.length co35)).setCell ⟨gb403, 1, none⟩ (.slice Ao37 t397.length co37)).setCell ⟨gb403, 2, none⟩ (.slice Ao39 t400.length co39)) w.heap.size (fun k_ => ((P0_0_ k_ ∨ P0_1_ k_ ∨ P0_2_ k_) ∨ w.heap.size ≤ k_) ∧ k_ ≠ gb389 ∧ k_ ≠ gb403) (.slice Ao28 x390000_2.length co28) x390000_2) := ⟨by (with_reducible repeat (first | apply V_alloc | apply V_drewN | apply V_drew)); exact V_mono (V_far (p := ⟨gb403, 2, none⟩) (V_far (p := ⟨gb403, 1, none⟩) (V_far (p := ⟨gb403, 0, none⟩) (V_mono HO_390000.out (fun k_ hk => (⟨hk, hk.2.2⟩ : _ ∧ k_ ≠ gb403))) (fun _ hk => hk.2) (.slice Ao35 t394.length co35)) (fun _ hk => hk.2) (.slice Ao37 t397.length co37)) (fun _ hk => hk.2) (.slice Ao39 t400.length co39)) (fun _ hk => ⟨hk.1.1, ⟨hk.1.2.1, hk.1.2.2⟩⟩)⟩
         have n1_ : Aside0 (Kd.V (Kd.int .i64) 3 (((w34.setCell ⟨gb403, 0, none⟩ (.slice Ao35 t394.length co35)).setCell ⟨gb403, 1, none⟩ (.slice Ao37 t397.length co37)).setCell ⟨gb403, 2, none⟩ (.slice Ao39 t400.length co39)) w.heap.size (fun k_ => ((P0_0_ k_ ∨ P0_1_ k_ ∨ P0_2_ k_) ∨ w.heap.size ≤ k_) ∧ k_ ≠ gb389 ∧ k_ ≠ gb403) (.slice Ao29 x390001_2.length co29) x390001_2) := ⟨by (with_reducible repeat (first | apply V_alloc | apply V_drewN | apply V_drew)); exact V_mono (V_far (p := ⟨gb403, 2, none⟩) (V_far (p := ⟨gb403, 1, none⟩) (V_far (p := ⟨gb403, 0, none⟩) (V_mono HO_390001.out (fun k_ hk => (⟨hk, hk.2.2⟩ : _ ∧ k_ ≠ gb403))) (fun _ hk => hk.2) (.slice Ao35 t394.length co35)) (fun _ hk => hk.2) (.slice Ao37 t397.length co37)) (fun _ hk => hk.2) (.slice Ao39 t400.length co39)) (fun _ hk => ⟨hk.1.1, ⟨hk.1.2.1, hk.1.2.2⟩⟩)⟩
         have n2_ : Aside0 (Kd.V (Kd.int .i64) 3 (((w34.setCell ⟨gb403, 0, none⟩ (.slice Ao35 t394.length co35)).setCell ⟨gb403, 1, none⟩ (.slice Ao37 t397.length co37)).setCell ⟨gb403, 2, none⟩ (.slice Ao39 t400.length co39)) w.heap.size (fun k_ => ((P0_0_ k_ ∨ P0_1_ k_ ∨ P0_2_ k_) ∨ w.heap.size ≤ k_) ∧ k_ ≠ gb389 ∧ k_ ≠ gb403) (.slice Ao30 x390002_2.length co30) x390002_2) := ⟨by (with_reducible repeat (first | apply V_alloc | apply V_drewN | apply V_drew)); exact V_mono (V_far (p := ⟨gb403, 2, none⟩) (V_far (p := ⟨gb403, 1, none⟩) (V_far (p := ⟨gb403, 0, none⟩) (V_mono HO_390002.out (fun k_ hk => (⟨hk, hk.2.2⟩ : _ ∧ k_ ≠ gb403))) (fun _ hk => hk.2) (.slice Ao35 t394.length co35)) (fun _ hk => hk.2) (.slice Ao37 t397.length co37)) (fun _ hk => hk.2) (.slice Ao39 t400.length co39)) (fun _ hk => ⟨hk.1.1, ⟨hk.1.2.1, hk.1.2.2⟩⟩)⟩
         have n3_ : Aside0 (Kd.V (Kd.int .i64) 3 (((w34.setCell ⟨gb403, 0, none⟩ (.slice Ao35 t394.length co35)).setCell ⟨gb403, 1, none⟩ (.slice Ao37 t397.length co37)).setCell ⟨gb403, 2, none⟩ (.slice Ao39 t400.length co39)) w.heap.size (fun k_ => ((P0_0_ k_ ∨ P0_1_ k_ ∨ P0_2_ k_) ∨ w.heap.size ≤ k_) ∧ k_ ≠ gb389 ∧ k_ ≠ gb403) (.slice Ao35 t394.length co35) t394) := ⟨by (with_reducible repeat (first | apply V_alloc | apply V_drewN | apply V_drew)); exact V_mono (V_far (p := ⟨gb403, 2, none⟩) (V_far (p := ⟨gb403, 1, none⟩) (V_far (p := ⟨gb403, 0, none⟩) (V_mono HO396.out (fun k_ hk => (⟨hk, hk.2.2⟩ : _ ∧ k_ ≠ gb403))) (fun _ hk => hk.2) (.slice Ao35 t394.length co35)) (fun _ hk => hk.2) (.slice Ao37 t397.length co37)) (fun _ hk => hk.2) (.slice Ao39 t400.length co39)) (fun _ hk => ⟨hk.1.1, ⟨hk.1.2.1, hk.1.2.2⟩⟩)⟩
         have n4_ : Aside0 (Kd.V (Kd.int .i64) 3 (((w34.setCell ⟨gb403, 0, none⟩ (.slice Ao35 t394.length co35)).setCell ⟨gb403, 1, none⟩ (.slice Ao37 t397.length co37)).setCell ⟨gb403, 2, none⟩ (.slice Ao39 t400.length co39)) w.heap.size (fun k_ => ((P0_0_ k_ ∨ P0_1_ k_ ∨ P0_2_ k_) ∨ w.heap.size ≤ k_) ∧ k_ ≠ gb389 ∧ k_ ≠ gb403) (.slice Ao37 t397.length co37) t397) := ⟨by (with_reducible repeat (first | apply V_alloc | apply V_drewN | apply V_drew)); exact V_mono (V_far (p := ⟨gb403, 2, none⟩) (V_far (p := ⟨gb403, 1, none⟩) (V_far (p := ⟨gb403, 0, none⟩) (V_mono HO399.out (fun k_ hk => (⟨hk, hk.2.2⟩ : _ ∧ k_ ≠ gb403))) (fun _ hk => hk.2) (.slice Ao35 t394.length co35)) (fun _ hk => hk.2) (.slice Ao37 t397.length co37)) (fun _ hk => hk.2) (.slice Ao39 t400.length co39)) (fun _ hk => ⟨hk.1.1, ⟨hk.1.2.1, hk.1.2.2⟩⟩)⟩
         have n5_ : Aside0 (Kd.V (Kd.int .i64) 3 (((w34.setCell ⟨gb403, 0, none⟩ (.slice Ao35 t394.length co35)).setCell ⟨gb403, 1, none⟩ (.slice Ao37 t397.length co37)).setCell ⟨gb403, 2, none⟩ (.slice Ao39 t400.length co39)) w.heap.size (fun k_ => ((P0_0_ k_ ∨ P0_1_ k_ ∨ P0_2_ k_) ∨ w.heap.size ≤ k_) ∧ k_ ≠ gb389 ∧ k_ ≠ gb403) (.slice Ao39 t400.length co39) t400) := ⟨by (with_reducible repeat (first | apply V_alloc | apply V_drewN | apply V_drew)); exact V_mono (V_far (p := ⟨gb403, 2, none⟩) (V_far (p := ⟨gb403, 1, none⟩) (V_far (p := ⟨gb403, 0, none⟩) (V_mono HO402.out (fun k_ hk => (⟨hk, hk.2.2⟩ : _ ∧ k_ ≠ gb403))) (fun _ hk => hk.2) (.slice Ao35 t394.length co35)) (fun _ hk => hk.2) (.slice Ao37 t397.length co37)) (fun _ hk => hk.2) (.slice Ao39 t400.length co39)) (fun _ hk => ⟨hk.1.1, ⟨hk.1.2.1, hk.1.2.2⟩⟩)⟩
         have n6_ : Aside0 ((((w34.setCell ⟨gb403, 0, none⟩ (.slice Ao35 t394.length co35)).setCell ⟨gb403, 1, none⟩ (.slice Ao37 t397.length co37)).setCell ⟨gb403, 2, none⟩ (.slice Ao39 t400.length co39)).heap[gb389]? = some (.cells #[.slice Ao28 x390000_2.length co28, .slice Ao29 x390001_2.length co29, .slice Ao30 x390002_2.length co30] 30 (0, 0))) := ⟨by (with_reducible repeat (first | refine blk_drewN ?_ _ | refine blk_drew ?_ | refine blk_alloc ?_ _)); refine blk_far ?_ NB389_403.out _; (with_reducible repeat (first | refine blk_drewN ?_ _ | refine blk_drew ?_ | refine blk_alloc ?_ _)); refine blk_far ?_ NB389_403.out _; (with_reducible repeat (first | refine blk_drewN ?_ _ | refine blk_drew ?_ | refine blk_alloc ?_ _)); refine blk_far ?_ NB389_403.out _; (with_reducible repeat (first | refine blk_drewN ?_ _ | refine blk_drew ?_ | refine blk_alloc ?_ _)); exact BK389.out⟩
         have n7_ : Aside0 ((((w34.setCell ⟨gb403, 0, none⟩ (.slice Ao35 t394.length co35)).setCell ⟨gb403, 1, none⟩ (.slice Ao37 t397.length co37)).setCell ⟨gb403, 2, none⟩ (.slice Ao39 t400.length co39)).heap[gb403]? = some (.cells #[.slice Ao35 t394.length co35, .slice Ao37 t397.length co37, .slice Ao39 t400.length co39] 30 (0, 0))) := ⟨by (with_reducible repeat (first | refine blk_drewN ?_ _ | refine blk_drew ?_ | refine blk_alloc ?_ _)); refine blk_put (cs := #[.slice Ao35 t394.length co35, .slice Ao37 t397.length co37, .slice none 0 0]) ?_ 2 _ rfl; (with_reducible repeat (first | refine blk_drewN ?_ _ | refine blk_drew ?_ | refine blk_alloc ?_ _)); refine blk_put (cs := #[.slice Ao35 t394.length co35, .slice none 0 0, .slice none 0 0]) ?_ 1 _ rfl; (with_reducible repeat (first | refine blk_drewN ?_ _ | refine blk_drew ?_ | refine blk_alloc ?_ _)); refine blk_put (cs := #[.slice none 0 0, .slice none 0 0, .slice none 0 0]) ?_ 0 _ rfl; (with_reducible repeat (first | refine blk_drewN ?_ _ | refine blk_drew ?_ | refine blk_alloc ?_ _)); exact BK403.out⟩
         have n8_ : Aside0 (Below w.heap.size w (((w34.setCell ⟨gb403, 0, none⟩ (.slice Ao35 t394.length co35)).setCell ⟨gb403, 1, none⟩ (.slice Ao37 t397.length co37)).setCell ⟨gb403, 2, none⟩ (.slice Ao39 t400.length co39))) := ⟨by repeat (first | (with_reducible first | exact HB.out | apply below_alloc | apply pw_below_drewN | apply below_drew1 | refine below_set ?_ GE389.out | refine below_set ?_ GE403.out) | exact HB.out)⟩
         (try clear HO_390000)
         (try clear HO_390001)
         (try clear HO_390002)
         (try clear HO396)
         (try clear HO399)
         (try clear HO402)
         (try clear BK389)
         (try clear BK403)
         (try clear HB)
         generalize (((w34.setCell ⟨gb403, 0, none⟩ (.slice Ao35 t394.length co35)).setCell ⟨gb403, 1, none⟩ (.slice Ao37 t397.length co37)).setCell ⟨gb403, 2, none⟩ (.slice Ao39 t400.length co39)) = w41 at n0_ n1_ n2_ n3_ n4_ n5_ n6_ n7_ n8_ ⊢
         have HO_390000 := n0_
         have HO_390001 := n1_
         have HO_390002 := n2_
         have HO396 := n3_
         have HO399 := n4_
         have HO402 := n5_
         have BK389 := n6_
         have BK403 := n7_
         have HB := n8_
         clear n0_ n1_ n2_ n3_ n4_ n5_ n6_ n7_ n8_
         have n0_ := Zk (V_drew HO_390000.out)
         have n1_ := Zk (V_drew HO_390001.out)
         have n2_ := Zk (V_drew HO_390002.out)
         have n3_ := Zk (V_drew HO396.out)
         have n4_ := Zk (V_drew HO399.out)
         have n5_ := Zk (V_drew HO402.out)
         have n6_ := Zk (blk_drew BK389.out)
         have n7_ := Zk (blk_drew BK403.out)
         have n8_ := Zk (below_drew1 HB.out)
         clear HO_390000
         clear HO_390001
         clear HO_390002
         clear HO396
         clear HO399
         clear HO402
         clear BK389
         clear BK403
         clear HB
         have HO_390000 := n0_
         have HO_390001 := n1_
         have HO_390002 := n2_
         have HO396 := n3_
         have HO399 := n4_
         have HO402 := n5_
         have BK389 := n6_
         have BK403 := n7_
         have HB := n8_
         clear n0_ n1_ n2_ n3_ n4_ n5_ n6_ n7_ n8_
         have p404 : 0 ≤ (x5_2 : Int) := of_decide_eq_true (by first | (with_reducible assumption) | assumption)
         have q404 : x5_2 < (l1.length : Int) := of_decide_eq_true (by first | (with_reducible assumption) | assumption)
         obtain ⟨ad404, e404, hx404_0⟩ := Kd.at_int HR1.out x5_2 p404 q404
         have hw404_0 := hx404_0
         obtain rfl : ad393 = ad404 := (by injection e404)
         replace hx404_0 := (HB.out.cell (World.block_lt_of_cell? w _ hx404_0)).trans hx404_0
         replace p404 := eq_true p404
         replace q404 := eq_true q404
         refine start_ (n := 9) (S := fun w' => w'.cell? ⟨gb403, 0, none⟩ = some (.slice Ao35 t394.length co35) ∧ w'.cell? ⟨gb403, 1, none⟩ = some (.slice Ao37 t397.length co37) ∧ w'.cell? ⟨gb403, 2, none⟩ = some (.slice Ao39 t400.length co39) ∧ w'.cell? (ad393.add (x5_2).toNat) = some (.int .i64 (rd l1 x5_2))) (ds := []) #[false, false, false, false, false, false, false, false, false] (by kernel_rfl) rfl rfl ⟨(blk_cell BK403.out 0).trans rfl, (blk_cell BK403.out 1).trans rfl, (blk_cell BK403.out 2).trans rfl, ((HB.out.cell (World.block_lt_of_cell? w _ hw404_0)).trans hw404_0)⟩ (fun hHeld => ?_); refine with_tabW jobshelllaw25_SignalTaken.tab7 jobshelllaw25_SignalTaken.bits7 (fun HT_ HW_ => ?_)
         generalize w41.drew = w42 at HO_390000 HO_390001 HO_390002 HO396 HO399 HO402 BK389 BK403 HB hx404_0 hHeld ⊢
         refine pure_ (i := 1) (N := some 44) (v := ?_) (a' := ?_) #[false, true, false, false, false, false, false, false, false] rfl rfl (any_of HT_.out (by kernel_rfl)) (fun _ _ _ h => h) (Or.inl ⟨by rfl, ?_⟩) ?_ ?_
         rotate_left
         ·intro w'
          go_simp
          with_reducible rfl
         rotate_left
         ·simp only [Act.put, List.setIfInBounds_toArray, List.set_cons_zero, List.set_cons_succ, i64_w, i32_w]
          rfl
         refine pure_ (i := 2) (N := some 45) (v := ?_) (a' := ?_) #[false, true, true, false, false, false, false, false, false] rfl rfl (any_of HT_.out (by kernel_rfl)) (fun _ _ _ h => h) (Or.inl ⟨by rfl, ?_⟩) ?_ ?_
         rotate_left
         ·intro w'
          go_simp
          with_reducible rfl
         rotate_left
         ·simp only [Act.put, List.setIfInBounds_toArray, List.set_cons_zero, List.set_cons_succ, i64_w, i32_w]
          rfl
         refine pure_ (i := 3) (N := some 46) (v := ?_) (a' := ?_) #[false, true, true, true, false, false, false, false, false] rfl rfl (any_of HT_.out (by kernel_rfl)) (fun _ _ _ h => h) (Or.inl ⟨by rfl, ?_⟩) ?_ ?_
         rotate_left
         ·intro w'
          go_simp
          with_reducible rfl
         rotate_left
         ·simp only [Act.put, List.setIfInBounds_toArray, List.set_cons_zero, List.set_cons_succ, i64_w, i32_w]
          rfl
         refine take_ (i := 0) (N := some 43) (v := ?_) (a' := ?_) #[true, true, true, true, false, false, false, false, false] rfl rfl (take_ofW HT_.out HW_.out (by kernel_rfl)) (fun _ _ _ h => h) (Or.inl ⟨by rfl, ?_⟩) hHeld ?_ ?_
         rotate_left
         ·rintro w' ⟨s0, s1, s2, s3⟩
          go_simp
          with_reducible rfl
         rotate_left
         ·simp only [Act.put, List.setIfInBounds_toArray, List.set_cons_zero, List.set_cons_succ, i64_w, i32_w]
          rfl
         refine take_ (i := 4) (N := some 47) (v := ?_) (a' := ?_) #[true, true, true, true, true, false, false, false, false] rfl rfl (take_ofW HT_.out HW_.out (by kernel_rfl)) (fun _ _ _ h => h) (Or.inl ⟨by rfl, ?_⟩) hHeld ?_ ?_
         rotate_left
         ·rintro w' ⟨s0, s1, s2, s3⟩
          go_simp
          with_reducible rfl
         rotate_left
         ·simp only [Act.put, List.setIfInBounds_toArray, List.set_cons_zero, List.set_cons_succ, i64_w, i32_w]
          rfl
         refine take_ (i := 6) (N := some 49) (v := ?_) (a' := ?_) #[true, true, true, true, true, false, true, false, false] rfl rfl (take_ofW HT_.out HW_.out (by kernel_rfl)) (fun _ _ _ h => h) (Or.inl ⟨by rfl, ?_⟩) hHeld ?_ ?_
         rotate_left
         ·rintro w' ⟨s0, s1, s2, s3⟩
          go_simp
          with_reducible rfl
         rotate_left
         ·simp only [Act.put, List.setIfInBounds_toArray, List.set_cons_zero, List.set_cons_succ, i64_w, i32_w]
          rfl
         refine one_ (i := 5) (N := some 48) #[true, true, true, true, true, true, true, false, false] rfl rfl (one_of HT_.out (by kernel_rfl)) (by decide) (fun K hK => ?_)
         refine goes_ Tryd.func22 (by kernel_rfl) rfl #[.agg #[.slice Ao35 t394.length co35, .slice Ao37 t397.length co37, .slice Ao39 t400.length co39], .int .i64 (rd l1 x5_2)] (by rfl) rfl rfl (by (try simp only [List.map_toArray, List.map_cons, List.map_nil]); first | done | rfl | (simp only [List.length_drop, List.length_take]; rfl)) ?_
         with_reducible refine (signal_Send.calls k2 (fun k_ => (((P0_0_ k_ ∨ P0_1_ k_ ∨ P0_2_ k_) ∨ w.heap.size ≤ k_) ∧ (k_ ≠ gb389 ∧ k_ ≠ gb403))) _ _ t394 (fun k_ => (((P0_0_ k_ ∨ P0_1_ k_ ∨ P0_2_ k_) ∨ w.heap.size ≤ k_) ∧ (k_ ≠ gb389 ∧ k_ ≠ gb403))) _ _ t397 (fun k_ => (((P0_0_ k_ ∨ P0_1_ k_ ∨ P0_2_ k_) ∨ w.heap.size ≤ k_) ∧ (k_ ≠ gb389 ∧ k_ ≠ gb403))) _ _ t400 (rd l1 x5_2) t405 t408 t411 _ ?side1 ?side2 ?side3 A25.out).mono ?_
         (case side1 => exact HO396.out)
         (case side2 => exact HO399.out)
         (case side3 => exact HO402.out)
         rintro e w43 ⟨v406, v409, v412, rfl, ho0, ho1, ho2, hb⟩
         refine ⟨_, rfl, ?_⟩
         have n0_ := Zk (V_below (by (with_reducible repeat (first | apply V_alloc | apply V_drewN | apply V_drew)); exact HO_390000.out) hb)
         have n1_ := Zk (V_below (by (with_reducible repeat (first | apply V_alloc | apply V_drewN | apply V_drew)); exact HO_390001.out) hb)
         have n2_ := Zk (V_below (by (with_reducible repeat (first | apply V_alloc | apply V_drewN | apply V_drew)); exact HO_390002.out) hb)
         have n3_ := Zk (V_below (by (with_reducible repeat (first | apply V_alloc | apply V_drewN | apply V_drew)); exact HO396.out) hb)
         have n4_ := Zk (V_below (by (with_reducible repeat (first | apply V_alloc | apply V_drewN | apply V_drew)); exact HO399.out) hb)
         have n5_ := Zk (V_below (by (with_reducible repeat (first | apply V_alloc | apply V_drewN | apply V_drew)); exact HO402.out) hb)
         have n6_ := Zk (V_lower (V_mono (ok' := fun k_ => ((P0_0_ k_ ∨ P0_1_ k_ ∨ P0_2_ k_) ∨ w.heap.size ≤ k_) ∧ k_ ≠ gb389 ∧ k_ ≠ gb403) ho0 (fun k_ hk_ => ⟨Or.elim hk_ (fun hs_ => Or.elim hs_ (fun hs_ => hs_.1) (fun hs_ => Or.elim hs_ (fun hs_ => hs_.1) (fun hs_ => hs_.1))) (fun hn_ => (.inr (Nat.le_trans (below_size (by repeat (first | (with_reducible first | exact HB.out | apply below_alloc | apply pw_below_drewN | apply below_drew1 | refine below_set ?_ GE389.out | refine below_set ?_ GE403.out) | exact HB.out))) hn_))), Or.elim hk_ (fun hs_ => Or.elim hs_ (fun hs_ => hs_.2.1) (fun hs_ => Or.elim hs_ (fun hs_ => hs_.2.1) (fun hs_ => hs_.2.1))) (fun hn_ => (Kd.freshB (g := gb389) (o := .cells #[.slice Ao28 x390000_2.length co28, .slice Ao29 x390001_2.length co29, .slice Ao30 x390002_2.length co30] 30 (0, 0)) (by (with_reducible repeat (first | refine blk_drewN ?_ _ | refine blk_drew ?_ | refine blk_alloc ?_ _)); exact BK389.out) k_ hn_)), Or.elim hk_ (fun hs_ => Or.elim hs_ (fun hs_ => hs_.2.2) (fun hs_ => Or.elim hs_ (fun hs_ => hs_.2.2) (fun hs_ => hs_.2.2))) (fun hn_ => (Kd.freshB (g := gb403) (o := .cells #[.slice Ao35 t394.length co35, .slice Ao37 t397.length co37, .slice Ao39 t400.length co39] 30 (0, 0)) (by (with_reducible repeat (first | refine blk_drewN ?_ _ | refine blk_drew ?_ | refine blk_alloc ?_ _)); exact BK403.out) k_ hn_))⟩)) (below_size (by repeat (first | (with_reducible first | exact HB.out | apply below_alloc | apply pw_below_drewN | apply below_drew1 | refine below_set ?_ GE389.out | refine below_set ?_ GE403.out) | exact HB.out))))
         have n7_ := Zk (V_lower (V_mono (ok' := fun k_ => ((P0_0_ k_ ∨ P0_1_ k_ ∨ P0_2_ k_) ∨ w.heap.size ≤ k_) ∧ k_ ≠ gb389 ∧ k_ ≠ gb403) ho1 (fun k_ hk_ => ⟨Or.elim hk_ (fun hs_ => Or.elim hs_ (fun hs_ => hs_.1) (fun hs_ => Or.elim hs_ (fun hs_ => hs_.1) (fun hs_ => hs_.1))) (fun hn_ => (.inr (Nat.le_trans (below_size (by repeat (first | (with_reducible first | exact HB.out | apply below_alloc | apply pw_below_drewN | apply below_drew1 | refine below_set ?_ GE389.out | refine below_set ?_ GE403.out) | exact HB.out))) hn_))), Or.elim hk_ (fun hs_ => Or.elim hs_ (fun hs_ => hs_.2.1) (fun hs_ => Or.elim hs_ (fun hs_ => hs_.2.1) (fun hs_ => hs_.2.1))) (fun hn_ => (Kd.freshB (g := gb389) (o := .cells #[.slice Ao28 x390000_2.length co28, .slice Ao29 x390001_2.length co29, .slice Ao30 x390002_2.length co30] 30 (0, 0)) (by (with_reducible repeat (first | refine blk_drewN ?_ _ | refine blk_drew ?_ | refine blk_alloc ?_ _)); exact BK389.out) k_ hn_)), Or.elim hk_ (fun hs_ => Or.elim hs_ (fun hs_ => hs_.2.2) (fun hs_ => Or.elim hs_ (fun hs_ => hs_.2.2) (fun hs_ => hs_.2.2))) (fun hn_ => (Kd.freshB (g := gb403) (o := .cells #[.slice Ao35 t394.length co35, .slice Ao37 t397.length co37, .slice Ao39 t400.length co39] 30 (0, 0)) (by (with_reducible repeat (first | refine blk_drewN ?_ _ | refine blk_drew ?_ | refine blk_alloc ?_ _)); exact BK403.out) k_ hn_))⟩)) (below_size (by repeat (first | (with_reducible first | exact HB.out | apply below_alloc | apply pw_below_drewN | apply below_drew1 | refine below_set ?_ GE389.out | refine below_set ?_ GE403.out) | exact HB.out))))
         have n8_ := Zk (V_lower (V_mono (ok' := fun k_ => ((P0_0_ k_ ∨ P0_1_ k_ ∨ P0_2_ k_) ∨ w.heap.size ≤ k_) ∧ k_ ≠ gb389 ∧ k_ ≠ gb403) ho2 (fun k_ hk_ => ⟨Or.elim hk_ (fun hs_ => Or.elim hs_ (fun hs_ => hs_.1) (fun hs_ => Or.elim hs_ (fun hs_ => hs_.1) (fun hs_ => hs_.1))) (fun hn_ => (.inr (Nat.le_trans (below_size (by repeat (first | (with_reducible first | exact HB.out | apply below_alloc | apply pw_below_drewN | apply below_drew1 | refine below_set ?_ GE389.out | refine below_set ?_ GE403.out) | exact HB.out))) hn_))), Or.elim hk_ (fun hs_ => Or.elim hs_ (fun hs_ => hs_.2.1) (fun hs_ => Or.elim hs_ (fun hs_ => hs_.2.1) (fun hs_ => hs_.2.1))) (fun hn_ => (Kd.freshB (g := gb389) (o := .cells #[.slice Ao28 x390000_2.length co28, .slice Ao29 x390001_2.length co29, .slice Ao30 x390002_2.length co30] 30 (0, 0)) (by (with_reducible repeat (first | refine blk_drewN ?_ _ | refine blk_drew ?_ | refine blk_alloc ?_ _)); exact BK389.out) k_ hn_)), Or.elim hk_ (fun hs_ => Or.elim hs_ (fun hs_ => hs_.2.2) (fun hs_ => Or.elim hs_ (fun hs_ => hs_.2.2) (fun hs_ => hs_.2.2))) (fun hn_ => (Kd.freshB (g := gb403) (o := .cells #[.slice Ao35 t394.length co35, .slice Ao37 t397.length co37, .slice Ao39 t400.length co39] 30 (0, 0)) (by (with_reducible repeat (first | refine blk_drewN ?_ _ | refine blk_drew ?_ | refine blk_alloc ?_ _)); exact BK403.out) k_ hn_))⟩)) (below_size (by repeat (first | (with_reducible first | exact HB.out | apply below_alloc | apply pw_below_drewN | apply below_drew1 | refine below_set ?_ GE389.out | refine below_set ?_ GE403.out) | exact HB.out))))
         have n9_ := Zk (blk_below (g := gb389) (o := .cells #[.slice Ao28 x390000_2.length co28, .slice Ao29 x390001_2.length co29, .slice Ao30 x390002_2.length co30] 30 (0, 0)) (by (with_reducible repeat (first | refine blk_drewN ?_ _ | refine blk_drew ?_ | refine blk_alloc ?_ _)); exact BK389.out) hb)
         have n10_ := Zk (blk_below (g := gb403) (o := .cells #[.slice Ao35 t394.length co35, .slice Ao37 t397.length co37, .slice Ao39 t400.length co39] 30 (0, 0)) (by (with_reducible repeat (first | refine blk_drewN ?_ _ | refine blk_drew ?_ | refine blk_alloc ?_ _)); exact BK403.out) hb)
         have n11_ := Zk (below_step (by repeat (first | (with_reducible first | exact HB.out | apply below_alloc | apply pw_below_drewN | apply below_drew1 | refine below_set ?_ GE389.out | refine below_set ?_ GE403.out) | exact HB.out)) hb)
         clear HO_390000
         clear HO_390001
         clear HO_390002
         clear HO396
         clear HO399
         clear HO402
         clear BK389
         clear BK403
         clear HB
         have HO_390000 := n0_
         have HO_390001 := n1_
         have HO_390002 := n2_
         have HO396 := n3_
         have HO399 := n4_
         have HO402 := n5_
         have HO407 := n6_
         have HO410 := n7_
         have HO413 := n8_
         have BK389 := n9_
         have BK403 := n10_
         have HB := n11_
         clear n0_ n1_ n2_ n3_ n4_ n5_ n6_ n7_ n8_ n9_ n10_ n11_
         (try clear hb)
         (try clear hb2)
         (try clear hk)
         (try clear hi)
         (try clear ho0)
         (try clear ho1)
         (try clear ho2)
         obtain ⟨Ao44, co44, eo44⟩ := V_slice HO407.out
         (first | subst eo44 | (injection eo44 with f1_ f2_ f3_; have f4_ := f1_.symm; have f5_ := f3_.symm; clear f1_ f2_ f3_; subst f4_; subst f5_))
         obtain ⟨Ao45, co45, eo45⟩ := V_slice HO410.out
         (first | subst eo45 | (injection eo45 with f1_ f2_ f3_; have f4_ := f1_.symm; have f5_ := f3_.symm; clear f1_ f2_ f3_; subst f4_; subst f5_))
         obtain ⟨Ao46, co46, eo46⟩ := V_slice HO413.out
         (first | subst eo46 | (injection eo46 with f1_ f2_ f3_; have f4_ := f1_.symm; have f5_ := f3_.symm; clear f1_ f2_ f3_; subst f4_; subst f5_))
         refine hK.out _ _ ⟨(blk_cell BK403.out 0).trans rfl, (blk_cell BK403.out 1).trans rfl, (blk_cell BK403.out 2).trans rfl, ((HB.out.cell (World.block_lt_of_cell? w _ hw404_0)).trans hw404_0)⟩ (fun hHeld => ?_)
         clear hK K
         refine norm_ (a' := ?_) ?_ ?_
         rotate_left
         ·show Act.put _ (some 48) _ = _
          simp only [Act.put, List.setIfInBounds_toArray, List.set_cons_zero, List.set_cons_succ, i64_w, i32_w]
          rfl
         refine one_ (i := 7) (N := some 50) #[true, true, true, true, true, true, true, true, false] rfl rfl (one_of HT_.out (by kernel_rfl)) (by decide) (fun K hK => ?_)
         refine goes_ Tryd.func21 (by kernel_rfl) rfl #[.agg #[.slice Ao44 t405.length co44, .slice Ao45 t408.length co45, .slice Ao46 t411.length co46], .agg #[.slice Ao35 t394.length co35, .slice Ao37 t397.length co37, .slice Ao39 t400.length co39]] (by rfl) rfl rfl (by (try simp only [List.map_toArray, List.map_cons, List.map_nil]); first | done | rfl | (simp only [List.length_drop, List.length_take]; rfl)) ?_
         with_reducible refine (jobshellref25_Same.calls k2 _ _ t405 _ _ t408 _ _ t411 _ _ t394 _ _ t397 _ _ t400 true _ ?side1 ?side2 ?side3 ?side4 ?side5 ?side6 ?side7 ?side8 ?side9 ?side10 ?side11 ?side12 A26.out).mono ?_
         (case side1 => repeat (first | exact (V_reads' HO407.out).2.2 | (with_reducible refine C_alloc ?_ _) | (with_reducible refine C_drewN ?_ _) | (with_reducible refine C_drew ?_)))
         (case side2 => exact (V_reads' HO407.out).2.1)
         (case side3 => repeat (first | exact (V_reads' HO410.out).2.2 | (with_reducible refine C_alloc ?_ _) | (with_reducible refine C_drewN ?_ _) | (with_reducible refine C_drew ?_)))
         (case side4 => exact (V_reads' HO410.out).2.1)
         (case side5 => repeat (first | exact (V_reads' HO413.out).2.2 | (with_reducible refine C_alloc ?_ _) | (with_reducible refine C_drewN ?_ _) | (with_reducible refine C_drew ?_)))
         (case side6 => exact (V_reads' HO413.out).2.1)
         (case side7 => repeat (first | exact (V_reads' HO396.out).2.2 | (with_reducible refine C_alloc ?_ _) | (with_reducible refine C_drewN ?_ _) | (with_reducible refine C_drew ?_)))
         (case side8 => exact (V_reads' HO396.out).2.1)
         (case side9 => repeat (first | exact (V_reads' HO399.out).2.2 | (with_reducible refine C_alloc ?_ _) | (with_reducible refine C_drewN ?_ _) | (with_reducible refine C_drew ?_)))
         (case side10 => exact (V_reads' HO399.out).2.1)
         (case side11 => repeat (first | exact (V_reads' HO402.out).2.2 | (with_reducible refine C_alloc ?_ _) | (with_reducible refine C_drewN ?_ _) | (with_reducible refine C_drew ?_)))
         (case side12 => exact (V_reads' HO402.out).2.1)
         rintro e w47 ⟨rfl, hb⟩
         refine ⟨_, rfl, ?_⟩
         have n0_ := Zk (V_below (by (with_reducible repeat (first | apply V_alloc | apply V_drewN | apply V_drew)); exact HO_390000.out) hb)
         have n1_ := Zk (V_below (by (with_reducible repeat (first | apply V_alloc | apply V_drewN | apply V_drew)); exact HO_390001.out) hb)
         have n2_ := Zk (V_below (by (with_reducible repeat (first | apply V_alloc | apply V_drewN | apply V_drew)); exact HO_390002.out) hb)
         have n3_ := Zk (V_below (by (with_reducible repeat (first | apply V_alloc | apply V_drewN | apply V_drew)); exact HO396.out) hb)
         have n4_ := Zk (V_below (by (with_reducible repeat (first | apply V_alloc | apply V_drewN | apply V_drew)); exact HO399.out) hb)
         have n5_ := Zk (V_below (by (with_reducible repeat (first | apply V_alloc | apply V_drewN | apply V_drew)); exact HO402.out) hb)
         have n6_ := Zk (V_below (by (with_reducible repeat (first | apply V_alloc | apply V_drewN | apply V_drew)); exact HO407.out) hb)
         have n7_ := Zk (V_below (by (with_reducible repeat (first | apply V_alloc | apply V_drewN | apply V_drew)); exact HO410.out) hb)
         have n8_ := Zk (V_below (by (with_reducible repeat (first | apply V_alloc | apply V_drewN | apply V_drew)); exact HO413.out) hb)
         have n9_ := Zk (blk_below (g := gb389) (o := .cells #[.slice Ao28 x390000_2.length co28, .slice Ao29 x390001_2.length co29, .slice Ao30 x390002_2.length co30] 30 (0, 0)) (by (with_reducible repeat (first | refine blk_drewN ?_ _ | refine blk_drew ?_ | refine blk_alloc ?_ _)); exact BK389.out) hb)
         have n10_ := Zk (blk_below (g := gb403) (o := .cells #[.slice Ao35 t394.length co35, .slice Ao37 t397.length co37, .slice Ao39 t400.length co39] 30 (0, 0)) (by (with_reducible repeat (first | refine blk_drewN ?_ _ | refine blk_drew ?_ | refine blk_alloc ?_ _)); exact BK403.out) hb)
         have n11_ := Zk (below_step (by repeat (first | (with_reducible first | exact HB.out | apply below_alloc | apply pw_below_drewN | apply below_drew1 | refine below_set ?_ GE389.out | refine below_set ?_ GE403.out) | exact HB.out)) hb)
         clear HO_390000
         clear HO_390001
         clear HO_390002
         clear HO396
         clear HO399
         clear HO402
         clear HO407
         clear HO410
         clear HO413
         clear BK389
         clear BK403
         clear HB
         have HO_390000 := n0_
         have HO_390001 := n1_
         have HO_390002 := n2_
         have HO396 := n3_
         have HO399 := n4_
         have HO402 := n5_
         have HO407 := n6_
         have HO410 := n7_
         have HO413 := n8_
         have BK389 := n9_
         have BK403 := n10_
         have HB := n11_
         clear n0_ n1_ n2_ n3_ n4_ n5_ n6_ n7_ n8_ n9_ n10_ n11_
         (try clear hb)
         (try clear hb2)
         (try clear hk)
         (try clear hi)
         refine hK.out _ _ ⟨(blk_cell BK403.out 0).trans rfl, (blk_cell BK403.out 1).trans rfl, (blk_cell BK403.out 2).trans rfl, ((HB.out.cell (World.block_lt_of_cell? w _ hw404_0)).trans hw404_0)⟩ (fun hHeld => ?_)
         clear hK K
         refine norm_ (a' := ?_) ?_ ?_
         rotate_left
         ·show Act.put _ (some 50) _ = _
          simp only [Act.put, List.setIfInBounds_toArray, List.set_cons_zero, List.set_cons_succ, i64_w, i32_w]
          rfl
         refine pure_ (i := 8) (N := some 51) (v := ?_) (a' := ?_) #[true, true, true, true, true, true, true, true, true] rfl rfl (any_of HT_.out (by kernel_rfl)) (fun _ _ _ h => h) (Or.inl ⟨by rfl, ?_⟩) ?_ ?_
         rotate_left
         ·intro w'
          go_simp
          with_reducible rfl
         rotate_left
         ·simp only [Act.put, List.setIfInBounds_toArray, List.set_cons_zero, List.set_cons_succ, i64_w, i32_w]
          rfl
         refine done_ (done_of HT_.out (by kernel_rfl)) ?_
         have hnb48 := NB403_389.out
         have hnc48 := NB389_403.out
         have hcz49_0 : w47.cell? ⟨gb403, 0, none⟩ = some (.slice Ao35 t394.length co35) := (blk_cell BK403.out 0).trans rfl
         have hcz49_1 : w47.cell? ⟨gb403, 1, none⟩ = some (.slice Ao37 t397.length co37) := (blk_cell BK403.out 1).trans rfl
         have hcz49_2 : w47.cell? ⟨gb403, 2, none⟩ = some (.slice Ao39 t400.length co39) := (blk_cell BK403.out 2).trans rfl
         have hfz49_0 := blk_frozen BK403.out 0
         have hfz49_1 := blk_frozen BK403.out 1
         have hfz49_2 := blk_frozen BK403.out 2
         have hcz50_0 : w47.cell? ⟨gb389, 0, none⟩ = some (.slice Ao28 x390000_2.length co28) := (blk_cell BK389.out 0).trans rfl
         have hcz50_1 : w47.cell? ⟨gb389, 1, none⟩ = some (.slice Ao29 x390001_2.length co29) := (blk_cell BK389.out 1).trans rfl
         have hcz50_2 : w47.cell? ⟨gb389, 2, none⟩ = some (.slice Ao30 x390002_2.length co30) := (blk_cell BK389.out 2).trans rfl
         have hfz50_0 := blk_frozen BK389.out 0
         have hfz50_1 := blk_frozen BK389.out 1
         have hfz50_2 := blk_frozen BK389.out 2
         try go_wp2_with (first | ((with_reducible refine gate_store (t := 30) (p := 2) rfl ?_); refine store_event (t := 30) (p := 2) (v := ?vo_w51) (w1 := (((w47.setCell ⟨gb389, 0, none⟩ (.slice Ao35 t394.length co35)).setCell ⟨gb389, 1, none⟩ (.slice Ao37 t397.length co37)).setCell ⟨gb389, 2, none⟩ (.slice Ao39 t400.length co39))) ?hg ?ho ?hn ?hr ?_; (case ho => rfl); (case hg => rfl); (case hn => rfl); (case hr => first | (go_simp; done) | (go_simp; rfl)); intro w51 hw; have n0_ : Aside0 (Kd.V (Kd.int .i64) 3 w51 w.heap.size (fun k_ => ((P0_0_ k_ ∨ P0_1_ k_ ∨ P0_2_ k_) ∨ w.heap.size ≤ k_) ∧ k_ ≠ gb389 ∧ k_ ≠ gb403) (.slice Ao28 x390000_2.length co28) x390000_2) := ⟨(by rw [hw]; exact (by (with_reducible repeat (first | apply V_alloc | apply V_drewN | apply V_drew)); exact V_mono (V_far (p := ⟨gb389, 2, none⟩) (V_far (p := ⟨gb389, 1, none⟩) (V_far (p := ⟨gb389, 0, none⟩) (V_mono HO_390000.out (fun k_ hk => (⟨hk, hk.2.1⟩ : _ ∧ k_ ≠ gb389))) (fun _ hk => hk.2) (.slice Ao35 t394.length co35)) (fun _ hk => hk.2) (.slice Ao37 t397.length co37)) (fun _ hk => hk.2) (.slice Ao39 t400.length co39)) (fun _ hk => ⟨hk.1.1, ⟨hk.1.2.1, hk.1.2.2⟩⟩)))⟩; have n1_ : Aside0 (Kd.V (Kd.int .i64) 3 w51 w.heap.size (fun k_ => ((P0_0_ k_ ∨ P0_1_ k_ ∨ P0_2_ k_) ∨ w.heap.size ≤ k_) ∧ k_ ≠ gb389 ∧ k_ ≠ gb403) (.slice Ao29 x390001_2.length co29) x390001_2) := ⟨(by rw [hw]; exact (by (with_reducible repeat (first | apply V_alloc | apply V_drewN | apply V_drew)); exact V_mono (V_far (p := ⟨gb389, 2, none⟩) (V_far (p := ⟨gb389, 1, none⟩) (V_far (p := ⟨gb389, 0, none⟩) (V_mono HO_390001.out (fun k_ hk => (⟨hk, hk.2.1⟩ : _ ∧ k_ ≠ gb389))) (fun _ hk => hk.2) (.slice Ao35 t394.length co35)) (fun _ hk => hk.2) (.slice Ao37 t397.length co37)) (fun _ hk => hk.2) (.slice Ao39 t400.length co39)) (fun _ hk => ⟨hk.1.1, ⟨hk.1.2.1, hk.1.2.2⟩⟩)))⟩; have n2_ : Aside0 (Kd.V (Kd.int .i64) 3 w51 w.heap.size (fun k_ => ((P0_0_ k_ ∨ P0_1_ k_ ∨ P0_2_ k_) ∨ w.heap.size ≤ k_) ∧ k_ ≠ gb389 ∧ k_ ≠ gb403) (.slice Ao30 x390002_2.length co30) x390002_2) := ⟨(by rw [hw]; exact (by (with_reducible repeat (first | apply V_alloc | apply V_drewN | apply V_drew)); exact V_mono (V_far (p := ⟨gb389, 2, none⟩) (V_far (p := ⟨gb389, 1, none⟩) (V_far (p := ⟨gb389, 0, none⟩) (V_mono HO_390002.out (fun k_ hk => (⟨hk, hk.2.1⟩ : _ ∧ k_ ≠ gb389))) (fun _ hk => hk.2) (.slice Ao35 t394.length co35)) (fun _ hk => hk.2) (.slice Ao37 t397.length co37)) (fun _ hk => hk.2) (.slice Ao39 t400.length co39)) (fun _ hk => ⟨hk.1.1, ⟨hk.1.2.1, hk.1.2.2⟩⟩)))⟩; have n3_ : Aside0 (Kd.V (Kd.int .i64) 3 w51 w.heap.size (fun k_ => ((P0_0_ k_ ∨ P0_1_ k_ ∨ P0_2_ k_) ∨ w.heap.size ≤ k_) ∧ k_ ≠ gb389 ∧ k_ ≠ gb403) (.slice Ao35 t394.length co35) t394) := ⟨(by rw [hw]; exact (by (with_reducible repeat (first | apply V_alloc | apply V_drewN | apply V_drew)); exact V_mono (V_far (p := ⟨gb389, 2, none⟩) (V_far (p := ⟨gb389, 1, none⟩) (V_far (p := ⟨gb389, 0, none⟩) (V_mono HO396.out (fun k_ hk => (⟨hk, hk.2.1⟩ : _ ∧ k_ ≠ gb389))) (fun _ hk => hk.2) (.slice Ao35 t394.length co35)) (fun _ hk => hk.2) (.slice Ao37 t397.length co37)) (fun _ hk => hk.2) (.slice Ao39 t400.length co39)) (fun _ hk => ⟨hk.1.1, ⟨hk.1.2.1, hk.1.2.2⟩⟩)))⟩; have n4_ : Aside0 (Kd.V (Kd.int .i64) 3 w51 w.heap.size (fun k_ => ((P0_0_ k_ ∨ P0_1_ k_ ∨ P0_2_ k_) ∨ w.heap.size ≤ k_) ∧ k_ ≠ gb389 ∧ k_ ≠ gb403) (.slice Ao37 t397.length co37) t397) := ⟨(by rw [hw]; exact (by (with_reducible repeat (first | apply V_alloc | apply V_drewN | apply V_drew)); exact V_mono (V_far (p := ⟨gb389, 2, none⟩) (V_far (p := ⟨gb389, 1, none⟩) (V_far (p := ⟨gb389, 0, none⟩) (V_mono HO399.out (fun k_ hk => (⟨hk, hk.2.1⟩ : _ ∧ k_ ≠ gb389))) (fun _ hk => hk.2) (.slice Ao35 t394.length co35)) (fun _ hk => hk.2) (.slice Ao37 t397.length co37)) (fun _ hk => hk.2) (.slice Ao39 t400.length co39)) (fun _ hk => ⟨hk.1.1, ⟨hk.1.2.1, hk.1.2.2⟩⟩)))⟩; have n5_ : Aside0 (Kd.V (Kd.int .i64) 3 w51 w.heap.size (fun k_ => ((P0_0_ k_ ∨ P0_1_ k_ ∨ P0_2_ k_) ∨ w.heap.size ≤ k_) ∧ k_ ≠ gb389 ∧ k_ ≠ gb403) (.slice Ao39 t400.length co39) t400) := ⟨(by rw [hw]; exact (by (with_reducible repeat (first | apply V_alloc | apply V_drewN | apply V_drew)); exact V_mono (V_far (p := ⟨gb389, 2, none⟩) (V_far (p := ⟨gb389, 1, none⟩) (V_far (p := ⟨gb389, 0, none⟩) (V_mono HO402.out (fun k_ hk => (⟨hk, hk.2.1⟩ : _ ∧ k_ ≠ gb389))) (fun _ hk => hk.2) (.slice Ao35 t394.length co35)) (fun _ hk => hk.2) (.slice Ao37 t397.length co37)) (fun _ hk => hk.2) (.slice Ao39 t400.length co39)) (fun _ hk => ⟨hk.1.1, ⟨hk.1.2.1, hk.1.2.2⟩⟩)))⟩; have n6_ : Aside0 (Kd.V (Kd.int .i64) 3 w51 w.heap.size (fun k_ => ((P0_0_ k_ ∨ P0_1_ k_ ∨ P0_2_ k_) ∨ w.heap.size ≤ k_) ∧ k_ ≠ gb389 ∧ k_ ≠ gb403) (.slice Ao44 t405.length co44) t405) := ⟨(by rw [hw]; exact (by (with_reducible repeat (first | apply V_alloc | apply V_drewN | apply V_drew)); exact V_mono (V_far (p := ⟨gb389, 2, none⟩) (V_far (p := ⟨gb389, 1, none⟩) (V_far (p := ⟨gb389, 0, none⟩) (V_mono HO407.out (fun k_ hk => (⟨hk, hk.2.1⟩ : _ ∧ k_ ≠ gb389))) (fun _ hk => hk.2) (.slice Ao35 t394.length co35)) (fun _ hk => hk.2) (.slice Ao37 t397.length co37)) (fun _ hk => hk.2) (.slice Ao39 t400.length co39)) (fun _ hk => ⟨hk.1.1, ⟨hk.1.2.1, hk.1.2.2⟩⟩)))⟩; have n7_ : Aside0 (Kd.V (Kd.int .i64) 3 w51 w.heap.size (fun k_ => ((P0_0_ k_ ∨ P0_1_ k_ ∨ P0_2_ k_) ∨ w.heap.size ≤ k_) ∧ k_ ≠ gb389 ∧ k_ ≠ gb403) (.slice Ao45 t408.length co45) t408) := ⟨(by rw [hw]; exact (by (with_reducible repeat (first | apply V_alloc | apply V_drewN | apply V_drew)); exact V_mono (V_far (p := ⟨gb389, 2, none⟩) (V_far (p := ⟨gb389, 1, none⟩) (V_far (p := ⟨gb389, 0, none⟩) (V_mono HO410.out (fun k_ hk => (⟨hk, hk.2.1⟩ : _ ∧ k_ ≠ gb389))) (fun _ hk => hk.2) (.slice Ao35 t394.length co35)) (fun _ hk => hk.2) (.slice Ao37 t397.length co37)) (fun _ hk => hk.2) (.slice Ao39 t400.length co39)) (fun _ hk => ⟨hk.1.1, ⟨hk.1.2.1, hk.1.2.2⟩⟩)))⟩; have n8_ : Aside0 (Kd.V (Kd.int .i64) 3 w51 w.heap.size (fun k_ => ((P0_0_ k_ ∨ P0_1_ k_ ∨ P0_2_ k_) ∨ w.heap.size ≤ k_) ∧ k_ ≠ gb389 ∧ k_ ≠ gb403) (.slice Ao46 t411.length co46) t411) := ⟨(by rw [hw]; exact (by (with_reducible repeat (first | apply V_alloc | apply V_drewN | apply V_drew)); exact V_mono (V_far (p := ⟨gb389, 2, none⟩) (V_far (p := ⟨gb389, 1, none⟩) (V_far (p := ⟨gb389, 0, none⟩) (V_mono HO413.out (fun k_ hk => (⟨hk, hk.2.1⟩ : _ ∧ k_ ≠ gb389))) (fun _ hk => hk.2) (.slice Ao35 t394.length co35)) (fun _ hk => hk.2) (.slice Ao37 t397.length co37)) (fun _ hk => hk.2) (.slice Ao39 t400.length co39)) (fun _ hk => ⟨hk.1.1, ⟨hk.1.2.1, hk.1.2.2⟩⟩)))⟩; have n9_ : Aside0 (w51.heap[gb389]? = some (.cells #[.slice Ao35 t394.length co35, .slice Ao37 t397.length co37, .slice Ao39 t400.length co39] 30 (0, 0))) := ⟨(by rw [hw]; exact (by (with_reducible repeat (first | refine blk_drewN ?_ _ | refine blk_drew ?_ | refine blk_alloc ?_ _)); refine blk_put (cs := #[.slice Ao35 t394.length co35, .slice Ao37 t397.length co37, .slice Ao30 x390002_2.length co30]) ?_ 2 _ rfl; (with_reducible repeat (first | refine blk_drewN ?_ _ | refine blk_drew ?_ | refine blk_alloc ?_ _)); refine blk_put (cs := #[.slice Ao35 t394.length co35, .slice Ao29 x390001_2.length co29, .slice Ao30 x390002_2.length co30]) ?_ 1 _ rfl; (with_reducible repeat (first | refine blk_drewN ?_ _ | refine blk_drew ?_ | refine blk_alloc ?_ _)); refine blk_put (cs := #[.slice Ao28 x390000_2.length co28, .slice Ao29 x390001_2.length co29, .slice Ao30 x390002_2.length co30]) ?_ 0 _ rfl; (with_reducible repeat (first | refine blk_drewN ?_ _ | refine blk_drew ?_ | refine blk_alloc ?_ _)); exact BK389.out))⟩; have n10_ : Aside0 (w51.heap[gb403]? = some (.cells #[.slice Ao35 t394.length co35, .slice Ao37 t397.length co37, .slice Ao39 t400.length co39] 30 (0, 0))) := ⟨(by rw [hw]; exact (by (with_reducible repeat (first | refine blk_drewN ?_ _ | refine blk_drew ?_ | refine blk_alloc ?_ _)); refine blk_far ?_ NB403_389.out _; (with_reducible repeat (first | refine blk_drewN ?_ _ | refine blk_drew ?_ | refine blk_alloc ?_ _)); refine blk_far ?_ NB403_389.out _; (with_reducible repeat (first | refine blk_drewN ?_ _ | refine blk_drew ?_ | refine blk_alloc ?_ _)); refine blk_far ?_ NB403_389.out _; (with_reducible repeat (first | refine blk_drewN ?_ _ | refine blk_drew ?_ | refine blk_alloc ?_ _)); exact BK403.out))⟩; have n11_ : Aside0 (Below w.heap.size w w51) := ⟨(by rw [hw]; exact (by repeat (first | (with_reducible first | exact HB.out | apply below_alloc | apply pw_below_drewN | apply below_drew1 | refine below_set ?_ GE389.out | refine below_set ?_ GE403.out) | exact HB.out)))⟩; clear hw; clear HO_390000; clear HO_390001; clear HO_390002; clear HO396; clear HO399; clear HO402; clear HO407; clear HO410; clear HO413; clear BK389; clear BK403; clear HB; have HO_390000 := n0_; have HO_390001 := n1_; have HO_390002 := n2_; have HO396 := n3_; have HO399 := n4_; have HO402 := n5_; have HO407 := n6_; have HO410 := n7_; have HO413 := n8_; have BK389 := n9_; have BK403 := n10_; have HB := n11_; clear n0_ n1_ n2_ n3_ n4_ n5_ n6_ n7_ n8_ n9_ n10_ n11_))
         go_roundg k2
         case measure => have := HJ2.out; have := HK2.out; omega
         case rel => exact ⟨(wrap64 (x5_2 + 1)), (t394), (t397), (t400), (.slice Ao35 t394.length co35), (.slice Ao37 t397.length co37), (.slice Ao39 t400.length co39), (by first | rfl | (simp; done) | (simp [*]; done) | (generalize ByteArray.toList _ = l_; cases l_ <;> rfl)), H', ⟨by have := HJ2.out; have := HK2.out; omega⟩, ⟨by (with_reducible repeat (first | apply V_alloc | apply V_drewN | apply V_drew)); exact V_mono HO396.out (fun _ hk => ⟨hk.1, hk.2.1⟩)⟩, ⟨by (with_reducible repeat (first | apply V_alloc | apply V_drewN | apply V_drew)); exact V_mono HO399.out (fun _ hk => ⟨hk.1, hk.2.1⟩)⟩, ⟨by (with_reducible repeat (first | apply V_alloc | apply V_drewN | apply V_drew)); exact V_mono HO402.out (fun _ hk => ⟨hk.1, hk.2.1⟩)⟩, ⟨by (with_reducible repeat (first | refine blk_drewN ?_ _ | refine blk_drew ?_ | refine blk_alloc ?_ _)); exact BK389.out⟩, ⟨by repeat (first | (with_reducible first | exact HB.out | apply below_alloc | apply pw_below_drewN | apply below_drew1 | refine below_set ?_ GE389.out | refine below_set ?_ GE403.out) | exact HB.out)⟩⟩
        ·replace c27 := Bool.eq_false_iff.mpr c27
         subst c27
         have H1 : (none) = some r := by rw [if_neg (show ¬ (false = true) by decide)] at H; exact H
         clear H
         have H := H1
         clear H1
         exact absurd H (by simp)
       ·rw [if_neg c23] at H
        exact absurd H (by simp)
      ·rw [if_neg c22] at H
       have c22b0 : decide (x5_2 < (l1.length : Int)) = false := decide_eq_false c22
       clear c22
       by_cases c52 : (x390000_2.length : Int) > 20
       ·rw [if_pos c52] at H
        exact absurd H (by simp)
       ·rw [if_neg c52] at H
        have c52b0 : decide (20 < (x390000_2.length : Int)) = false := decide_eq_false c52
        have c52b1 : decide (20 < x390000_2.length) = false := decide_eq_false (by omega)
        clear c52
        have H' := Zk H
        clear H
        have hcz53_0 : wr.cell? ⟨gb389, 0, none⟩ = some (u390000) := (blk_cell BK389.out 0).trans rfl
        have hcz53_1 : wr.cell? ⟨gb389, 1, none⟩ = some (u390001) := (blk_cell BK389.out 1).trans rfl
        have hcz53_2 : wr.cell? ⟨gb389, 2, none⟩ = some (u390002) := (blk_cell BK389.out 2).trans rfl
        have hfz53_0 := blk_frozen BK389.out 0
        have hfz53_1 := blk_frozen BK389.out 1
        have hfz53_2 := blk_frozen BK389.out 2
        obtain ⟨Ao54, co54, eo54⟩ := V_slice HO_390000.out
        subst eo54
        go_wp2
        go_loopg [8, 9] k2 (fun kq v8 v9 w' => ∃ (x8_3 : Int) (x9_3 : Int) (x390000_3 : List Int) (x390001_3 : List Int) (x390002_3 : List Int) (u390000 : Value) (u390001 : Value) (u390002 : Value), v8 = .int .i64 x8_3 ∧ v9 = .int .i64 x9_3 ∧ Aside0 (jobshelllaw25_SignalTaken.l1 kq (x390000_2.length : Int) x8_3 x9_3 x390000_3 x390001_3 x390002_3 = some r) ∧ Aside0 (kq ≤ k2) ∧ Aside0 (Kd.V (Kd.int .i64) 3 w' w.heap.size (fun k_ => ((P0_0_ k_ ∨ P0_1_ k_ ∨ P0_2_ k_) ∨ w.heap.size ≤ k_) ∧ k_ ≠ gb389) u390000 x390000_3) ∧ Aside0 (Kd.V (Kd.int .i64) 3 w' w.heap.size (fun k_ => ((P0_0_ k_ ∨ P0_1_ k_ ∨ P0_2_ k_) ∨ w.heap.size ≤ k_) ∧ k_ ≠ gb389) u390001 x390001_3) ∧ Aside0 (Kd.V (Kd.int .i64) 3 w' w.heap.size (fun k_ => ((P0_0_ k_ ∨ P0_1_ k_ ∨ P0_2_ k_) ∨ w.heap.size ≤ k_) ∧ k_ ≠ gb389) u390002 x390002_3) ∧ Aside0 (w'.heap[gb389]? = some (.cells #[u390000, u390001, u390002] 30 (0, 0))) ∧ Aside0 (Below w.heap.size w w'))
        case atStart => exact ⟨(0), (0), (x390000_2), (x390001_2), (x390002_2), (.slice Ao54 x390000_2.length co54), (u390001), (u390002), (by first | rfl | (simp; done) | (simp [*]; done) | (generalize ByteArray.toList _ = l_; cases l_ <;> rfl)), (by first | rfl | (simp; done) | (simp [*]; done) | (generalize ByteArray.toList _ = l_; cases l_ <;> rfl)), H', ⟨Nat.le_refl _⟩, ⟨by (with_reducible repeat (first | apply V_alloc | apply V_drewN | apply V_drew)); exact HO_390000.out⟩, ⟨by (with_reducible repeat (first | apply V_alloc | apply V_drewN | apply V_drew)); exact HO_390001.out⟩, ⟨by (with_reducible repeat (first | apply V_alloc | apply V_drewN | apply V_drew)); exact HO_390002.out⟩, ⟨by (with_reducible repeat (first | refine blk_drewN ?_ _ | refine blk_drew ?_ | refine blk_alloc ?_ _)); exact BK389.out⟩, ⟨by repeat (first | (with_reducible first | exact HB.out | apply below_alloc | apply pw_below_drewN | apply below_drew1 | refine below_set ?_ GE389.out) | exact HB.out)⟩⟩
        case round =>
         clear H'
         try clear c2
         try clear p2
         try clear p3
         try clear q3
         try clear hx3
         try clear c4
         try clear p4
         try clear q4
         try clear hx4
         try clear c5
         try clear p6
         try clear c21
         try clear c22
         try clear c22b0
         try clear c23
         try clear c27
         try clear p39
         try clear q39
         try clear hx39
         try clear p40
         try clear q40
         try clear hx40
         try clear c48
         try clear c52
         try clear c52b0
         try clear c52b1
         try clear hcz49_0
         try clear hcz49_1
         try clear hcz49_2
         try clear hcz50_0
         try clear hcz50_1
         try clear hcz50_2
         try clear hcz53_0
         try clear hcz53_1
         try clear hcz53_2
         try clear hfz49_0
         try clear hfz49_1
         try clear hfz49_2
         try clear hfz50_0
         try clear hfz50_1
         try clear hfz50_2
         try clear hfz53_0
         try clear hfz53_1
         try clear hfz53_2
         try clear hx393_0
         try clear hx404_0
         try clear p393
         try clear p404
         try clear q393
         try clear q404
         obtain ⟨x8_3, x9_3, x390000_3, x390001_3, x390002_3, u390000, u390001, u390002, rfl, rfl, HA, HK3, HO_390000, HO_390001, HO_390002, BK389, HB⟩ := hrel
         cases gk with
         | zero => exact absurd HA.out (by simp [jobshelllaw25_SignalTaken.l1])
         | succ k3 =>
          have H := HA.out
          clear HA
          simp only [jobshelllaw25_SignalTaken.l1] at H
          by_cases c55 : x9_3 < (x390000_2.length : Int)
          ·rw [if_pos c55] at H
           have c55b0 : decide (x9_3 < (x390000_2.length : Int)) = true := decide_eq_true c55
           clear c55
           replace H := Option.bind_eq_some_iff.mp H
           obtain ⟨⟨t429, t432, t435, t438, t439⟩, A560, H⟩ := H
           replace H : (if x9_3 = 0 then (jobshelllaw25_SignalTaken.j3 k3 (x390000_2.length : Int) x8_3 x9_3 t438 (t438 == 9) x390000_3 x390001_3 x390002_3 t429 t432 t435) else (jobshelllaw25_SignalTaken.j3 k3 (x390000_2.length : Int) x8_3 x9_3 t438 false x390000_3 x390001_3 x390002_3 t429 t432 t435)) = some r := H
           have A56 := Zk A560
           clear A560
           have HC57 := Zk H
           clear H
           have hcz58_0 : wr.cell? ⟨gb389, 0, none⟩ = some (u390000) := (blk_cell BK389.out 0).trans rfl
           have hcz58_1 : wr.cell? ⟨gb389, 1, none⟩ = some (u390001) := (blk_cell BK389.out 1).trans rfl
           have hcz58_2 : wr.cell? ⟨gb389, 2, none⟩ = some (u390002) := (blk_cell BK389.out 2).trans rfl
           have hfz58_0 := blk_frozen BK389.out 0
           have hfz58_1 := blk_frozen BK389.out 1
           have hfz58_2 := blk_frozen BK389.out 2
           obtain ⟨Ao59, co59, eo59⟩ := V_slice HO_390000.out
           subst eo59
           obtain ⟨Ao60, co60, eo60⟩ := V_slice HO_390001.out
           subst eo60
           obtain ⟨Ao61, co61, eo61⟩ := V_slice HO_390002.out
           subst eo61
           go_upto_region 18 with (first | ((with_reducible refine gate_callee (f := 19) rfl ?_); refine goesL_ (some 65) rfl rfl Tryd.func19 (by kernel_rfl) rfl #[.agg #[.slice Ao59 x390000_3.length co59, .slice Ao60 x390001_3.length co60, .slice Ao61 x390002_3.length co61]] rfl (by (try simp only [List.map_toArray, List.map_cons, List.map_nil]); first | done | rfl | (simp only [List.length_drop, List.length_take]; rfl)) ?_; (with_reducible refine (signal_Next.calls k3 (fun k_ => (((P0_0_ k_ ∨ P0_1_ k_ ∨ P0_2_ k_) ∨ w.heap.size ≤ k_) ∧ k_ ≠ gb389)) _ _ x390000_3 (fun k_ => (((P0_0_ k_ ∨ P0_1_ k_ ∨ P0_2_ k_) ∨ w.heap.size ≤ k_) ∧ k_ ≠ gb389)) _ _ x390001_3 (fun k_ => (((P0_0_ k_ ∨ P0_1_ k_ ∨ P0_2_ k_) ∨ w.heap.size ≤ k_) ∧ k_ ≠ gb389)) _ _ x390002_3 t429 t432 t435 t438 t439 _ ?side1 ?side2 ?side3 A56.out).mono ?_); (case side1 => exact HO_390000.out); (case side2 => exact HO_390001.out); (case side3 => exact HO_390002.out); rintro e w62 ⟨v430, v433, v436, rfl, ho0, ho1, ho2, hb⟩; refine ⟨_, rfl, ?_⟩; have n0_ := Zk (V_below (by (with_reducible repeat (first | apply V_alloc | apply V_drewN | apply V_drew)); exact HO_390000.out) hb); have n1_ := Zk (V_below (by (with_reducible repeat (first | apply V_alloc | apply V_drewN | apply V_drew)); exact HO_390001.out) hb); have n2_ := Zk (V_below (by (with_reducible repeat (first | apply V_alloc | apply V_drewN | apply V_drew)); exact HO_390002.out) hb); have n3_ := Zk (V_lower (V_mono (ok' := fun k_ => ((P0_0_ k_ ∨ P0_1_ k_ ∨ P0_2_ k_) ∨ w.heap.size ≤ k_) ∧ k_ ≠ gb389) ho0 (fun k_ hk_ => ⟨Or.elim hk_ (fun hs_ => Or.elim hs_ (fun hs_ => hs_.1) (fun hs_ => Or.elim hs_ (fun hs_ => hs_.1) (fun hs_ => hs_.1))) (fun hn_ => (.inr (Nat.le_trans (below_size (by repeat (first | (with_reducible first | exact HB.out | apply below_alloc | apply pw_below_drewN | apply below_drew1 | refine below_set ?_ GE389.out) | exact HB.out))) hn_))), Or.elim hk_ (fun hs_ => Or.elim hs_ (fun hs_ => hs_.2) (fun hs_ => Or.elim hs_ (fun hs_ => hs_.2) (fun hs_ => hs_.2))) (fun hn_ => (Kd.freshB (g := gb389) (o := .cells #[.slice Ao59 x390000_3.length co59, .slice Ao60 x390001_3.length co60, .slice Ao61 x390002_3.length co61] 30 (0, 0)) (by (with_reducible repeat (first | refine blk_drewN ?_ _ | refine blk_drew ?_ | refine blk_alloc ?_ _)); exact BK389.out) k_ hn_))⟩)) (below_size (by repeat (first | (with_reducible first | exact HB.out | apply below_alloc | apply pw_below_drewN | apply below_drew1 | refine below_set ?_ GE389.out) | exact HB.out)))); have n4_ := Zk (V_lower (V_mono (ok' := fun k_ => ((P0_0_ k_ ∨ P0_1_ k_ ∨ P0_2_ k_) ∨ w.heap.size ≤ k_) ∧ k_ ≠ gb389) ho1 (fun k_ hk_ => ⟨Or.elim hk_ (fun hs_ => Or.elim hs_ (fun hs_ => hs_.1) (fun hs_ => Or.elim hs_ (fun hs_ => hs_.1) (fun hs_ => hs_.1))) (fun hn_ => (.inr (Nat.le_trans (below_size (by repeat (first | (with_reducible first | exact HB.out | apply below_alloc | apply pw_below_drewN | apply below_drew1 | refine below_set ?_ GE389.out) | exact HB.out))) hn_))), Or.elim hk_ (fun hs_ => Or.elim hs_ (fun hs_ => hs_.2) (fun hs_ => Or.elim hs_ (fun hs_ => hs_.2) (fun hs_ => hs_.2))) (fun hn_ => (Kd.freshB (g := gb389) (o := .cells #[.slice Ao59 x390000_3.length co59, .slice Ao60 x390001_3.length co60, .slice Ao61 x390002_3.length co61] 30 (0, 0)) (by (with_reducible repeat (first | refine blk_drewN ?_ _ | refine blk_drew ?_ | refine blk_alloc ?_ _)); exact BK389.out) k_ hn_))⟩)) (below_size (by repeat (first | (with_reducible first | exact HB.out | apply below_alloc | apply pw_below_drewN | apply below_drew1 | refine below_set ?_ GE389.out) | exact HB.out)))); have n5_ := Zk (V_lower (V_mono (ok' := fun k_ => ((P0_0_ k_ ∨ P0_1_ k_ ∨ P0_2_ k_) ∨ w.heap.size ≤ k_) ∧ k_ ≠ gb389) ho2 (fun k_ hk_ => ⟨Or.elim hk_ (fun hs_ => Or.elim hs_ (fun hs_ => hs_.1) (fun hs_ => Or.elim hs_ (fun hs_ => hs_.1) (fun hs_ => hs_.1))) (fun hn_ => (.inr (Nat.le_trans (below_size (by repeat (first | (with_reducible first | exact HB.out | apply below_alloc | apply pw_below_drewN | apply below_drew1 | refine below_set ?_ GE389.out) | exact HB.out))) hn_))), Or.elim hk_ (fun hs_ => Or.elim hs_ (fun hs_ => hs_.2) (fun hs_ => Or.elim hs_ (fun hs_ => hs_.2) (fun hs_ => hs_.2))) (fun hn_ => (Kd.freshB (g := gb389) (o := .cells #[.slice Ao59 x390000_3.length co59, .slice Ao60 x390001_3.length co60, .slice Ao61 x390002_3.length co61] 30 (0, 0)) (by (with_reducible repeat (first | refine blk_drewN ?_ _ | refine blk_drew ?_ | refine blk_alloc ?_ _)); exact BK389.out) k_ hn_))⟩)) (below_size (by repeat (first | (with_reducible first | exact HB.out | apply below_alloc | apply pw_below_drewN | apply below_drew1 | refine below_set ?_ GE389.out) | exact HB.out)))); have n6_ := Zk (blk_below (g := gb389) (o := .cells #[.slice Ao59 x390000_3.length co59, .slice Ao60 x390001_3.length co60, .slice Ao61 x390002_3.length co61] 30 (0, 0)) (by (with_reducible repeat (first | refine blk_drewN ?_ _ | refine blk_drew ?_ | refine blk_alloc ?_ _)); exact BK389.out) hb); have n7_ := Zk (below_step (by repeat (first | (with_reducible first | exact HB.out | apply below_alloc | apply pw_below_drewN | apply below_drew1 | refine below_set ?_ GE389.out) | exact HB.out)) hb); clear HO_390000; clear HO_390001; clear HO_390002; clear BK389; clear HB; have HO_390000 := n0_; have HO_390001 := n1_; have HO_390002 := n2_; have HO431 := n3_; have HO434 := n4_; have HO437 := n5_; have BK389 := n6_; have HB := n7_; clear n0_ n1_ n2_ n3_ n4_ n5_ n6_ n7_; (try clear hb); (try clear hb2); (try clear hk); (try clear hi); (try clear ho0); (try clear ho1); (try clear ho2)) | ((with_reducible refine gate_dst (N := 10) rfl ?_); (try (refine gate_guard (by rfl) ?_; dsimp only)); refine box_event ?hg (N := 10) ?hd (cs := #[.slice none 0 0, .slice none 0 0, .slice none 0 0]) (t := 30) ?hr ?_; (case hd => rfl); (case hg => rfl); (case hr => first | (go_simp; done) | (go_simp; rfl)); intro gb440 hg w63 hbox hb; have n0_ := Zk (V_below (V_elderB (by (with_reducible repeat (first | apply V_alloc | apply V_drewN | apply V_drew)); exact HO_390000.out) gb440 (Nat.le_of_eq hg.symm)) hb); have n1_ := Zk (V_below (V_elderB (by (with_reducible repeat (first | apply V_alloc | apply V_drewN | apply V_drew)); exact HO_390001.out) gb440 (Nat.le_of_eq hg.symm)) hb); have n2_ := Zk (V_below (V_elderB (by (with_reducible repeat (first | apply V_alloc | apply V_drewN | apply V_drew)); exact HO_390002.out) gb440 (Nat.le_of_eq hg.symm)) hb); have n3_ := Zk (V_below (V_elderB (by (with_reducible repeat (first | apply V_alloc | apply V_drewN | apply V_drew)); exact HO431.out) gb440 (Nat.le_of_eq hg.symm)) hb); have n4_ := Zk (V_below (V_elderB (by (with_reducible repeat (first | apply V_alloc | apply V_drewN | apply V_drew)); exact HO434.out) gb440 (Nat.le_of_eq hg.symm)) hb); have n5_ := Zk (V_below (V_elderB (by (with_reducible repeat (first | apply V_alloc | apply V_drewN | apply V_drew)); exact HO437.out) gb440 (Nat.le_of_eq hg.symm)) hb); have n6_ := Zk (blk_below (g := gb389) (o := .cells #[.slice Ao59 x390000_3.length co59, .slice Ao60 x390001_3.length co60, .slice Ao61 x390002_3.length co61] 30 (0, 0)) (by (with_reducible repeat (first | refine blk_drewN ?_ _ | refine blk_drew ?_ | refine blk_alloc ?_ _)); exact BK389.out) hb); have n7_ := Zk (below_step (by repeat (first | (with_reducible first | exact HB.out | apply below_alloc | apply pw_below_drewN | apply below_drew1 | refine below_set ?_ GE389.out) | exact HB.out)) hb); have n8_ := Zk (hbox); have n9_ := Zk ((by rw [hg]; exact (below_size (by repeat (first | (with_reducible first | exact HB.out | apply below_alloc | apply pw_below_drewN | apply below_drew1 | refine below_set ?_ GE389.out) | exact HB.out))) : w.heap.size ≤ gb440)); have n10_ := Zk ((by rw [hg]; exact (below_size (by repeat (first | (with_reducible first | exact HB.out | apply below_alloc | apply pw_below_drewN | apply below_drew1 | refine below_set ?_ GE389.out) | exact HB.out))) : w.heap.size ≤ gb440)); have n11_ := Zk ((by rw [hg]; exact Nat.ne_of_lt (blk_lt (g := gb389) (o := .cells #[.slice Ao59 x390000_3.length co59, .slice Ao60 x390001_3.length co60, .slice Ao61 x390002_3.length co61] 30 (0, 0)) (by (with_reducible repeat (first | refine blk_drewN ?_ _ | refine blk_drew ?_ | refine blk_alloc ?_ _)); exact BK389.out)) : gb389 ≠ gb440)); have n12_ := Zk ((by rw [hg]; exact Nat.ne_of_gt (blk_lt (g := gb389) (o := .cells #[.slice Ao59 x390000_3.length co59, .slice Ao60 x390001_3.length co60, .slice Ao61 x390002_3.length co61] 30 (0, 0)) (by (with_reducible repeat (first | refine blk_drewN ?_ _ | refine blk_drew ?_ | refine blk_alloc ?_ _)); exact BK389.out)) : gb440 ≠ gb389)); clear HO_390000; clear HO_390001; clear HO_390002; clear HO431; clear HO434; clear HO437; clear BK389; clear HB; have HO_390000 := n0_; have HO_390001 := n1_; have HO_390002 := n2_; have HO431 := n3_; have HO434 := n4_; have HO437 := n5_; have BK389 := n6_; have HB := n7_; have BK440 := n8_; have GW440 := n9_; have GE440 := n10_; have NB389_440 := n11_; have NB440_389 := n12_; clear n0_ n1_ n2_ n3_ n4_ n5_ n6_ n7_ n8_ n9_ n10_ n11_ n12_; clear hb hbox hg; obtain ⟨Ao64, co64, eo64⟩ := V_slice HO431.out; subst eo64; have hnb65 := NB440_389.out; have hnc65 := NB389_440.out; have hcz66_0 : w63.cell? ⟨gb440, 0, none⟩ = some (.slice none 0 0) := (blk_cell BK440.out 0).trans rfl; have hcz66_1 : w63.cell? ⟨gb440, 1, none⟩ = some (.slice none 0 0) := (blk_cell BK440.out 1).trans rfl; have hcz66_2 : w63.cell? ⟨gb440, 2, none⟩ = some (.slice none 0 0) := (blk_cell BK440.out 2).trans rfl; have hfz66_0 := blk_frozen BK440.out 0; have hfz66_1 := blk_frozen BK440.out 1; have hfz66_2 := blk_frozen BK440.out 2; obtain ⟨Ao67, co67, eo67⟩ := V_slice HO434.out; subst eo67; obtain ⟨Ao68, co68, eo68⟩ := V_slice HO437.out; subst eo68) | ((with_reducible refine gate_store (t := 30) (p := 10) rfl ?_); refine store_event (t := 30) (p := 10) (v := ?vo_w69) (w1 := (((w63.setCell ⟨gb440, 0, none⟩ (.slice Ao64 t429.length co64)).setCell ⟨gb440, 1, none⟩ (.slice Ao67 t432.length co67)).setCell ⟨gb440, 2, none⟩ (.slice Ao68 t435.length co68))) ?hg ?ho ?hn ?hr ?_; (case ho => rfl); (case hg => rfl); (case hn => rfl); (case hr => first | (go_simp; done) | (go_simp; rfl)); intro w69 hw; have n0_ : Aside0 (Kd.V (Kd.int .i64) 3 w69 w.heap.size (fun k_ => ((P0_0_ k_ ∨ P0_1_ k_ ∨ P0_2_ k_) ∨ w.heap.size ≤ k_) ∧ k_ ≠ gb389 ∧ k_ ≠ gb440) (.slice Ao59 x390000_3.length co59) x390000_3) := ⟨(by rw [hw]; exact (by (with_reducible repeat (first | apply V_alloc | apply V_drewN | apply V_drew)); exact V_mono (V_far (p := ⟨gb440, 2, none⟩) (V_far (p := ⟨gb440, 1, none⟩) (V_far (p := ⟨gb440, 0, none⟩) (V_mono HO_390000.out (fun k_ hk => (⟨hk, hk.2⟩ : _ ∧ k_ ≠ gb440))) (fun _ hk => hk.2) (.slice Ao64 t429.length co64)) (fun _ hk => hk.2) (.slice Ao67 t432.length co67)) (fun _ hk => hk.2) (.slice Ao68 t435.length co68)) (fun _ hk => ⟨hk.1.1.1, ⟨hk.1.1.2, hk.1.2⟩⟩)))⟩; have n1_ : Aside0 (Kd.V (Kd.int .i64) 3 w69 w.heap.size (fun k_ => ((P0_0_ k_ ∨ P0_1_ k_ ∨ P0_2_ k_) ∨ w.heap.size ≤ k_) ∧ k_ ≠ gb389 ∧ k_ ≠ gb440) (.slice Ao60 x390001_3.length co60) x390001_3) := ⟨(by rw [hw]; exact (by (with_reducible repeat (first | apply V_alloc | apply V_drewN | apply V_drew)); exact V_mono (V_far (p := ⟨gb440, 2, none⟩) (V_far (p := ⟨gb440, 1, none⟩) (V_far (p := ⟨gb440, 0, none⟩) (V_mono HO_390001.out (fun k_ hk => (⟨hk, hk.2⟩ : _ ∧ k_ ≠ gb440))) (fun _ hk => hk.2) (.slice Ao64 t429.length co64)) (fun _ hk => hk.2) (.slice Ao67 t432.length co67)) (fun _ hk => hk.2) (.slice Ao68 t435.length co68)) (fun _ hk => ⟨hk.1.1.1, ⟨hk.1.1.2, hk.1.2⟩⟩)))⟩; have n2_ : Aside0 (Kd.V (Kd.int .i64) 3 w69 w.heap.size (fun k_ => ((P0_0_ k_ ∨ P0_1_ k_ ∨ P0_2_ k_) ∨ w.heap.size ≤ k_) ∧ k_ ≠ gb389 ∧ k_ ≠ gb440) (.slice Ao61 x390002_3.length co61) x390002_3) := ⟨(by rw [hw]; exact (by (with_reducible repeat (first | apply V_alloc | apply V_drewN | apply V_drew)); exact V_mono (V_far (p := ⟨gb440, 2, none⟩) (V_far (p := ⟨gb440, 1, none⟩) (V_far (p := ⟨gb440, 0, none⟩) (V_mono HO_390002.out (fun k_ hk => (⟨hk, hk.2⟩ : _ ∧ k_ ≠ gb440))) (fun _ hk => hk.2) (.slice Ao64 t429.length co64)) (fun _ hk => hk.2) (.slice Ao67 t432.length co67)) (fun _ hk => hk.2) (.slice Ao68 t435.length co68)) (fun _ hk => ⟨hk.1.1.1, ⟨hk.1.1.2, hk.1.2⟩⟩)))⟩; have n3_ : Aside0 (Kd.V (Kd.int .i64) 3 w69 w.heap.size (fun k_ => ((P0_0_ k_ ∨ P0_1_ k_ ∨ P0_2_ k_) ∨ w.heap.size ≤ k_) ∧ k_ ≠ gb389 ∧ k_ ≠ gb440) (.slice Ao64 t429.length co64) t429) := ⟨(by rw [hw]; exact (by (with_reducible repeat (first | apply V_alloc | apply V_drewN | apply V_drew)); exact V_mono (V_far (p := ⟨gb440, 2, none⟩) (V_far (p := ⟨gb440, 1, none⟩) (V_far (p := ⟨gb440, 0, none⟩) (V_mono HO431.out (fun k_ hk => (⟨hk, hk.2⟩ : _ ∧ k_ ≠ gb440))) (fun _ hk => hk.2) (.slice Ao64 t429.length co64)) (fun _ hk => hk.2) (.slice Ao67 t432.length co67)) (fun _ hk => hk.2) (.slice Ao68 t435.length co68)) (fun _ hk => ⟨hk.1.1.1, ⟨hk.1.1.2, hk.1.2⟩⟩)))⟩; have n4_ : Aside0 (Kd.V (Kd.int .i64) 3 w69 w.heap.size (fun k_ => ((P0_0_ k_ ∨ P0_1_ k_ ∨ P0_2_ k_) ∨ w.heap.size ≤ k_) ∧ k_ ≠ gb389 ∧ k_ ≠ gb440) (.slice Ao67 t432.length co67) t432) := ⟨(by rw [hw]; exact (by (with_reducible repeat (first | apply V_alloc | apply V_drewN | apply V_drew)); exact V_mono (V_far (p := ⟨gb440, 2, none⟩) (V_far (p := ⟨gb440, 1, none⟩) (V_far (p := ⟨gb440, 0, none⟩) (V_mono HO434.out (fun k_ hk => (⟨hk, hk.2⟩ : _ ∧ k_ ≠ gb440))) (fun _ hk => hk.2) (.slice Ao64 t429.length co64)) (fun _ hk => hk.2) (.slice Ao67 t432.length co67)) (fun _ hk => hk.2) (.slice Ao68 t435.length co68)) (fun _ hk => ⟨hk.1.1.1, ⟨hk.1.1.2, hk.1.2⟩⟩)))⟩; have n5_ : Aside0 (Kd.V (Kd.int .i64) 3 w69 w.heap.size (fun k_ => ((P0_0_ k_ ∨ P0_1_ k_ ∨ P0_2_ k_) ∨ w.heap.size ≤ k_) ∧ k_ ≠ gb389 ∧ k_ ≠ gb440) (.slice Ao68 t435.length co68) t435) := ⟨(by rw [hw]; exact (by (with_reducible repeat (first | apply V_alloc | apply V_drewN | apply V_drew)); exact V_mono (V_far (p := ⟨gb440, 2, none⟩) (V_far (p := ⟨gb440, 1, none⟩) (V_far (p := ⟨gb440, 0, none⟩) (V_mono HO437.out (fun k_ hk => (⟨hk, hk.2⟩ : _ ∧ k_ ≠ gb440))) (fun _ hk => hk.2) (.slice Ao64 t429.length co64)) (fun _ hk => hk.2) (.slice Ao67 t432.length co67)) (fun _ hk => hk.2) (.slice Ao68 t435.length co68)) (fun _ hk => ⟨hk.1.1.1, ⟨hk.1.1.2, hk.1.2⟩⟩)))⟩; have n6_ : Aside0 (w69.heap[gb389]? = some (.cells #[.slice Ao59 x390000_3.length co59, .slice Ao60 x390001_3.length co60, .slice Ao61 x390002_3.length co61] 30 (0, 0))) := ⟨(by rw [hw]; exact (by (with_reducible repeat (first | refine blk_drewN ?_ _ | refine blk_drew ?_ | refine blk_alloc ?_ _)); refine blk_far ?_ NB389_440.out _; (with_reducible repeat (first | refine blk_drewN ?_ _ | refine blk_drew ?_ | refine blk_alloc ?_ _)); refine blk_far ?_ NB389_440.out _; (with_reducible repeat (first | refine blk_drewN ?_ _ | refine blk_drew ?_ | refine blk_alloc ?_ _)); refine blk_far ?_ NB389_440.out _; (with_reducible repeat (first | refine blk_drewN ?_ _ | refine blk_drew ?_ | refine blk_alloc ?_ _)); exact BK389.out))⟩; have n7_ : Aside0 (w69.heap[gb440]? = some (.cells #[.slice Ao64 t429.length co64, .slice Ao67 t432.length co67, .slice Ao68 t435.length co68] 30 (0, 0))) := ⟨(by rw [hw]; exact (by (with_reducible repeat (first | refine blk_drewN ?_ _ | refine blk_drew ?_ | refine blk_alloc ?_ _)); refine blk_put (cs := #[.slice Ao64 t429.length co64, .slice Ao67 t432.length co67, .slice none 0 0]) ?_ 2 _ rfl; (with_reducible repeat (first | refine blk_drewN ?_ _ | refine blk_drew ?_ | refine blk_alloc ?_ _)); refine blk_put (cs := #[.slice Ao64 t429.length co64, .slice none 0 0, .slice none 0 0]) ?_ 1 _ rfl; (with_reducible repeat (first | refine blk_drewN ?_ _ | refine blk_drew ?_ | refine blk_alloc ?_ _)); refine blk_put (cs := #[.slice none 0 0, .slice none 0 0, .slice none 0 0]) ?_ 0 _ rfl; (with_reducible repeat (first | refine blk_drewN ?_ _ | refine blk_drew ?_ | refine blk_alloc ?_ _)); exact BK440.out))⟩; have n8_ : Aside0 (Below w.heap.size w w69) := ⟨(by rw [hw]; exact (by repeat (first | (with_reducible first | exact HB.out | apply below_alloc | apply pw_below_drewN | apply below_drew1 | refine below_set ?_ GE389.out | refine below_set ?_ GE440.out) | exact HB.out)))⟩; clear hw; clear HO_390000; clear HO_390001; clear HO_390002; clear HO431; clear HO434; clear HO437; clear BK389; clear BK440; clear HB; have HO_390000 := n0_; have HO_390001 := n1_; have HO_390002 := n2_; have HO431 := n3_; have HO434 := n4_; have HO437 := n5_; have BK389 := n6_; have BK440 := n7_; have HB := n8_; clear n0_ n1_ n2_ n3_ n4_ n5_ n6_ n7_ n8_))
           (try simp only [Act.put, List.setIfInBounds_toArray, List.set_cons_zero, List.set_cons_succ])
           go_cut [13] (fun v13 wc => ∃ (kq : Nat) (x13_56 : Bool), v13 = .bool x13_56 ∧ Aside0 (jobshelllaw25_SignalTaken.j3 kq (x390000_2.length : Int) x8_3 x9_3 t438 x13_56 x390000_3 x390001_3 x390002_3 t429 t432 t435 = some r) ∧ Aside0 (kq ≤ k3) ∧ Aside0 (Kd.V (Kd.int .i64) 3 wc w.heap.size (fun k_ => ((P0_0_ k_ ∨ P0_1_ k_ ∨ P0_2_ k_) ∨ w.heap.size ≤ k_) ∧ k_ ≠ gb389 ∧ k_ ≠ gb440) (.slice Ao59 x390000_3.length co59) x390000_3) ∧ Aside0 (Kd.V (Kd.int .i64) 3 wc w.heap.size (fun k_ => ((P0_0_ k_ ∨ P0_1_ k_ ∨ P0_2_ k_) ∨ w.heap.size ≤ k_) ∧ k_ ≠ gb389 ∧ k_ ≠ gb440) (.slice Ao60 x390001_3.length co60) x390001_3) ∧ Aside0 (Kd.V (Kd.int .i64) 3 wc w.heap.size (fun k_ => ((P0_0_ k_ ∨ P0_1_ k_ ∨ P0_2_ k_) ∨ w.heap.size ≤ k_) ∧ k_ ≠ gb389 ∧ k_ ≠ gb440) (.slice Ao61 x390002_3.length co61) x390002_3) ∧ Aside0 (Kd.V (Kd.int .i64) 3 wc w.heap.size (fun k_ => ((P0_0_ k_ ∨ P0_1_ k_ ∨ P0_2_ k_) ∨ w.heap.size ≤ k_) ∧ k_ ≠ gb389 ∧ k_ ≠ gb440) (.slice Ao64 t429.length co64) t429) ∧ Aside0 (Kd.V (Kd.int .i64) 3 wc w.heap.size (fun k_ => ((P0_0_ k_ ∨ P0_1_ k_ ∨ P0_2_ k_) ∨ w.heap.size ≤ k_) ∧ k_ ≠ gb389 ∧ k_ ≠ gb440) (.slice Ao67 t432.length co67) t432) ∧ Aside0 (Kd.V (Kd.int .i64) 3 wc w.heap.size (fun k_ => ((P0_0_ k_ ∨ P0_1_ k_ ∨ P0_2_ k_) ∨ w.heap.size ≤ k_) ∧ k_ ≠ gb389 ∧ k_ ≠ gb440) (.slice Ao68 t435.length co68) t435) ∧ Aside0 (wc.heap[gb389]? = some (.cells #[(.slice Ao59 x390000_3.length co59), (.slice Ao60 x390001_3.length co60), (.slice Ao61 x390002_3.length co61)] 30 (0, 0))) ∧ Aside0 (wc.heap[gb440]? = some (.cells #[(.slice Ao64 t429.length co64), (.slice Ao67 t432.length co67), (.slice Ao68 t435.length co68)] 30 (0, 0))) ∧ Aside0 (Below w.heap.size w wc))
           case first =>
            have H := HC57.out
            clear HC57
            by_cases c70 : x9_3 = 0
            ·rw [if_pos c70] at H
             have c70b0 : (x9_3 == 0) = true := beq_iff_eq.mpr c70
             have c70b1 : (x9_3 != 0) = false := bne_eq_false_iff_eq.mpr c70
             clear c70
             (first | rw [c70b0] | (simp only [i64_w, i32_w]; rw [c70b0]) | skip)
             have H' := Zk H
             clear H
             go_wp2
             go_meet
             case rel => exact ⟨_, ((t438 == 9)), (by first | rfl | (simp; done) | (simp [*]; done) | (generalize ByteArray.toList _ = l_; cases l_ <;> rfl)), H', ⟨by have := HJ2.out; have := HK2.out; have := HK3.out; first | omega | exact Nat.le_refl _⟩, ⟨by (with_reducible repeat (first | apply V_alloc | apply V_drewN | apply V_drew)); exact HO_390000.out⟩, ⟨by (with_reducible repeat (first | apply V_alloc | apply V_drewN | apply V_drew)); exact HO_390001.out⟩, ⟨by (with_reducible repeat (first | apply V_alloc | apply V_drewN | apply V_drew)); exact HO_390002.out⟩, ⟨by (with_reducible repeat (first | apply V_alloc | apply V_drewN | apply V_drew)); exact HO431.out⟩, ⟨by (with_reducible repeat (first | apply V_alloc | apply V_drewN | apply V_drew)); exact HO434.out⟩, ⟨by (with_reducible repeat (first | apply V_alloc | apply V_drewN | apply V_drew)); exact HO437.out⟩, ⟨by (with_reducible repeat (first | refine blk_drewN ?_ _ | refine blk_drew ?_ | refine blk_alloc ?_ _)); exact BK389.out⟩, ⟨by (with_reducible repeat (first | refine blk_drewN ?_ _ | refine blk_drew ?_ | refine blk_alloc ?_ _)); exact BK440.out⟩, ⟨by repeat (first | (with_reducible first | exact HB.out | apply below_alloc | apply pw_below_drewN | apply below_drew1 | refine below_set ?_ GE389.out | refine below_set ?_ GE440.out) | exact HB.out)⟩⟩
            ·rw [if_neg c70] at H
             have c70b0 : (x9_3 == 0) = false := beq_eq_false_iff_ne.mpr c70
             have c70b1 : (x9_3 != 0) = true := bne_iff_ne.mpr c70
             (first | rw [c70b0] | (simp only [i64_w, i32_w]; rw [c70b0]) | skip)
             have H' := Zk H
             clear H
             go_wp2
             go_meet
             case rel => exact ⟨_, (false), (by first | rfl | (simp; done) | (simp [*]; done) | (generalize ByteArray.toList _ = l_; cases l_ <;> rfl)), H', ⟨by have := HJ2.out; have := HK2.out; have := HK3.out; first | omega | exact Nat.le_refl _⟩, ⟨by (with_reducible repeat (first | apply V_alloc | apply V_drewN | apply V_drew)); exact HO_390000.out⟩, ⟨by (with_reducible repeat (first | apply V_alloc | apply V_drewN | apply V_drew)); exact HO_390001.out⟩, ⟨by (with_reducible repeat (first | apply V_alloc | apply V_drewN | apply V_drew)); exact HO_390002.out⟩, ⟨by (with_reducible repeat (first | apply V_alloc | apply V_drewN | apply V_drew)); exact HO431.out⟩, ⟨by (with_reducible repeat (first | apply V_alloc | apply V_drewN | apply V_drew)); exact HO434.out⟩, ⟨by (with_reducible repeat (first | apply V_alloc | apply V_drewN | apply V_drew)); exact HO437.out⟩, ⟨by (with_reducible repeat (first | refine blk_drewN ?_ _ | refine blk_drew ?_ | refine blk_alloc ?_ _)); exact BK389.out⟩, ⟨by (with_reducible repeat (first | refine blk_drewN ?_ _ | refine blk_drew ?_ | refine blk_alloc ?_ _)); exact BK440.out⟩, ⟨by repeat (first | (with_reducible first | exact HB.out | apply below_alloc | apply pw_below_drewN | apply below_drew1 | refine below_set ?_ GE389.out | refine below_set ?_ GE440.out) | exact HB.out)⟩⟩
           case rest =>
            clear HC57
            try clear c1
            try clear c2
            try clear p2
            try clear p3
            try clear q3
            try clear hx3
            try clear c4
            try clear p4
            try clear q4
            try clear hx4
            try clear c5
            try clear c6
            try clear p6
            try clear c7
            try clear c19
            try clear c21
            try clear c22
            try clear c22b0
            try clear c23
            try clear c27
            try clear p39
            try clear q39
            try clear hx39
            try clear p40
            try clear q40
            try clear hx40
            try clear c48
            try clear c52
            try clear c52b0
            try clear c52b1
            try clear c55
            try clear c55b0
            try clear p64
            try clear c65
            try clear c70
            try clear c70b0
            try clear c70b1
            try clear hcz49_0
            try clear hcz49_1
            try clear hcz49_2
            try clear hcz50_0
            try clear hcz50_1
            try clear hcz50_2
            try clear hcz53_0
            try clear hcz53_1
            try clear hcz53_2
            try clear hcz58_0
            try clear hcz58_1
            try clear hcz58_2
            try clear hcz66_0
            try clear hcz66_1
            try clear hcz66_2
            try clear hfz49_0
            try clear hfz49_1
            try clear hfz49_2
            try clear hfz50_0
            try clear hfz50_1
            try clear hfz50_2
            try clear hfz53_0
            try clear hfz53_1
            try clear hfz53_2
            try clear hfz58_0
            try clear hfz58_1
            try clear hfz58_2
            try clear hfz66_0
            try clear hfz66_1
            try clear hfz66_2
            try clear hx393_0
            try clear hx404_0
            try clear p2
            try clear p3
            try clear p39
            try clear p393
            try clear p4
            try clear p40
            try clear p404
            try clear p6
            try clear q3
            try clear q39
            try clear q393
            try clear q4
            try clear q40
            try clear q404
            obtain ⟨kq, x13_56, rfl, HA, HJ56, HO_390000, HO_390001, HO_390002, HO_441000, HO_441001, HO_441002, BK389, BK440, HB⟩ := hcut
            cases kq with
            | zero => exact absurd HA.out (by simp [jobshelllaw25_SignalTaken.j3])
            | succ kj56 =>
             have H := HA.out
             clear HA
             simp only [jobshelllaw25_SignalTaken.j3] at H
             have HC71 := Zk H
             clear H
             go_upto_region 19 with (fail)
             go_cut [113] (fun v113 wc => ∃ (kq : Nat) (x113_70 : Bool), v113 = .bool x113_70 ∧ Aside0 (jobshelllaw25_SignalTaken.j4 kq (x390000_2.length : Int) x8_3 x9_3 t438 x13_56 x113_70 t429 t432 t435 = some r) ∧ Aside0 (kq ≤ kj56) ∧ Aside0 (Kd.V (Kd.int .i64) 3 wc w.heap.size (fun k_ => ((P0_0_ k_ ∨ P0_1_ k_ ∨ P0_2_ k_) ∨ w.heap.size ≤ k_) ∧ k_ ≠ gb389 ∧ k_ ≠ gb440) (.slice Ao59 x390000_3.length co59) x390000_3) ∧ Aside0 (Kd.V (Kd.int .i64) 3 wc w.heap.size (fun k_ => ((P0_0_ k_ ∨ P0_1_ k_ ∨ P0_2_ k_) ∨ w.heap.size ≤ k_) ∧ k_ ≠ gb389 ∧ k_ ≠ gb440) (.slice Ao60 x390001_3.length co60) x390001_3) ∧ Aside0 (Kd.V (Kd.int .i64) 3 wc w.heap.size (fun k_ => ((P0_0_ k_ ∨ P0_1_ k_ ∨ P0_2_ k_) ∨ w.heap.size ≤ k_) ∧ k_ ≠ gb389 ∧ k_ ≠ gb440) (.slice Ao61 x390002_3.length co61) x390002_3) ∧ Aside0 (Kd.V (Kd.int .i64) 3 wc w.heap.size (fun k_ => ((P0_0_ k_ ∨ P0_1_ k_ ∨ P0_2_ k_) ∨ w.heap.size ≤ k_) ∧ k_ ≠ gb389 ∧ k_ ≠ gb440) (.slice Ao64 t429.length co64) t429) ∧ Aside0 (Kd.V (Kd.int .i64) 3 wc w.heap.size (fun k_ => ((P0_0_ k_ ∨ P0_1_ k_ ∨ P0_2_ k_) ∨ w.heap.size ≤ k_) ∧ k_ ≠ gb389 ∧ k_ ≠ gb440) (.slice Ao67 t432.length co67) t432) ∧ Aside0 (Kd.V (Kd.int .i64) 3 wc w.heap.size (fun k_ => ((P0_0_ k_ ∨ P0_1_ k_ ∨ P0_2_ k_) ∨ w.heap.size ≤ k_) ∧ k_ ≠ gb389 ∧ k_ ≠ gb440) (.slice Ao68 t435.length co68) t435) ∧ Aside0 (wc.heap[gb389]? = some (.cells #[(.slice Ao59 x390000_3.length co59), (.slice Ao60 x390001_3.length co60), (.slice Ao61 x390002_3.length co61)] 30 (0, 0))) ∧ Aside0 (wc.heap[gb440]? = some (.cells #[(.slice Ao64 t429.length co64), (.slice Ao67 t432.length co67), (.slice Ao68 t435.length co68)] 30 (0, 0))) ∧ Aside0 (Below w.heap.size w wc))
             case first =>
              have H := HC71.out
              clear HC71
              replace H := Option.bind_eq_some_iff.mp H
              obtain ⟨t441, A720, H⟩ := H
              replace H : (if t441 = true then ((jobshellref25_Has.f kj56 t429 t438).bind fun t442 => (if t442 = true then (jobshelllaw25_SignalTaken.j4 kj56 (x390000_2.length : Int) x8_3 x9_3 t438 x13_56 true t429 t432 t435) else (if (t429.length : Int) = (wrap64 ((x390000_3.length : Int) - 1)) then (if x13_56 = true then (jobshelllaw25_SignalTaken.j4 kj56 (x390000_2.length : Int) x8_3 x9_3 t438 x13_56 false t429 t432 t435) else (if t438 ≤ x8_3 then (jobshelllaw25_SignalTaken.j4 kj56 (x390000_2.length : Int) x8_3 x9_3 t438 x13_56 true t429 t432 t435) else ((jobshellref25_Has.f kj56 x390000_3 9).bind fun t443 => (jobshelllaw25_SignalTaken.j4 kj56 (x390000_2.length : Int) x8_3 x9_3 t438 x13_56 t443 t429 t432 t435)))) else (jobshelllaw25_SignalTaken.j4 kj56 (x390000_2.length : Int) x8_3 x9_3 t438 x13_56 true t429 t432 t435)))) else (jobshelllaw25_SignalTaken.j4 kj56 (x390000_2.length : Int) x8_3 x9_3 t438 x13_56 true t429 t432 t435)) = some r := H
              have A72 := Zk A720
              clear A720
              by_cases c73 : t441 = true
              ·subst c73
               have H1 : ((jobshellref25_Has.f kj56 t429 t438).bind fun t442 => (if t442 = true then (jobshelllaw25_SignalTaken.j4 kj56 (x390000_2.length : Int) x8_3 x9_3 t438 x13_56 true t429 t432 t435) else (if (t429.length : Int) = (wrap64 ((x390000_3.length : Int) - 1)) then (if x13_56 = true then (jobshelllaw25_SignalTaken.j4 kj56 (x390000_2.length : Int) x8_3 x9_3 t438 x13_56 false t429 t432 t435) else (if t438 ≤ x8_3 then (jobshelllaw25_SignalTaken.j4 kj56 (x390000_2.length : Int) x8_3 x9_3 t438 x13_56 true t429 t432 t435) else ((jobshellref25_Has.f kj56 x390000_3 9).bind fun t443 => (jobshelllaw25_SignalTaken.j4 kj56 (x390000_2.length : Int) x8_3 x9_3 t438 x13_56 t443 t429 t432 t435)))) else (jobshelllaw25_SignalTaken.j4 kj56 (x390000_2.length : Int) x8_3 x9_3 t438 x13_56 true t429 t432 t435)))) = some r := by rw [if_pos rfl] at H; exact H
               clear H
               have H := H1
               clear H1
               replace H := Option.bind_eq_some_iff.mp H
               obtain ⟨t442, A740, H⟩ := H
               replace H : (if t442 = true then (jobshelllaw25_SignalTaken.j4 kj56 (x390000_2.length : Int) x8_3 x9_3 t438 x13_56 true t429 t432 t435) else (if (t429.length : Int) = (wrap64 ((x390000_3.length : Int) - 1)) then (if x13_56 = true then (jobshelllaw25_SignalTaken.j4 kj56 (x390000_2.length : Int) x8_3 x9_3 t438 x13_56 false t429 t432 t435) else (if t438 ≤ x8_3 then (jobshelllaw25_SignalTaken.j4 kj56 (x390000_2.length : Int) x8_3 x9_3 t438 x13_56 true t429 t432 t435) else ((jobshellref25_Has.f kj56 x390000_3 9).bind fun t443 => (jobshelllaw25_SignalTaken.j4 kj56 (x390000_2.length : Int) x8_3 x9_3 t438 x13_56 t443 t429 t432 t435)))) else (jobshelllaw25_SignalTaken.j4 kj56 (x390000_2.length : Int) x8_3 x9_3 t438 x13_56 true t429 t432 t435))) = some r := H
               have A74 := Zk A740
               clear A740
               by_cases c75 : t442 = true
               ·subst c75
                have H1 : (jobshelllaw25_SignalTaken.j4 kj56 (x390000_2.length : Int) x8_3 x9_3 t438 x13_56 true t429 t432 t435) = some r := by rw [if_pos rfl] at H; exact H
                clear H
                have H := H1
                clear H1
                have H' := Zk H
                clear H
                have hnb76 := NB389_440.out
                have hnc76 := NB440_389.out
                have hcz77_0 : wc.cell? ⟨gb389, 0, none⟩ = some (.slice Ao59 x390000_3.length co59) := (blk_cell BK389.out 0).trans rfl
                have hcz77_1 : wc.cell? ⟨gb389, 1, none⟩ = some (.slice Ao60 x390001_3.length co60) := (blk_cell BK389.out 1).trans rfl
                have hcz77_2 : wc.cell? ⟨gb389, 2, none⟩ = some (.slice Ao61 x390002_3.length co61) := (blk_cell BK389.out 2).trans rfl
                have hfz77_0 := blk_frozen BK389.out 0
                have hfz77_1 := blk_frozen BK389.out 1
                have hfz77_2 := blk_frozen BK389.out 2
                go_wp2_with (first | ((with_reducible refine gate_callee (f := 24) rfl ?_); refine goesL_ (some 78) rfl rfl Tryd.func24 (by kernel_rfl) rfl #[.slice Ao59 x390000_3.length co59, .int .i64 t438] rfl (by (try simp only [List.map_toArray, List.map_cons, List.map_nil]); first | done | rfl | (simp only [List.length_drop, List.length_take]; rfl)) ?_; (with_reducible refine (jobshellref25_Has.calls kj56 _ _ x390000_3 t438 true _ ?side1 ?side2 A72.out).mono ?_); (case side1 => repeat (first | exact (V_reads' HO_390000.out).2.2 | (with_reducible refine C_alloc ?_ _) | (with_reducible refine C_drewN ?_ _) | (with_reducible refine C_drew ?_))); (case side2 => exact (V_reads' HO_390000.out).2.1); rintro e w' ⟨rfl, ⟨nd, rfl⟩⟩; refine ⟨_, rfl, ?_⟩; have hcz78_0 : wc.cell? ⟨gb440, 0, none⟩ = some (.slice Ao64 t429.length co64) := (blk_cell BK440.out 0).trans rfl; have hcz78_1 : wc.cell? ⟨gb440, 1, none⟩ = some (.slice Ao67 t432.length co67) := (blk_cell BK440.out 1).trans rfl; have hcz78_2 : wc.cell? ⟨gb440, 2, none⟩ = some (.slice Ao68 t435.length co68) := (blk_cell BK440.out 2).trans rfl; have hfz78_0 := blk_frozen BK440.out 0; have hfz78_1 := blk_frozen BK440.out 1; have hfz78_2 := blk_frozen BK440.out 2) | (go_at_call 24; (with_reducible refine (jobshellref25_Has.calls kj56 _ _ t429 t438 true _ ?side1 ?side2 A74.out).mono ?_); (case side1 => repeat (first | exact (V_reads' HO_441000.out).2.2 | (with_reducible refine C_alloc ?_ _) | (with_reducible refine C_drewN ?_ _) | (with_reducible refine C_drew ?_))); (case side2 => exact (V_reads' HO_441000.out).2.1); rintro e w' ⟨rfl, ⟨nd, rfl⟩⟩))
                go_meet
                case rel => exact ⟨_, (true), (by first | rfl | (simp; done) | (simp [*]; done) | (generalize ByteArray.toList _ = l_; cases l_ <;> rfl)), H', ⟨by have := HJ2.out; have := HK2.out; have := HK3.out; have := HJ56.out; first | omega | exact Nat.le_refl _⟩, ⟨by (with_reducible repeat (first | apply V_alloc | apply V_drewN | apply V_drew)); exact HO_390000.out⟩, ⟨by (with_reducible repeat (first | apply V_alloc | apply V_drewN | apply V_drew)); exact HO_390001.out⟩, ⟨by (with_reducible repeat (first | apply V_alloc | apply V_drewN | apply V_drew)); exact HO_390002.out⟩, ⟨by (with_reducible repeat (first | apply V_alloc | apply V_drewN | apply V_drew)); exact HO_441000.out⟩, ⟨by (with_reducible repeat (first | apply V_alloc | apply V_drewN | apply V_drew)); exact HO_441001.out⟩, ⟨by (with_reducible repeat (first | apply V_alloc | apply V_drewN | apply V_drew)); exact HO_441002.out⟩, ⟨by (with_reducible repeat (first | refine blk_drewN ?_ _ | refine blk_drew ?_ | refine blk_alloc ?_ _)); exact BK389.out⟩, ⟨by (with_reducible repeat (first | refine blk_drewN ?_ _ | refine blk_drew ?_ | refine blk_alloc ?_ _)); exact BK440.out⟩, ⟨by repeat (first | (with_reducible first | exact HB.out | apply below_alloc | apply pw_below_drewN | apply below_drew1 | refine below_set ?_ GE389.out | refine below_set ?_ GE440.out) | exact HB.out)⟩⟩
               ·replace c75 := Bool.eq_false_iff.mpr c75
                subst c75
                have H1 : (if (t429.length : Int) = (wrap64 ((x390000_3.length : Int) - 1)) then (if x13_56 = true then (jobshelllaw25_SignalTaken.j4 kj56 (x390000_2.length : Int) x8_3 x9_3 t438 x13_56 false t429 t432 t435) else (if t438 ≤ x8_3 then (jobshelllaw25_SignalTaken.j4 kj56 (x390000_2.length : Int) x8_3 x9_3 t438 x13_56 true t429 t432 t435) else ((jobshellref25_Has.f kj56 x390000_3 9).bind fun t443 => (jobshelllaw25_SignalTaken.j4 kj56 (x390000_2.length : Int) x8_3 x9_3 t438 x13_56 t443 t429 t432 t435)))) else (jobshelllaw25_SignalTaken.j4 kj56 (x390000_2.length : Int) x8_3 x9_3 t438 x13_56 true t429 t432 t435)) = some r := by rw [if_neg (show ¬ (false = true) by decide)] at H; exact H
                clear H
                have H := H1
                clear H1
                by_cases c79 : (t429.length : Int) = (wrap64 ((x390000_3.length : Int) - 1))
                ·rw [if_pos c79] at H
                 have c79b0 : ((t429.length : Int) == (wrap64 ((x390000_3.length : Int) - 1))) = true := beq_iff_eq.mpr c79
                 have c79b1 : ((t429.length : Int) != (wrap64 ((x390000_3.length : Int) - 1))) = false := bne_eq_false_iff_eq.mpr c79
                 clear c79
                 (first | rw [c79b0] | (simp only [i64_w, i32_w]; rw [c79b0]) | skip)
                 by_cases c80 : x13_56 = true
                 ·subst c80
                  have H1 : (jobshelllaw25_SignalTaken.j4 kj56 (x390000_2.length : Int) x8_3 x9_3 t438 true false t429 t432 t435) = some r := by rw [if_pos rfl] at H; exact H
                  clear H
                  have H := H1
                  clear H1
                  have H' := Zk H
                  clear H
                  have hnb81 := NB389_440.out
                  have hnc81 := NB440_389.out
                  have hcz82_0 : wc.cell? ⟨gb389, 0, none⟩ = some (.slice Ao59 x390000_3.length co59) := (blk_cell BK389.out 0).trans rfl
                  have hcz82_1 : wc.cell? ⟨gb389, 1, none⟩ = some (.slice Ao60 x390001_3.length co60) := (blk_cell BK389.out 1).trans rfl
                  have hcz82_2 : wc.cell? ⟨gb389, 2, none⟩ = some (.slice Ao61 x390002_3.length co61) := (blk_cell BK389.out 2).trans rfl
                  have hfz82_0 := blk_frozen BK389.out 0
                  have hfz82_1 := blk_frozen BK389.out 1
                  have hfz82_2 := blk_frozen BK389.out 2
                  go_wp2_with (first | ((with_reducible refine gate_callee (f := 24) rfl ?_); refine goesL_ (some 78) rfl rfl Tryd.func24 (by kernel_rfl) rfl #[.slice Ao59 x390000_3.length co59, .int .i64 t438] rfl (by (try simp only [List.map_toArray, List.map_cons, List.map_nil]); first | done | rfl | (simp only [List.length_drop, List.length_take]; rfl)) ?_; (with_reducible refine (jobshellref25_Has.calls kj56 _ _ x390000_3 t438 true _ ?side1 ?side2 A72.out).mono ?_); (case side1 => repeat (first | exact (V_reads' HO_390000.out).2.2 | (with_reducible refine C_alloc ?_ _) | (with_reducible refine C_drewN ?_ _) | (with_reducible refine C_drew ?_))); (case side2 => exact (V_reads' HO_390000.out).2.1); rintro e w' ⟨rfl, ⟨nd, rfl⟩⟩; refine ⟨_, rfl, ?_⟩; have hcz83_0 : wc.cell? ⟨gb440, 0, none⟩ = some (.slice Ao64 t429.length co64) := (blk_cell BK440.out 0).trans rfl; have hcz83_1 : wc.cell? ⟨gb440, 1, none⟩ = some (.slice Ao67 t432.length co67) := (blk_cell BK440.out 1).trans rfl; have hcz83_2 : wc.cell? ⟨gb440, 2, none⟩ = some (.slice Ao68 t435.length co68) := (blk_cell BK440.out 2).trans rfl; have hfz83_0 := blk_frozen BK440.out 0; have hfz83_1 := blk_frozen BK440.out 1; have hfz83_2 := blk_frozen BK440.out 2) | (go_at_call 24; (with_reducible refine (jobshellref25_Has.calls kj56 _ _ t429 t438 false _ ?side1 ?side2 A74.out).mono ?_); (case side1 => repeat (first | exact (V_reads' HO_441000.out).2.2 | (with_reducible refine C_alloc ?_ _) | (with_reducible refine C_drewN ?_ _) | (with_reducible refine C_drew ?_))); (case side2 => exact (V_reads' HO_441000.out).2.1); rintro e w' ⟨rfl, ⟨nd, rfl⟩⟩))
                  go_meet
                  case rel => exact ⟨_, (false), (by first | rfl | (simp; done) | (simp [*]; done) | (generalize ByteArray.toList _ = l_; cases l_ <;> rfl)), H', ⟨by have := HJ2.out; have := HK2.out; have := HK3.out; have := HJ56.out; first | omega | exact Nat.le_refl _⟩, ⟨by (with_reducible repeat (first | apply V_alloc | apply V_drewN | apply V_drew)); exact HO_390000.out⟩, ⟨by (with_reducible repeat (first | apply V_alloc | apply V_drewN | apply V_drew)); exact HO_390001.out⟩, ⟨by (with_reducible repeat (first | apply V_alloc | apply V_drewN | apply V_drew)); exact HO_390002.out⟩, ⟨by (with_reducible repeat (first | apply V_alloc | apply V_drewN | apply V_drew)); exact HO_441000.out⟩, ⟨by (with_reducible repeat (first | apply V_alloc | apply V_drewN | apply V_drew)); exact HO_441001.out⟩, ⟨by (with_reducible repeat (first | apply V_alloc | apply V_drewN | apply V_drew)); exact HO_441002.out⟩, ⟨by (with_reducible repeat (first | refine blk_drewN ?_ _ | refine blk_drew ?_ | refine blk_alloc ?_ _)); exact BK389.out⟩, ⟨by (with_reducible repeat (first | refine blk_drewN ?_ _ | refine blk_drew ?_ | refine blk_alloc ?_ _)); exact BK440.out⟩, ⟨by repeat (first | (with_reducible first | exact HB.out | apply below_alloc | apply pw_below_drewN | apply below_drew1 | refine below_set ?_ GE389.out | refine below_set ?_ GE440.out) | exact HB.out)⟩⟩
                 ·replace c80 := Bool.eq_false_iff.mpr c80
                  subst c80
                  have H1 : (if t438 ≤ x8_3 then (jobshelllaw25_SignalTaken.j4 kj56 (x390000_2.length : Int) x8_3 x9_3 t438 false true t429 t432 t435) else ((jobshellref25_Has.f kj56 x390000_3 9).bind fun t443 => (jobshelllaw25_SignalTaken.j4 kj56 (x390000_2.length : Int) x8_3 x9_3 t438 false t443 t429 t432 t435))) = some r := by rw [if_neg (show ¬ (false = true) by decide)] at H; exact H
                  clear H
                  have H := H1
                  clear H1
                  by_cases c84 : t438 ≤ x8_3
                  ·rw [if_pos c84] at H
                   have c84b0 : decide (t438 ≤ x8_3) = true := decide_eq_true c84
                   clear c84
                   have H' := Zk H
                   clear H
                   have hnb85 := NB389_440.out
                   have hnc85 := NB440_389.out
                   have hcz86_0 : wc.cell? ⟨gb389, 0, none⟩ = some (.slice Ao59 x390000_3.length co59) := (blk_cell BK389.out 0).trans rfl
                   have hcz86_1 : wc.cell? ⟨gb389, 1, none⟩ = some (.slice Ao60 x390001_3.length co60) := (blk_cell BK389.out 1).trans rfl
                   have hcz86_2 : wc.cell? ⟨gb389, 2, none⟩ = some (.slice Ao61 x390002_3.length co61) := (blk_cell BK389.out 2).trans rfl
                   have hfz86_0 := blk_frozen BK389.out 0
                   have hfz86_1 := blk_frozen BK389.out 1
                   have hfz86_2 := blk_frozen BK389.out 2
                   go_wp2_with (first | ((with_reducible refine gate_callee (f := 24) rfl ?_); refine goesL_ (some 78) rfl rfl Tryd.func24 (by kernel_rfl) rfl #[.slice Ao59 x390000_3.length co59, .int .i64 t438] rfl (by (try simp only [List.map_toArray, List.map_cons, List.map_nil]); first | done | rfl | (simp only [List.length_drop, List.length_take]; rfl)) ?_; (with_reducible refine (jobshellref25_Has.calls kj56 _ _ x390000_3 t438 true _ ?side1 ?side2 A72.out).mono ?_); (case side1 => repeat (first | exact (V_reads' HO_390000.out).2.2 | (with_reducible refine C_alloc ?_ _) | (with_reducible refine C_drewN ?_ _) | (with_reducible refine C_drew ?_))); (case side2 => exact (V_reads' HO_390000.out).2.1); rintro e w' ⟨rfl, ⟨nd, rfl⟩⟩; refine ⟨_, rfl, ?_⟩; have hcz87_0 : wc.cell? ⟨gb440, 0, none⟩ = some (.slice Ao64 t429.length co64) := (blk_cell BK440.out 0).trans rfl; have hcz87_1 : wc.cell? ⟨gb440, 1, none⟩ = some (.slice Ao67 t432.length co67) := (blk_cell BK440.out 1).trans rfl; have hcz87_2 : wc.cell? ⟨gb440, 2, none⟩ = some (.slice Ao68 t435.length co68) := (blk_cell BK440.out 2).trans rfl; have hfz87_0 := blk_frozen BK440.out 0; have hfz87_1 := blk_frozen BK440.out 1; have hfz87_2 := blk_frozen BK440.out 2) | (go_at_call 24; (with_reducible refine (jobshellref25_Has.calls kj56 _ _ t429 t438 false _ ?side1 ?side2 A74.out).mono ?_); (case side1 => repeat (first | exact (V_reads' HO_441000.out).2.2 | (with_reducible refine C_alloc ?_ _) | (with_reducible refine C_drewN ?_ _) | (with_reducible refine C_drew ?_))); (case side2 => exact (V_reads' HO_441000.out).2.1); rintro e w' ⟨rfl, ⟨nd, rfl⟩⟩))
                   go_meet
                   case rel => exact ⟨_, (true), (by first | rfl | (simp; done) | (simp [*]; done) | (generalize ByteArray.toList _ = l_; cases l_ <;> rfl)), H', ⟨by have := HJ2.out; have := HK2.out; have := HK3.out; have := HJ56.out; first | omega | exact Nat.le_refl _⟩, ⟨by (with_reducible repeat (first | apply V_alloc | apply V_drewN | apply V_drew)); exact HO_390000.out⟩, ⟨by (with_reducible repeat (first | apply V_alloc | apply V_drewN | apply V_drew)); exact HO_390001.out⟩, ⟨by (with_reducible repeat (first | apply V_alloc | apply V_drewN | apply V_drew)); exact HO_390002.out⟩, ⟨by (with_reducible repeat (first | apply V_alloc | apply V_drewN | apply V_drew)); exact HO_441000.out⟩, ⟨by (with_reducible repeat (first | apply V_alloc | apply V_drewN | apply V_drew)); exact HO_441001.out⟩, ⟨by (with_reducible repeat (first | apply V_alloc | apply V_drewN | apply V_drew)); exact HO_441002.out⟩, ⟨by (with_reducible repeat (first | refine blk_drewN ?_ _ | refine blk_drew ?_ | refine blk_alloc ?_ _)); exact BK389.out⟩, ⟨by (with_reducible repeat (first | refine blk_drewN ?_ _ | refine blk_drew ?_ | refine blk_alloc ?_ _)); exact BK440.out⟩, ⟨by repeat (first | (with_reducible first | exact HB.out | apply below_alloc | apply pw_below_drewN | apply below_drew1 | refine below_set ?_ GE389.out | refine below_set ?_ GE440.out) | exact HB.out)⟩⟩
                  ·rw [if_neg c84] at H
                   have c84b0 : decide (t438 ≤ x8_3) = false := decide_eq_false c84
                   clear c84
                   replace H := Option.bind_eq_some_iff.mp H
                   obtain ⟨t443, A880, H⟩ := H
                   replace H : (jobshelllaw25_SignalTaken.j4 kj56 (x390000_2.length : Int) x8_3 x9_3 t438 false t443 t429 t432 t435) = some r := H
                   have A88 := Zk A880
                   clear A880
                   have H' := Zk H
                   clear H
                   have hnb89 := NB389_440.out
                   have hnc89 := NB440_389.out
                   have hcz90_0 : wc.cell? ⟨gb389, 0, none⟩ = some (.slice Ao59 x390000_3.length co59) := (blk_cell BK389.out 0).trans rfl
                   have hcz90_1 : wc.cell? ⟨gb389, 1, none⟩ = some (.slice Ao60 x390001_3.length co60) := (blk_cell BK389.out 1).trans rfl
                   have hcz90_2 : wc.cell? ⟨gb389, 2, none⟩ = some (.slice Ao61 x390002_3.length co61) := (blk_cell BK389.out 2).trans rfl
                   have hfz90_0 := blk_frozen BK389.out 0
                   have hfz90_1 := blk_frozen BK389.out 1
                   have hfz90_2 := blk_frozen BK389.out 2
                   go_wp2_with (first | ((with_reducible refine gate_callee (f := 24) rfl ?_); refine goesL_ (some 78) rfl rfl Tryd.func24 (by kernel_rfl) rfl #[.slice Ao59 x390000_3.length co59, .int .i64 t438] rfl (by (try simp only [List.map_toArray, List.map_cons, List.map_nil]); first | done | rfl | (simp only [List.length_drop, List.length_take]; rfl)) ?_; (with_reducible refine (jobshellref25_Has.calls kj56 _ _ x390000_3 t438 true _ ?side1 ?side2 A72.out).mono ?_); (case side1 => repeat (first | exact (V_reads' HO_390000.out).2.2 | (with_reducible refine C_alloc ?_ _) | (with_reducible refine C_drewN ?_ _) | (with_reducible refine C_drew ?_))); (case side2 => exact (V_reads' HO_390000.out).2.1); rintro e w' ⟨rfl, ⟨nd, rfl⟩⟩; refine ⟨_, rfl, ?_⟩; have hcz91_0 : wc.cell? ⟨gb440, 0, none⟩ = some (.slice Ao64 t429.length co64) := (blk_cell BK440.out 0).trans rfl; have hcz91_1 : wc.cell? ⟨gb440, 1, none⟩ = some (.slice Ao67 t432.length co67) := (blk_cell BK440.out 1).trans rfl; have hcz91_2 : wc.cell? ⟨gb440, 2, none⟩ = some (.slice Ao68 t435.length co68) := (blk_cell BK440.out 2).trans rfl; have hfz91_0 := blk_frozen BK440.out 0; have hfz91_1 := blk_frozen BK440.out 1; have hfz91_2 := blk_frozen BK440.out 2) | (go_at_call 24; (with_reducible refine (jobshellref25_Has.calls kj56 _ _ t429 t438 false _ ?side1 ?side2 A74.out).mono ?_); (case side1 => repeat (first | exact (V_reads' HO_441000.out).2.2 | (with_reducible refine C_alloc ?_ _) | (with_reducible refine C_drewN ?_ _) | (with_reducible refine C_drew ?_))); (case side2 => exact (V_reads' HO_441000.out).2.1); rintro e w' ⟨rfl, ⟨nd, rfl⟩⟩) | (go_at_call 24; (with_reducible refine (jobshellref25_Has.calls kj56 _ _ x390000_3 9 t443 _ ?side1 ?side2 A88.out).mono ?_); (case side1 => repeat (first | exact (V_reads' HO_390000.out).2.2 | (with_reducible refine C_alloc ?_ _) | (with_reducible refine C_drewN ?_ _) | (with_reducible refine C_drew ?_))); (case side2 => exact (V_reads' HO_390000.out).2.1); rintro e w' ⟨rfl, ⟨nd, rfl⟩⟩))
                   go_meet
                   case rel => exact ⟨_, (t443), (by first | rfl | (simp; done) | (simp [*]; done) | (generalize ByteArray.toList _ = l_; cases l_ <;> rfl)), H', ⟨by have := HJ2.out; have := HK2.out; have := HK3.out; have := HJ56.out; first | omega | exact Nat.le_refl _⟩, ⟨by (with_reducible repeat (first | apply V_alloc | apply V_drewN | apply V_drew)); exact HO_390000.out⟩, ⟨by (with_reducible repeat (first | apply V_alloc | apply V_drewN | apply V_drew)); exact HO_390001.out⟩, ⟨by (with_reducible repeat (first | apply V_alloc | apply V_drewN | apply V_drew)); exact HO_390002.out⟩, ⟨by (with_reducible repeat (first | apply V_alloc | apply V_drewN | apply V_drew)); exact HO_441000.out⟩, ⟨by (with_reducible repeat (first | apply V_alloc | apply V_drewN | apply V_drew)); exact HO_441001.out⟩, ⟨by (with_reducible repeat (first | apply V_alloc | apply V_drewN | apply V_drew)); exact HO_441002.out⟩, ⟨by (with_reducible repeat (first | refine blk_drewN ?_ _ | refine blk_drew ?_ | refine blk_alloc ?_ _)); exact BK389.out⟩, ⟨by (with_reducible repeat (first | refine blk_drewN ?_ _ | refine blk_drew ?_ | refine blk_alloc ?_ _)); exact BK440.out⟩, ⟨by repeat (first | (with_reducible first | exact HB.out | apply below_alloc | apply pw_below_drewN | apply below_drew1 | refine below_set ?_ GE389.out | refine below_set ?_ GE440.out) | exact HB.out)⟩⟩
                ·rw [if_neg c79] at H
                 have c79b0 : ((t429.length : Int) == (wrap64 ((x390000_3.length : Int) - 1))) = false := beq_eq_false_iff_ne.mpr c79
                 have c79b1 : ((t429.length : Int) != (wrap64 ((x390000_3.length : Int) - 1))) = true := bne_iff_ne.mpr c79
                 (first | rw [c79b0] | (simp only [i64_w, i32_w]; rw [c79b0]) | skip)
                 have H' := Zk H
                 clear H
                 have hnb92 := NB389_440.out
                 have hnc92 := NB440_389.out
                 have hcz93_0 : wc.cell? ⟨gb389, 0, none⟩ = some (.slice Ao59 x390000_3.length co59) := (blk_cell BK389.out 0).trans rfl
                 have hcz93_1 : wc.cell? ⟨gb389, 1, none⟩ = some (.slice Ao60 x390001_3.length co60) := (blk_cell BK389.out 1).trans rfl
                 have hcz93_2 : wc.cell? ⟨gb389, 2, none⟩ = some (.slice Ao61 x390002_3.length co61) := (blk_cell BK389.out 2).trans rfl
                 have hfz93_0 := blk_frozen BK389.out 0
                 have hfz93_1 := blk_frozen BK389.out 1
                 have hfz93_2 := blk_frozen BK389.out 2
                 go_wp2_with (first | ((with_reducible refine gate_callee (f := 24) rfl ?_); refine goesL_ (some 78) rfl rfl Tryd.func24 (by kernel_rfl) rfl #[.slice Ao59 x390000_3.length co59, .int .i64 t438] rfl (by (try simp only [List.map_toArray, List.map_cons, List.map_nil]); first | done | rfl | (simp only [List.length_drop, List.length_take]; rfl)) ?_; (with_reducible refine (jobshellref25_Has.calls kj56 _ _ x390000_3 t438 true _ ?side1 ?side2 A72.out).mono ?_); (case side1 => repeat (first | exact (V_reads' HO_390000.out).2.2 | (with_reducible refine C_alloc ?_ _) | (with_reducible refine C_drewN ?_ _) | (with_reducible refine C_drew ?_))); (case side2 => exact (V_reads' HO_390000.out).2.1); rintro e w' ⟨rfl, ⟨nd, rfl⟩⟩; refine ⟨_, rfl, ?_⟩; have hcz94_0 : wc.cell? ⟨gb440, 0, none⟩ = some (.slice Ao64 t429.length co64) := (blk_cell BK440.out 0).trans rfl; have hcz94_1 : wc.cell? ⟨gb440, 1, none⟩ = some (.slice Ao67 t432.length co67) := (blk_cell BK440.out 1).trans rfl; have hcz94_2 : wc.cell? ⟨gb440, 2, none⟩ = some (.slice Ao68 t435.length co68) := (blk_cell BK440.out 2).trans rfl; have hfz94_0 := blk_frozen BK440.out 0; have hfz94_1 := blk_frozen BK440.out 1; have hfz94_2 := blk_frozen BK440.out 2) | (go_at_call 24; (with_reducible refine (jobshellref25_Has.calls kj56 _ _ t429 t438 false _ ?side1 ?side2 A74.out).mono ?_); (case side1 => repeat (first | exact (V_reads' HO_441000.out).2.2 | (with_reducible refine C_alloc ?_ _) | (with_reducible refine C_drewN ?_ _) | (with_reducible refine C_drew ?_))); (case side2 => exact (V_reads' HO_441000.out).2.1); rintro e w' ⟨rfl, ⟨nd, rfl⟩⟩))
                 go_meet
                 case rel => exact ⟨_, (true), (by first | rfl | (simp; done) | (simp [*]; done) | (generalize ByteArray.toList _ = l_; cases l_ <;> rfl)), H', ⟨by have := HJ2.out; have := HK2.out; have := HK3.out; have := HJ56.out; first | omega | exact Nat.le_refl _⟩, ⟨by (with_reducible repeat (first | apply V_alloc | apply V_drewN | apply V_drew)); exact HO_390000.out⟩, ⟨by (with_reducible repeat (first | apply V_alloc | apply V_drewN | apply V_drew)); exact HO_390001.out⟩, ⟨by (with_reducible repeat (first | apply V_alloc | apply V_drewN | apply V_drew)); exact HO_390002.out⟩, ⟨by (with_reducible repeat (first | apply V_alloc | apply V_drewN | apply V_drew)); exact HO_441000.out⟩, ⟨by (with_reducible repeat (first | apply V_alloc | apply V_drewN | apply V_drew)); exact HO_441001.out⟩, ⟨by (with_reducible repeat (first | apply V_alloc | apply V_drewN | apply V_drew)); exact HO_441002.out⟩, ⟨by (with_reducible repeat (first | refine blk_drewN ?_ _ | refine blk_drew ?_ | refine blk_alloc ?_ _)); exact BK389.out⟩, ⟨by (with_reducible repeat (first | refine blk_drewN ?_ _ | refine blk_drew ?_ | refine blk_alloc ?_ _)); exact BK440.out⟩, ⟨by repeat (first | (with_reducible first | exact HB.out | apply below_alloc | apply pw_below_drewN | apply below_drew1 | refine below_set ?_ GE389.out | refine below_set ?_ GE440.out) | exact HB.out)⟩⟩
              ·replace c73 := Bool.eq_false_iff.mpr c73
               subst c73
               have H1 : (jobshelllaw25_SignalTaken.j4 kj56 (x390000_2.length : Int) x8_3 x9_3 t438 x13_56 true t429 t432 t435) = some r := by rw [if_neg (show ¬ (false = true) by decide)] at H; exact H
               clear H
               have H := H1
               clear H1
               have H' := Zk H
               clear H
               have hnb95 := NB389_440.out
               have hnc95 := NB440_389.out
               have hcz96_0 : wc.cell? ⟨gb389, 0, none⟩ = some (.slice Ao59 x390000_3.length co59) := (blk_cell BK389.out 0).trans rfl
               have hcz96_1 : wc.cell? ⟨gb389, 1, none⟩ = some (.slice Ao60 x390001_3.length co60) := (blk_cell BK389.out 1).trans rfl
               have hcz96_2 : wc.cell? ⟨gb389, 2, none⟩ = some (.slice Ao61 x390002_3.length co61) := (blk_cell BK389.out 2).trans rfl
               have hfz96_0 := blk_frozen BK389.out 0
               have hfz96_1 := blk_frozen BK389.out 1
               have hfz96_2 := blk_frozen BK389.out 2
               go_wp2_with (first | ((with_reducible refine gate_callee (f := 24) rfl ?_); refine goesL_ (some 78) rfl rfl Tryd.func24 (by kernel_rfl) rfl #[.slice Ao59 x390000_3.length co59, .int .i64 t438] rfl (by (try simp only [List.map_toArray, List.map_cons, List.map_nil]); first | done | rfl | (simp only [List.length_drop, List.length_take]; rfl)) ?_; (with_reducible refine (jobshellref25_Has.calls kj56 _ _ x390000_3 t438 false _ ?side1 ?side2 A72.out).mono ?_); (case side1 => repeat (first | exact (V_reads' HO_390000.out).2.2 | (with_reducible refine C_alloc ?_ _) | (with_reducible refine C_drewN ?_ _) | (with_reducible refine C_drew ?_))); (case side2 => exact (V_reads' HO_390000.out).2.1); rintro e w' ⟨rfl, ⟨nd, rfl⟩⟩; refine ⟨_, rfl, ?_⟩))
               go_meet
               case rel => exact ⟨_, (true), (by first | rfl | (simp; done) | (simp [*]; done) | (generalize ByteArray.toList _ = l_; cases l_ <;> rfl)), H', ⟨by have := HJ2.out; have := HK2.out; have := HK3.out; have := HJ56.out; first | omega | exact Nat.le_refl _⟩, ⟨by (with_reducible repeat (first | apply V_alloc | apply V_drewN | apply V_drew)); exact HO_390000.out⟩, ⟨by (with_reducible repeat (first | apply V_alloc | apply V_drewN | apply V_drew)); exact HO_390001.out⟩, ⟨by (with_reducible repeat (first | apply V_alloc | apply V_drewN | apply V_drew)); exact HO_390002.out⟩, ⟨by (with_reducible repeat (first | apply V_alloc | apply V_drewN | apply V_drew)); exact HO_441000.out⟩, ⟨by (with_reducible repeat (first | apply V_alloc | apply V_drewN | apply V_drew)); exact HO_441001.out⟩, ⟨by (with_reducible repeat (first | apply V_alloc | apply V_drewN | apply V_drew)); exact HO_441002.out⟩, ⟨by (with_reducible repeat (first | refine blk_drewN ?_ _ | refine blk_drew ?_ | refine blk_alloc ?_ _)); exact BK389.out⟩, ⟨by (with_reducible repeat (first | refine blk_drewN ?_ _ | refine blk_drew ?_ | refine blk_alloc ?_ _)); exact BK440.out⟩, ⟨by repeat (first | (with_reducible first | exact HB.out | apply below_alloc | apply pw_below_drewN | apply below_drew1 | refine below_set ?_ GE389.out | refine below_set ?_ GE440.out) | exact HB.out)⟩⟩
             case rest =>
              clear HC71
              try clear c1
              try clear c2
              try clear p2
              try clear p3
              try clear q3
              try clear hx3
              try clear c4
              try clear p4
              try clear q4
              try clear hx4
              try clear c5
              try clear c6
              try clear p6
              try clear c7
              try clear c8
              try clear c9
              try clear c19
              try clear c21
              try clear c22
              try clear c22b0
              try clear c23
              try clear c24
              try clear c27
              try clear p39
              try clear q39
              try clear hx39
              try clear p40
              try clear q40
              try clear hx40
              try clear c48
              try clear c52
              try clear c52b0
              try clear c52b1
              try clear c55
              try clear c55b0
              try clear p64
              try clear c65
              try clear c70
              try clear c70b0
              try clear c70b1
              try clear c73
              try clear c75
              try clear c76
              try clear c79
              try clear c79b0
              try clear c79b1
              try clear c80
              try clear c81
              try clear c84
              try clear c84b0
              try clear c85
              try clear c89
              try clear c92
              try clear c95
              try clear hcz49_0
              try clear hcz49_1
              try clear hcz49_2
              try clear hcz50_0
              try clear hcz50_1
              try clear hcz50_2
              try clear hcz53_0
              try clear hcz53_1
              try clear hcz53_2
              try clear hcz58_0
              try clear hcz58_1
              try clear hcz58_2
              try clear hcz66_0
              try clear hcz66_1
              try clear hcz66_2
              try clear hcz77_0
              try clear hcz77_1
              try clear hcz77_2
              try clear hcz78_0
              try clear hcz78_1
              try clear hcz78_2
              try clear hcz82_0
              try clear hcz82_1
              try clear hcz82_2
              try clear hcz83_0
              try clear hcz83_1
              try clear hcz83_2
              try clear hcz86_0
              try clear hcz86_1
              try clear hcz86_2
              try clear hcz87_0
              try clear hcz87_1
              try clear hcz87_2
              try clear hcz90_0
              try clear hcz90_1
              try clear hcz90_2
              try clear hcz91_0
              try clear hcz91_1
              try clear hcz91_2
              try clear hcz93_0
              try clear hcz93_1
              try clear hcz93_2
              try clear hcz94_0
              try clear hcz94_1
              try clear hcz94_2
              try clear hcz96_0
              try clear hcz96_1
              try clear hcz96_2
              try clear hfz49_0
              try clear hfz49_1
              try clear hfz49_2
              try clear hfz50_0
              try clear hfz50_1
              try clear hfz50_2
              try clear hfz53_0
              try clear hfz53_1
              try clear hfz53_2
              try clear hfz58_0
              try clear hfz58_1
              try clear hfz58_2
              try clear hfz66_0
              try clear hfz66_1
              try clear hfz66_2
              try clear hfz77_0
              try clear hfz77_1
              try clear hfz77_2
              try clear hfz78_0
              try clear hfz78_1
              try clear hfz78_2
              try clear hfz82_0
              try clear hfz82_1
              try clear hfz82_2
              try clear hfz83_0
              try clear hfz83_1
              try clear hfz83_2
              try clear hfz86_0
              try clear hfz86_1
              try clear hfz86_2
              try clear hfz87_0
              try clear hfz87_1
              try clear hfz87_2
              try clear hfz90_0
              try clear hfz90_1
              try clear hfz90_2
              try clear hfz91_0
              try clear hfz91_1
              try clear hfz91_2
              try clear hfz93_0
              try clear hfz93_1
              try clear hfz93_2
              try clear hfz94_0
              try clear hfz94_1
              try clear hfz94_2
              try clear hfz96_0
              try clear hfz96_1
              try clear hfz96_2
              try clear hx393_0
              try clear hx404_0
              try clear p2
              try clear p3
              try clear p39
              try clear p393
              try clear p4
              try clear p40
              try clear p404
              try clear p6
              try clear p64
              try clear q3
              try clear q39
              try clear q393
              try clear q4
              try clear q40
              try clear q404
              obtain ⟨kq, x113_70, rfl, HA, HJ70, HO_390000, HO_390001, HO_390002, HO_441000, HO_441001, HO_441002, BK389, BK440, HB⟩ := hcut
              cases kq with
              | zero => exact absurd HA.out (by simp [jobshelllaw25_SignalTaken.j4])
              | succ kj70 =>
               have H := HA.out
               clear HA
               simp only [jobshelllaw25_SignalTaken.j4] at H
               by_cases c97 : x113_70 = true
               ·subst c97
                have H1 : (none) = some r := by rw [if_pos rfl] at H; exact H
                clear H
                have H := H1
                clear H1
                exact absurd H (by simp)
               ·replace c97 := Bool.eq_false_iff.mpr c97
                subst c97
                have H1 : (if x13_56 = true then (jobshelllaw25_SignalTaken.l1 kj70 (x390000_2.length : Int) x8_3 (wrap64 (x9_3 + 1)) t429 t432 t435) else (jobshelllaw25_SignalTaken.l1 kj70 (x390000_2.length : Int) t438 (wrap64 (x9_3 + 1)) t429 t432 t435)) = some r := by rw [if_neg (show ¬ (false = true) by decide)] at H; exact H
                clear H
                have H := H1
                clear H1
                by_cases c98 : x13_56 = true
                ·subst c98
                 have H1 : (jobshelllaw25_SignalTaken.l1 kj70 (x390000_2.length : Int) x8_3 (wrap64 (x9_3 + 1)) t429 t432 t435) = some r := by rw [if_pos rfl] at H; exact H
                 clear H
                 have H := H1
                 clear H1
                 have H' := Zk H
                 clear H
                 have hnb99 := NB440_389.out
                 have hnc99 := NB389_440.out
                 have hcz100_0 : wc.cell? ⟨gb440, 0, none⟩ = some (.slice Ao64 t429.length co64) := (blk_cell BK440.out 0).trans rfl
                 have hcz100_1 : wc.cell? ⟨gb440, 1, none⟩ = some (.slice Ao67 t432.length co67) := (blk_cell BK440.out 1).trans rfl
                 have hcz100_2 : wc.cell? ⟨gb440, 2, none⟩ = some (.slice Ao68 t435.length co68) := (blk_cell BK440.out 2).trans rfl
                 have hfz100_0 := blk_frozen BK440.out 0
                 have hfz100_1 := blk_frozen BK440.out 1
                 have hfz100_2 := blk_frozen BK440.out 2
                 have hcz101_0 : wc.cell? ⟨gb389, 0, none⟩ = some (.slice Ao59 x390000_3.length co59) := (blk_cell BK389.out 0).trans rfl
                 have hcz101_1 : wc.cell? ⟨gb389, 1, none⟩ = some (.slice Ao60 x390001_3.length co60) := (blk_cell BK389.out 1).trans rfl
                 have hcz101_2 : wc.cell? ⟨gb389, 2, none⟩ = some (.slice Ao61 x390002_3.length co61) := (blk_cell BK389.out 2).trans rfl
                 have hfz101_0 := blk_frozen BK389.out 0
                 have hfz101_1 := blk_frozen BK389.out 1
                 have hfz101_2 := blk_frozen BK389.out 2
                 go_wp2_with (first | ((with_reducible refine gate_store (t := 30) (p := 2) rfl ?_); refine store_event (t := 30) (p := 2) (v := ?vo_w102) (w1 := (((wc.setCell ⟨gb389, 0, none⟩ (.slice Ao64 t429.length co64)).setCell ⟨gb389, 1, none⟩ (.slice Ao67 t432.length co67)).setCell ⟨gb389, 2, none⟩ (.slice Ao68 t435.length co68))) ?hg ?ho ?hn ?hr ?_; (case ho => rfl); (case hg => rfl); (case hn => rfl); (case hr => first | (go_simp; done) | (go_simp; rfl)); intro w102 hw; have n0_ : Aside0 (Kd.V (Kd.int .i64) 3 w102 w.heap.size (fun k_ => ((P0_0_ k_ ∨ P0_1_ k_ ∨ P0_2_ k_) ∨ w.heap.size ≤ k_) ∧ k_ ≠ gb389 ∧ k_ ≠ gb440) (.slice Ao59 x390000_3.length co59) x390000_3) := ⟨(by rw [hw]; exact (by (with_reducible repeat (first | apply V_alloc | apply V_drewN | apply V_drew)); exact V_mono (V_far (p := ⟨gb389, 2, none⟩) (V_far (p := ⟨gb389, 1, none⟩) (V_far (p := ⟨gb389, 0, none⟩) (V_mono HO_390000.out (fun k_ hk => (⟨hk, hk.2.1⟩ : _ ∧ k_ ≠ gb389))) (fun _ hk => hk.2) (.slice Ao64 t429.length co64)) (fun _ hk => hk.2) (.slice Ao67 t432.length co67)) (fun _ hk => hk.2) (.slice Ao68 t435.length co68)) (fun _ hk => ⟨hk.1.1, ⟨hk.1.2.1, hk.1.2.2⟩⟩)))⟩; have n1_ : Aside0 (Kd.V (Kd.int .i64) 3 w102 w.heap.size (fun k_ => ((P0_0_ k_ ∨ P0_1_ k_ ∨ P0_2_ k_) ∨ w.heap.size ≤ k_) ∧ k_ ≠ gb389 ∧ k_ ≠ gb440) (.slice Ao60 x390001_3.length co60) x390001_3) := ⟨(by rw [hw]; exact (by (with_reducible repeat (first | apply V_alloc | apply V_drewN | apply V_drew)); exact V_mono (V_far (p := ⟨gb389, 2, none⟩) (V_far (p := ⟨gb389, 1, none⟩) (V_far (p := ⟨gb389, 0, none⟩) (V_mono HO_390001.out (fun k_ hk => (⟨hk, hk.2.1⟩ : _ ∧ k_ ≠ gb389))) (fun _ hk => hk.2) (.slice Ao64 t429.length co64)) (fun _ hk => hk.2) (.slice Ao67 t432.length co67)) (fun _ hk => hk.2) (.slice Ao68 t435.length co68)) (fun _ hk => ⟨hk.1.1, ⟨hk.1.2.1, hk.1.2.2⟩⟩)))⟩; have n2_ : Aside0 (Kd.V (Kd.int .i64) 3 w102 w.heap.size (fun k_ => ((P0_0_ k_ ∨ P0_1_ k_ ∨ P0_2_ k_) ∨ w.heap.size ≤ k_) ∧ k_ ≠ gb389 ∧ k_ ≠ gb440) (.slice Ao61 x390002_3.length co61) x390002_3) := ⟨(by rw [hw]; exact (by (with_reducible repeat (first | apply V_alloc | apply V_drewN | apply V_drew)); exact V_mono (V_far (p := ⟨gb389, 2, none⟩) (V_far (p := ⟨gb389, 1, none⟩) (V_far (p := ⟨gb389, 0, none⟩) (V_mono HO_390002.out (fun k_ hk => (⟨hk, hk.2.1⟩ : _ ∧ k_ ≠ gb389))) (fun _ hk => hk.2) (.slice Ao64 t429.length co64)) (fun _ hk => hk.2) (.slice Ao67 t432.length co67)) (fun _ hk => hk.2) (.slice Ao68 t435.length co68)) (fun _ hk => ⟨hk.1.1, ⟨hk.1.2.1, hk.1.2.2⟩⟩)))⟩; have n3_ : Aside0 (Kd.V (Kd.int .i64) 3 w102 w.heap.size (fun k_ => ((P0_0_ k_ ∨ P0_1_ k_ ∨ P0_2_ k_) ∨ w.heap.size ≤ k_) ∧ k_ ≠ gb389 ∧ k_ ≠ gb440) (.slice Ao64 t429.length co64) t429) := ⟨(by rw [hw]; exact (by (with_reducible repeat (first | apply V_alloc | apply V_drewN | apply V_drew)); exact V_mono (V_far (p := ⟨gb389, 2, none⟩) (V_far (p := ⟨gb389, 1, none⟩) (V_far (p := ⟨gb389, 0, none⟩) (V_mono HO_441000.out (fun k_ hk => (⟨hk, hk.2.1⟩ : _ ∧ k_ ≠ gb389))) (fun _ hk => hk.2) (.slice Ao64 t429.length co64)) (fun _ hk => hk.2) (.slice Ao67 t432.length co67)) (fun _ hk => hk.2) (.slice Ao68 t435.length co68)) (fun _ hk => ⟨hk.1.1, ⟨hk.1.2.1, hk.1.2.2⟩⟩)))⟩; have n4_ : Aside0 (Kd.V (Kd.int .i64) 3 w102 w.heap.size (fun k_ => ((P0_0_ k_ ∨ P0_1_ k_ ∨ P0_2_ k_) ∨ w.heap.size ≤ k_) ∧ k_ ≠ gb389 ∧ k_ ≠ gb440) (.slice Ao67 t432.length co67) t432) := ⟨(by rw [hw]; exact (by (with_reducible repeat (first | apply V_alloc | apply V_drewN | apply V_drew)); exact V_mono (V_far (p := ⟨gb389, 2, none⟩) (V_far (p := ⟨gb389, 1, none⟩) (V_far (p := ⟨gb389, 0, none⟩) (V_mono HO_441001.out (fun k_ hk => (⟨hk, hk.2.1⟩ : _ ∧ k_ ≠ gb389))) (fun _ hk => hk.2) (.slice Ao64 t429.length co64)) (fun _ hk => hk.2) (.slice Ao67 t432.length co67)) (fun _ hk => hk.2) (.slice Ao68 t435.length co68)) (fun _ hk => ⟨hk.1.1, ⟨hk.1.2.1, hk.1.2.2⟩⟩)))⟩; have n5_ : Aside0 (Kd.V (Kd.int .i64) 3 w102 w.heap.size (fun k_ => ((P0_0_ k_ ∨ P0_1_ k_ ∨ P0_2_ k_) ∨ w.heap.size ≤ k_) ∧ k_ ≠ gb389 ∧ k_ ≠ gb440) (.slice Ao68 t435.length co68) t435) := ⟨(by rw [hw]; exact (by (with_reducible repeat (first | apply V_alloc | apply V_drewN | apply V_drew)); exact V_mono (V_far (p := ⟨gb389, 2, none⟩) (V_far (p := ⟨gb389, 1, none⟩) (V_far (p := ⟨gb389, 0, none⟩) (V_mono HO_441002.out (fun k_ hk => (⟨hk, hk.2.1⟩ : _ ∧ k_ ≠ gb389))) (fun _ hk => hk.2) (.slice Ao64 t429.length co64)) (fun _ hk => hk.2) (.slice Ao67 t432.length co67)) (fun _ hk => hk.2) (.slice Ao68 t435.length co68)) (fun _ hk => ⟨hk.1.1, ⟨hk.1.2.1, hk.1.2.2⟩⟩)))⟩; have n6_ : Aside0 (w102.heap[gb389]? = some (.cells #[.slice Ao64 t429.length co64, .slice Ao67 t432.length co67, .slice Ao68 t435.length co68] 30 (0, 0))) := ⟨(by rw [hw]; exact (by (with_reducible repeat (first | refine blk_drewN ?_ _ | refine blk_drew ?_ | refine blk_alloc ?_ _)); refine blk_put (cs := #[.slice Ao64 t429.length co64, .slice Ao67 t432.length co67, .slice Ao61 x390002_3.length co61]) ?_ 2 _ rfl; (with_reducible repeat (first | refine blk_drewN ?_ _ | refine blk_drew ?_ | refine blk_alloc ?_ _)); refine blk_put (cs := #[.slice Ao64 t429.length co64, .slice Ao60 x390001_3.length co60, .slice Ao61 x390002_3.length co61]) ?_ 1 _ rfl; (with_reducible repeat (first | refine blk_drewN ?_ _ | refine blk_drew ?_ | refine blk_alloc ?_ _)); refine blk_put (cs := #[.slice Ao59 x390000_3.length co59, .slice Ao60 x390001_3.length co60, .slice Ao61 x390002_3.length co61]) ?_ 0 _ rfl; (with_reducible repeat (first | refine blk_drewN ?_ _ | refine blk_drew ?_ | refine blk_alloc ?_ _)); exact BK389.out))⟩; have n7_ : Aside0 (w102.heap[gb440]? = some (.cells #[.slice Ao64 t429.length co64, .slice Ao67 t432.length co67, .slice Ao68 t435.length co68] 30 (0, 0))) := ⟨(by rw [hw]; exact (by (with_reducible repeat (first | refine blk_drewN ?_ _ | refine blk_drew ?_ | refine blk_alloc ?_ _)); refine blk_far ?_ NB440_389.out _; (with_reducible repeat (first | refine blk_drewN ?_ _ | refine blk_drew ?_ | refine blk_alloc ?_ _)); refine blk_far ?_ NB440_389.out _; (with_reducible repeat (first | refine blk_drewN ?_ _ | refine blk_drew ?_ | refine blk_alloc ?_ _)); refine blk_far ?_ NB440_389.out _; (with_reducible repeat (first | refine blk_drewN ?_ _ | refine blk_drew ?_ | refine blk_alloc ?_ _)); exact BK440.out))⟩; have n8_ : Aside0 (Below w.heap.size w w102) := ⟨(by rw [hw]; exact (by repeat (first | (with_reducible first | exact HB.out | apply below_alloc | apply pw_below_drewN | apply below_drew1 | refine below_set ?_ GE389.out | refine below_set ?_ GE440.out) | exact HB.out)))⟩; clear hw; clear HO_390000; clear HO_390001; clear HO_390002; clear HO_441000; clear HO_441001; clear HO_441002; clear BK389; clear BK440; clear HB; have HO_390000 := n0_; have HO_390001 := n1_; have HO_390002 := n2_; have HO_441000 := n3_; have HO_441001 := n4_; have HO_441002 := n5_; have BK389 := n6_; have BK440 := n7_; have HB := n8_; clear n0_ n1_ n2_ n3_ n4_ n5_ n6_ n7_ n8_))
                 go_roundg kj70
                 case measure => have := HJ2.out; have := HK2.out; have := HK3.out; have := HJ56.out; have := HJ70.out; omega
                 case rel => exact ⟨(x8_3), (wrap64 (x9_3 + 1)), (t429), (t432), (t435), (.slice Ao64 t429.length co64), (.slice Ao67 t432.length co67), (.slice Ao68 t435.length co68), (by first | rfl | (simp; done) | (simp [*]; done) | (generalize ByteArray.toList _ = l_; cases l_ <;> rfl)), (by first | rfl | (simp; done) | (simp [*]; done) | (generalize ByteArray.toList _ = l_; cases l_ <;> rfl)), H', ⟨by have := HJ2.out; have := HK2.out; have := HK3.out; have := HJ56.out; have := HJ70.out; omega⟩, ⟨by (with_reducible repeat (first | apply V_alloc | apply V_drewN | apply V_drew)); exact V_mono HO_441000.out (fun _ hk => ⟨hk.1, hk.2.1⟩)⟩, ⟨by (with_reducible repeat (first | apply V_alloc | apply V_drewN | apply V_drew)); exact V_mono HO_441001.out (fun _ hk => ⟨hk.1, hk.2.1⟩)⟩, ⟨by (with_reducible repeat (first | apply V_alloc | apply V_drewN | apply V_drew)); exact V_mono HO_441002.out (fun _ hk => ⟨hk.1, hk.2.1⟩)⟩, ⟨by (with_reducible repeat (first | refine blk_drewN ?_ _ | refine blk_drew ?_ | refine blk_alloc ?_ _)); exact BK389.out⟩, ⟨by repeat (first | (with_reducible first | exact HB.out | apply below_alloc | apply pw_below_drewN | apply below_drew1 | refine below_set ?_ GE389.out | refine below_set ?_ GE440.out) | exact HB.out)⟩⟩
                ·replace c98 := Bool.eq_false_iff.mpr c98
                 subst c98
                 have H1 : (jobshelllaw25_SignalTaken.l1 kj70 (x390000_2.length : Int) t438 (wrap64 (x9_3 + 1)) t429 t432 t435) = some r := by rw [if_neg (show ¬ (false = true) by decide)] at H; exact H
                 clear H
                 have H := H1
                 clear H1
                 have H' := Zk H
                 clear H
                 have hnb103 := NB440_389.out
                 have hnc103 := NB389_440.out
                 have hcz104_0 : wc.cell? ⟨gb440, 0, none⟩ = some (.slice Ao64 t429.length co64) := (blk_cell BK440.out 0).trans rfl
                 have hcz104_1 : wc.cell? ⟨gb440, 1, none⟩ = some (.slice Ao67 t432.length co67) := (blk_cell BK440.out 1).trans rfl
                 have hcz104_2 : wc.cell? ⟨gb440, 2, none⟩ = some (.slice Ao68 t435.length co68) := (blk_cell BK440.out 2).trans rfl
                 have hfz104_0 := blk_frozen BK440.out 0
                 have hfz104_1 := blk_frozen BK440.out 1
                 have hfz104_2 := blk_frozen BK440.out 2
                 have hcz105_0 : wc.cell? ⟨gb389, 0, none⟩ = some (.slice Ao59 x390000_3.length co59) := (blk_cell BK389.out 0).trans rfl
                 have hcz105_1 : wc.cell? ⟨gb389, 1, none⟩ = some (.slice Ao60 x390001_3.length co60) := (blk_cell BK389.out 1).trans rfl
                 have hcz105_2 : wc.cell? ⟨gb389, 2, none⟩ = some (.slice Ao61 x390002_3.length co61) := (blk_cell BK389.out 2).trans rfl
                 have hfz105_0 := blk_frozen BK389.out 0
                 have hfz105_1 := blk_frozen BK389.out 1
                 have hfz105_2 := blk_frozen BK389.out 2
                 go_wp2_with (first | ((with_reducible refine gate_store (t := 30) (p := 2) rfl ?_); refine store_event (t := 30) (p := 2) (v := ?vo_w106) (w1 := (((wc.setCell ⟨gb389, 0, none⟩ (.slice Ao64 t429.length co64)).setCell ⟨gb389, 1, none⟩ (.slice Ao67 t432.length co67)).setCell ⟨gb389, 2, none⟩ (.slice Ao68 t435.length co68))) ?hg ?ho ?hn ?hr ?_; (case ho => rfl); (case hg => rfl); (case hn => rfl); (case hr => first | (go_simp; done) | (go_simp; rfl)); intro w106 hw; have n0_ : Aside0 (Kd.V (Kd.int .i64) 3 w106 w.heap.size (fun k_ => ((P0_0_ k_ ∨ P0_1_ k_ ∨ P0_2_ k_) ∨ w.heap.size ≤ k_) ∧ k_ ≠ gb389 ∧ k_ ≠ gb440) (.slice Ao59 x390000_3.length co59) x390000_3) := ⟨(by rw [hw]; exact (by (with_reducible repeat (first | apply V_alloc | apply V_drewN | apply V_drew)); exact V_mono (V_far (p := ⟨gb389, 2, none⟩) (V_far (p := ⟨gb389, 1, none⟩) (V_far (p := ⟨gb389, 0, none⟩) (V_mono HO_390000.out (fun k_ hk => (⟨hk, hk.2.1⟩ : _ ∧ k_ ≠ gb389))) (fun _ hk => hk.2) (.slice Ao64 t429.length co64)) (fun _ hk => hk.2) (.slice Ao67 t432.length co67)) (fun _ hk => hk.2) (.slice Ao68 t435.length co68)) (fun _ hk => ⟨hk.1.1, ⟨hk.1.2.1, hk.1.2.2⟩⟩)))⟩; have n1_ : Aside0 (Kd.V (Kd.int .i64) 3 w106 w.heap.size (fun k_ => ((P0_0_ k_ ∨ P0_1_ k_ ∨ P0_2_ k_) ∨ w.heap.size ≤ k_) ∧ k_ ≠ gb389 ∧ k_ ≠ gb440) (.slice Ao60 x390001_3.length co60) x390001_3) := ⟨(by rw [hw]; exact (by (with_reducible repeat (first | apply V_alloc | apply V_drewN | apply V_drew)); exact V_mono (V_far (p := ⟨gb389, 2, none⟩) (V_far (p := ⟨gb389, 1, none⟩) (V_far (p := ⟨gb389, 0, none⟩) (V_mono HO_390001.out (fun k_ hk => (⟨hk, hk.2.1⟩ : _ ∧ k_ ≠ gb389))) (fun _ hk => hk.2) (.slice Ao64 t429.length co64)) (fun _ hk => hk.2) (.slice Ao67 t432.length co67)) (fun _ hk => hk.2) (.slice Ao68 t435.length co68)) (fun _ hk => ⟨hk.1.1, ⟨hk.1.2.1, hk.1.2.2⟩⟩)))⟩; have n2_ : Aside0 (Kd.V (Kd.int .i64) 3 w106 w.heap.size (fun k_ => ((P0_0_ k_ ∨ P0_1_ k_ ∨ P0_2_ k_) ∨ w.heap.size ≤ k_) ∧ k_ ≠ gb389 ∧ k_ ≠ gb440) (.slice Ao61 x390002_3.length co61) x390002_3) := ⟨(by rw [hw]; exact (by (with_reducible repeat (first | apply V_alloc | apply V_drewN | apply V_drew)); exact V_mono (V_far (p := ⟨gb389, 2, none⟩) (V_far (p := ⟨gb389, 1, none⟩) (V_far (p := ⟨gb389, 0, none⟩) (V_mono HO_390002.out (fun k_ hk => (⟨hk, hk.2.1⟩ : _ ∧ k_ ≠ gb389))) (fun _ hk => hk.2) (.slice Ao64 t429.length co64)) (fun _ hk => hk.2) (.slice Ao67 t432.length co67)) (fun _ hk => hk.2) (.slice Ao68 t435.length co68)) (fun _ hk => ⟨hk.1.1, ⟨hk.1.2.1, hk.1.2.2⟩⟩)))⟩; have n3_ : Aside0 (Kd.V (Kd.int .i64) 3 w106 w.heap.size (fun k_ => ((P0_0_ k_ ∨ P0_1_ k_ ∨ P0_2_ k_) ∨ w.heap.size ≤ k_) ∧ k_ ≠ gb389 ∧ k_ ≠ gb440) (.slice Ao64 t429.length co64) t429) := ⟨(by rw [hw]; exact (by (with_reducible repeat (first | apply V_alloc | apply V_drewN | apply V_drew)); exact V_mono (V_far (p := ⟨gb389, 2, none⟩) (V_far (p := ⟨gb389, 1, none⟩) (V_far (p := ⟨gb389, 0, none⟩) (V_mono HO_441000.out (fun k_ hk => (⟨hk, hk.2.1⟩ : _ ∧ k_ ≠ gb389))) (fun _ hk => hk.2) (.slice Ao64 t429.length co64)) (fun _ hk => hk.2) (.slice Ao67 t432.length co67)) (fun _ hk => hk.2) (.slice Ao68 t435.length co68)) (fun _ hk => ⟨hk.1.1, ⟨hk.1.2.1, hk.1.2.2⟩⟩)))⟩; have n4_ : Aside0 (Kd.V (Kd.int .i64) 3 w106 w.heap.size (fun k_ => ((P0_0_ k_ ∨ P0_1_ k_ ∨ P0_2_ k_) ∨ w.heap.size ≤ k_) ∧ k_ ≠ gb389 ∧ k_ ≠ gb440) (.slice Ao67 t432.length co67) t432) := ⟨(by rw [hw]; exact (by (with_reducible repeat (first | apply V_alloc | apply V_drewN | apply V_drew)); exact V_mono (V_far (p := ⟨gb389, 2, none⟩) (V_far (p := ⟨gb389, 1, none⟩) (V_far (p := ⟨gb389, 0, none⟩) (V_mono HO_441001.out (fun k_ hk => (⟨hk, hk.2.1⟩ : _ ∧ k_ ≠ gb389))) (fun _ hk => hk.2) (.slice Ao64 t429.length co64)) (fun _ hk => hk.2) (.slice Ao67 t432.length co67)) (fun _ hk => hk.2) (.slice Ao68 t435.length co68)) (fun _ hk => ⟨hk.1.1, ⟨hk.1.2.1, hk.1.2.2⟩⟩)))⟩; have n5_ : Aside0 (Kd.V (Kd.int .i64) 3 w106 w.heap.size (fun k_ => ((P0_0_ k_ ∨ P0_1_ k_ ∨ P0_2_ k_) ∨ w.heap.size ≤ k_) ∧ k_ ≠ gb389 ∧ k_ ≠ gb440) (.slice Ao68 t435.length co68) t435) := ⟨(by rw [hw]; exact (by (with_reducible repeat (first | apply V_alloc | apply V_drewN | apply V_drew)); exact V_mono (V_far (p := ⟨gb389, 2, none⟩) (V_far (p := ⟨gb389, 1, none⟩) (V_far (p := ⟨gb389, 0, none⟩) (V_mono HO_441002.out (fun k_ hk => (⟨hk, hk.2.1⟩ : _ ∧ k_ ≠ gb389))) (fun _ hk => hk.2) (.slice Ao64 t429.length co64)) (fun _ hk => hk.2) (.slice Ao67 t432.length co67)) (fun _ hk => hk.2) (.slice Ao68 t435.length co68)) (fun _ hk => ⟨hk.1.1, ⟨hk.1.2.1, hk.1.2.2⟩⟩)))⟩; have n6_ : Aside0 (w106.heap[gb389]? = some (.cells #[.slice Ao64 t429.length co64, .slice Ao67 t432.length co67, .slice Ao68 t435.length co68] 30 (0, 0))) := ⟨(by rw [hw]; exact (by (with_reducible repeat (first | refine blk_drewN ?_ _ | refine blk_drew ?_ | refine blk_alloc ?_ _)); refine blk_put (cs := #[.slice Ao64 t429.length co64, .slice Ao67 t432.length co67, .slice Ao61 x390002_3.length co61]) ?_ 2 _ rfl; (with_reducible repeat (first | refine blk_drewN ?_ _ | refine blk_drew ?_ | refine blk_alloc ?_ _)); refine blk_put (cs := #[.slice Ao64 t429.length co64, .slice Ao60 x390001_3.length co60, .slice Ao61 x390002_3.length co61]) ?_ 1 _ rfl; (with_reducible repeat (first | refine blk_drewN ?_ _ | refine blk_drew ?_ | refine blk_alloc ?_ _)); refine blk_put (cs := #[.slice Ao59 x390000_3.length co59, .slice Ao60 x390001_3.length co60, .slice Ao61 x390002_3.length co61]) ?_ 0 _ rfl; (with_reducible repeat (first | refine blk_drewN ?_ _ | refine blk_drew ?_ | refine blk_alloc ?_ _)); exact BK389.out))⟩; have n7_ : Aside0 (w106.heap[gb440]? = some (.cells #[.slice Ao64 t429.length co64, .slice Ao67 t432.length co67, .slice Ao68 t435.length co68] 30 (0, 0))) := ⟨(by rw [hw]; exact (by (with_reducible repeat (first | refine blk_drewN ?_ _ | refine blk_drew ?_ | refine blk_alloc ?_ _)); refine blk_far ?_ NB440_389.out _; (with_reducible repeat (first | refine blk_drewN ?_ _ | refine blk_drew ?_ | refine blk_alloc ?_ _)); refine blk_far ?_ NB440_389.out _; (with_reducible repeat (first | refine blk_drewN ?_ _ | refine blk_drew ?_ | refine blk_alloc ?_ _)); refine blk_far ?_ NB440_389.out _; (with_reducible repeat (first | refine blk_drewN ?_ _ | refine blk_drew ?_ | refine blk_alloc ?_ _)); exact BK440.out))⟩; have n8_ : Aside0 (Below w.heap.size w w106) := ⟨(by rw [hw]; exact (by repeat (first | (with_reducible first | exact HB.out | apply below_alloc | apply pw_below_drewN | apply below_drew1 | refine below_set ?_ GE389.out | refine below_set ?_ GE440.out) | exact HB.out)))⟩; clear hw; clear HO_390000; clear HO_390001; clear HO_390002; clear HO_441000; clear HO_441001; clear HO_441002; clear BK389; clear BK440; clear HB; have HO_390000 := n0_; have HO_390001 := n1_; have HO_390002 := n2_; have HO_441000 := n3_; have HO_441001 := n4_; have HO_441002 := n5_; have BK389 := n6_; have BK440 := n7_; have HB := n8_; clear n0_ n1_ n2_ n3_ n4_ n5_ n6_ n7_ n8_))
                 go_roundg kj70
                 case measure => have := HJ2.out; have := HK2.out; have := HK3.out; have := HJ56.out; have := HJ70.out; omega
                 case rel => exact ⟨(t438), (wrap64 (x9_3 + 1)), (t429), (t432), (t435), (.slice Ao64 t429.length co64), (.slice Ao67 t432.length co67), (.slice Ao68 t435.length co68), (by first | rfl | (simp; done) | (simp [*]; done) | (generalize ByteArray.toList _ = l_; cases l_ <;> rfl)), (by first | rfl | (simp; done) | (simp [*]; done) | (generalize ByteArray.toList _ = l_; cases l_ <;> rfl)), H', ⟨by have := HJ2.out; have := HK2.out; have := HK3.out; have := HJ56.out; have := HJ70.out; omega⟩, ⟨by (with_reducible repeat (first | apply V_alloc | apply V_drewN | apply V_drew)); exact V_mono HO_441000.out (fun _ hk => ⟨hk.1, hk.2.1⟩)⟩, ⟨by (with_reducible repeat (first | apply V_alloc | apply V_drewN | apply V_drew)); exact V_mono HO_441001.out (fun _ hk => ⟨hk.1, hk.2.1⟩)⟩, ⟨by (with_reducible repeat (first | apply V_alloc | apply V_drewN | apply V_drew)); exact V_mono HO_441002.out (fun _ hk => ⟨hk.1, hk.2.1⟩)⟩, ⟨by (with_reducible repeat (first | refine blk_drewN ?_ _ | refine blk_drew ?_ | refine blk_alloc ?_ _)); exact BK389.out⟩, ⟨by repeat (first | (with_reducible first | exact HB.out | apply below_alloc | apply pw_below_drewN | apply below_drew1 | refine below_set ?_ GE389.out | refine below_set ?_ GE440.out) | exact HB.out)⟩⟩
          ·rw [if_neg c55] at H
           have c55b0 : decide (x9_3 < (x390000_2.length : Int)) = false := decide_eq_false c55
           clear c55
           replace H := Option.bind_eq_some_iff.mp H
           obtain ⟨⟨t415, t418, t421, t424, t425⟩, A1070, H⟩ := H
           replace H : (if t424 = 0 then (if t425 = 0 then ((jobshellref25_Same.f k3 x390000_3 x390001_3 x390002_3 t415 t418 t421).bind fun t427 => (if t427 = true then ((jobshelllaw25_awake.f k3).bind fun t428 => (some t428)) else (none))) else (none)) else (none)) = some r := H
           have A107 := Zk A1070
           clear A1070
           by_cases c108 : t424 = 0
           ·rw [if_pos c108] at H
            have c108b0 : (t424 == 0) = true := beq_iff_eq.mpr c108
            have c108b1 : (t424 != 0) = false := bne_eq_false_iff_eq.mpr c108
            clear c108
            by_cases c109 : t425 = 0
            ·rw [if_pos c109] at H
             have c109b0 : (t425 == 0) = true := beq_iff_eq.mpr c109
             have c109b1 : (t425 != 0) = false := bne_eq_false_iff_eq.mpr c109
             clear c109
             replace H := Option.bind_eq_some_iff.mp H
             obtain ⟨t427, A1100, H⟩ := H
             replace H : (if t427 = true then ((jobshelllaw25_awake.f k3).bind fun t428 => (some t428)) else (none)) = some r := H
             have A110 := Zk A1100
             clear A1100
             by_cases c111 : t427 = true
             ·subst c111
              have H1 : ((jobshelllaw25_awake.f k3).bind fun t428 => (some t428)) = some r := by rw [if_pos rfl] at H; exact H
              clear H
              have H := H1
              clear H1
              replace H := Option.bind_eq_some_iff.mp H
              obtain ⟨t428, A1120, H⟩ := H
              replace H : (some t428) = some r := H
              have A112 := Zk A1120
              clear A1120
              obtain rfl := Option.some.inj H
              have hcz113_0 : wr.cell? ⟨gb389, 0, none⟩ = some (u390000) := (blk_cell BK389.out 0).trans rfl
              have hcz113_1 : wr.cell? ⟨gb389, 1, none⟩ = some (u390001) := (blk_cell BK389.out 1).trans rfl
              have hcz113_2 : wr.cell? ⟨gb389, 2, none⟩ = some (u390002) := (blk_cell BK389.out 2).trans rfl
              have hfz113_0 := blk_frozen BK389.out 0
              have hfz113_1 := blk_frozen BK389.out 1
              have hfz113_2 := blk_frozen BK389.out 2
              obtain ⟨Ao114, co114, eo114⟩ := V_slice HO_390000.out
              subst eo114
              obtain ⟨Ao115, co115, eo115⟩ := V_slice HO_390001.out
              subst eo115
              obtain ⟨Ao116, co116, eo116⟩ := V_slice HO_390002.out
              subst eo116
              go_wp2_with (first | ((with_reducible refine gate_callee (f := 19) rfl ?_); refine goesL_ (some 120) rfl rfl Tryd.func19 (by kernel_rfl) rfl #[.agg #[.slice Ao114 x390000_3.length co114, .slice Ao115 x390001_3.length co115, .slice Ao116 x390002_3.length co116]] rfl (by (try simp only [List.map_toArray, List.map_cons, List.map_nil]); first | done | rfl | (simp only [List.length_drop, List.length_take]; rfl)) ?_; (with_reducible refine (signal_Next.calls k3 (fun k_ => (((P0_0_ k_ ∨ P0_1_ k_ ∨ P0_2_ k_) ∨ w.heap.size ≤ k_) ∧ k_ ≠ gb389)) _ _ x390000_3 (fun k_ => (((P0_0_ k_ ∨ P0_1_ k_ ∨ P0_2_ k_) ∨ w.heap.size ≤ k_) ∧ k_ ≠ gb389)) _ _ x390001_3 (fun k_ => (((P0_0_ k_ ∨ P0_1_ k_ ∨ P0_2_ k_) ∨ w.heap.size ≤ k_) ∧ k_ ≠ gb389)) _ _ x390002_3 t415 t418 t421 t424 t425 _ ?side1 ?side2 ?side3 A107.out).mono ?_); (case side1 => exact HO_390000.out); (case side2 => exact HO_390001.out); (case side3 => exact HO_390002.out); rintro e w117 ⟨v416, v419, v422, rfl, ho0, ho1, ho2, hb⟩; refine ⟨_, rfl, ?_⟩; have n0_ := Zk (V_below (by (with_reducible repeat (first | apply V_alloc | apply V_drewN | apply V_drew)); exact HO_390000.out) hb); have n1_ := Zk (V_below (by (with_reducible repeat (first | apply V_alloc | apply V_drewN | apply V_drew)); exact HO_390001.out) hb); have n2_ := Zk (V_below (by (with_reducible repeat (first | apply V_alloc | apply V_drewN | apply V_drew)); exact HO_390002.out) hb); have n3_ := Zk (V_lower (V_mono (ok' := fun k_ => ((P0_0_ k_ ∨ P0_1_ k_ ∨ P0_2_ k_) ∨ w.heap.size ≤ k_) ∧ k_ ≠ gb389) ho0 (fun k_ hk_ => ⟨Or.elim hk_ (fun hs_ => Or.elim hs_ (fun hs_ => hs_.1) (fun hs_ => Or.elim hs_ (fun hs_ => hs_.1) (fun hs_ => hs_.1))) (fun hn_ => (.inr (Nat.le_trans (below_size (by repeat (first | (with_reducible first | exact HB.out | apply below_alloc | apply pw_below_drewN | apply below_drew1 | refine below_set ?_ GE389.out) | exact HB.out))) hn_))), Or.elim hk_ (fun hs_ => Or.elim hs_ (fun hs_ => hs_.2) (fun hs_ => Or.elim hs_ (fun hs_ => hs_.2) (fun hs_ => hs_.2))) (fun hn_ => (Kd.freshB (g := gb389) (o := .cells #[.slice Ao114 x390000_3.length co114, .slice Ao115 x390001_3.length co115, .slice Ao116 x390002_3.length co116] 30 (0, 0)) (by (with_reducible repeat (first | refine blk_drewN ?_ _ | refine blk_drew ?_ | refine blk_alloc ?_ _)); exact BK389.out) k_ hn_))⟩)) (below_size (by repeat (first | (with_reducible first | exact HB.out | apply below_alloc | apply pw_below_drewN | apply below_drew1 | refine below_set ?_ GE389.out) | exact HB.out)))); have n4_ := Zk (V_lower (V_mono (ok' := fun k_ => ((P0_0_ k_ ∨ P0_1_ k_ ∨ P0_2_ k_) ∨ w.heap.size ≤ k_) ∧ k_ ≠ gb389) ho1 (fun k_ hk_ => ⟨Or.elim hk_ (fun hs_ => Or.elim hs_ (fun hs_ => hs_.1) (fun hs_ => Or.elim hs_ (fun hs_ => hs_.1) (fun hs_ => hs_.1))) (fun hn_ => (.inr (Nat.le_trans (below_size (by repeat (first | (with_reducible first | exact HB.out | apply below_alloc | apply pw_below_drewN | apply below_drew1 | refine below_set ?_ GE389.out) | exact HB.out))) hn_))), Or.elim hk_ (fun hs_ => Or.elim hs_ (fun hs_ => hs_.2) (fun hs_ => Or.elim hs_ (fun hs_ => hs_.2) (fun hs_ => hs_.2))) (fun hn_ => (Kd.freshB (g := gb389) (o := .cells #[.slice Ao114 x390000_3.length co114, .slice Ao115 x390001_3.length co115, .slice Ao116 x390002_3.length co116] 30 (0, 0)) (by (with_reducible repeat (first | refine blk_drewN ?_ _ | refine blk_drew ?_ | refine blk_alloc ?_ _)); exact BK389.out) k_ hn_))⟩)) (below_size (by repeat (first | (with_reducible first | exact HB.out | apply below_alloc | apply pw_below_drewN | apply below_drew1 | refine below_set ?_ GE389.out) | exact HB.out)))); have n5_ := Zk (V_lower (V_mono (ok' := fun k_ => ((P0_0_ k_ ∨ P0_1_ k_ ∨ P0_2_ k_) ∨ w.heap.size ≤ k_) ∧ k_ ≠ gb389) ho2 (fun k_ hk_ => ⟨Or.elim hk_ (fun hs_ => Or.elim hs_ (fun hs_ => hs_.1) (fun hs_ => Or.elim hs_ (fun hs_ => hs_.1) (fun hs_ => hs_.1))) (fun hn_ => (.inr (Nat.le_trans (below_size (by repeat (first | (with_reducible first | exact HB.out | apply below_alloc | apply pw_below_drewN | apply below_drew1 | refine below_set ?_ GE389.out) | exact HB.out))) hn_))), Or.elim hk_ (fun hs_ => Or.elim hs_ (fun hs_ => hs_.2) (fun hs_ => Or.elim hs_ (fun hs_ => hs_.2) (fun hs_ => hs_.2))) (fun hn_ => (Kd.freshB (g := gb389) (o := .cells #[.slice Ao114 x390000_3.length co114, .slice Ao115 x390001_3.length co115, .slice Ao116 x390002_3.length co116] 30 (0, 0)) (by (with_reducible repeat (first | refine blk_drewN ?_ _ | refine blk_drew ?_ | refine blk_alloc ?_ _)); exact BK389.out) k_ hn_))⟩)) (below_size (by repeat (first | (with_reducible first | exact HB.out | apply below_alloc | apply pw_below_drewN | apply below_drew1 | refine below_set ?_ GE389.out) | exact HB.out)))); have n6_ := Zk (blk_below (g := gb389) (o := .cells #[.slice Ao114 x390000_3.length co114, .slice Ao115 x390001_3.length co115, .slice Ao116 x390002_3.length co116] 30 (0, 0)) (by (with_reducible repeat (first | refine blk_drewN ?_ _ | refine blk_drew ?_ | refine blk_alloc ?_ _)); exact BK389.out) hb); have n7_ := Zk (below_step (by repeat (first | (with_reducible first | exact HB.out | apply below_alloc | apply pw_below_drewN | apply below_drew1 | refine below_set ?_ GE389.out) | exact HB.out)) hb); clear HO_390000; clear HO_390001; clear HO_390002; clear BK389; clear HB; have HO_390000 := n0_; have HO_390001 := n1_; have HO_390002 := n2_; have HO417 := n3_; have HO420 := n4_; have HO423 := n5_; have BK389 := n6_; have HB := n7_; clear n0_ n1_ n2_ n3_ n4_ n5_ n6_ n7_; (try clear hb); (try clear hb2); (try clear hk); (try clear hi); (try clear ho0); (try clear ho1); (try clear ho2)) | ((with_reducible refine gate_dst (N := 14) rfl ?_); (try (refine gate_guard (by rfl) ?_; dsimp only)); refine box_event ?hg (N := 14) ?hd (cs := #[.slice none 0 0, .slice none 0 0, .slice none 0 0]) (t := 30) ?hr ?_; (case hd => rfl); (case hg => rfl); (case hr => first | (go_simp; done) | (go_simp; rfl)); intro gb426 hg w118 hbox hb; have n0_ := Zk (V_below (V_elderB (by (with_reducible repeat (first | apply V_alloc | apply V_drewN | apply V_drew)); exact HO_390000.out) gb426 (Nat.le_of_eq hg.symm)) hb); have n1_ := Zk (V_below (V_elderB (by (with_reducible repeat (first | apply V_alloc | apply V_drewN | apply V_drew)); exact HO_390001.out) gb426 (Nat.le_of_eq hg.symm)) hb); have n2_ := Zk (V_below (V_elderB (by (with_reducible repeat (first | apply V_alloc | apply V_drewN | apply V_drew)); exact HO_390002.out) gb426 (Nat.le_of_eq hg.symm)) hb); have n3_ := Zk (V_below (V_elderB (by (with_reducible repeat (first | apply V_alloc | apply V_drewN | apply V_drew)); exact HO417.out) gb426 (Nat.le_of_eq hg.symm)) hb); have n4_ := Zk (V_below (V_elderB (by (with_reducible repeat (first | apply V_alloc | apply V_drewN | apply V_drew)); exact HO420.out) gb426 (Nat.le_of_eq hg.symm)) hb); have n5_ := Zk (V_below (V_elderB (by (with_reducible repeat (first | apply V_alloc | apply V_drewN | apply V_drew)); exact HO423.out) gb426 (Nat.le_of_eq hg.symm)) hb); have n6_ := Zk (blk_below (g := gb389) (o := .cells #[.slice Ao114 x390000_3.length co114, .slice Ao115 x390001_3.length co115, .slice Ao116 x390002_3.length co116] 30 (0, 0)) (by (with_reducible repeat (first | refine blk_drewN ?_ _ | refine blk_drew ?_ | refine blk_alloc ?_ _)); exact BK389.out) hb); have n7_ := Zk (below_step (by repeat (first | (with_reducible first | exact HB.out | apply below_alloc | apply pw_below_drewN | apply below_drew1 | refine below_set ?_ GE389.out) | exact HB.out)) hb); have n8_ := Zk (hbox); have n9_ := Zk ((by rw [hg]; exact (below_size (by repeat (first | (with_reducible first | exact HB.out | apply below_alloc | apply pw_below_drewN | apply below_drew1 | refine below_set ?_ GE389.out) | exact HB.out))) : w.heap.size ≤ gb426)); have n10_ := Zk ((by rw [hg]; exact (below_size (by repeat (first | (with_reducible first | exact HB.out | apply below_alloc | apply pw_below_drewN | apply below_drew1 | refine below_set ?_ GE389.out) | exact HB.out))) : w.heap.size ≤ gb426)); have n11_ := Zk ((by rw [hg]; exact Nat.ne_of_lt (blk_lt (g := gb389) (o := .cells #[.slice Ao114 x390000_3.length co114, .slice Ao115 x390001_3.length co115, .slice Ao116 x390002_3.length co116] 30 (0, 0)) (by (with_reducible repeat (first | refine blk_drewN ?_ _ | refine blk_drew ?_ | refine blk_alloc ?_ _)); exact BK389.out)) : gb389 ≠ gb426)); have n12_ := Zk ((by rw [hg]; exact Nat.ne_of_gt (blk_lt (g := gb389) (o := .cells #[.slice Ao114 x390000_3.length co114, .slice Ao115 x390001_3.length co115, .slice Ao116 x390002_3.length co116] 30 (0, 0)) (by (with_reducible repeat (first | refine blk_drewN ?_ _ | refine blk_drew ?_ | refine blk_alloc ?_ _)); exact BK389.out)) : gb426 ≠ gb389)); clear HO_390000; clear HO_390001; clear HO_390002; clear HO417; clear HO420; clear HO423; clear BK389; clear HB; have HO_390000 := n0_; have HO_390001 := n1_; have HO_390002 := n2_; have HO417 := n3_; have HO420 := n4_; have HO423 := n5_; have BK389 := n6_; have HB := n7_; have BK426 := n8_; have GW426 := n9_; have GE426 := n10_; have NB389_426 := n11_; have NB426_389 := n12_; clear n0_ n1_ n2_ n3_ n4_ n5_ n6_ n7_ n8_ n9_ n10_ n11_ n12_; clear hb hbox hg; obtain ⟨Ao119, co119, eo119⟩ := V_slice HO417.out; subst eo119; have hnb120 := NB426_389.out; have hnc120 := NB389_426.out; have hcz121_0 : w118.cell? ⟨gb426, 0, none⟩ = some (.slice none 0 0) := (blk_cell BK426.out 0).trans rfl; have hcz121_1 : w118.cell? ⟨gb426, 1, none⟩ = some (.slice none 0 0) := (blk_cell BK426.out 1).trans rfl; have hcz121_2 : w118.cell? ⟨gb426, 2, none⟩ = some (.slice none 0 0) := (blk_cell BK426.out 2).trans rfl; have hfz121_0 := blk_frozen BK426.out 0; have hfz121_1 := blk_frozen BK426.out 1; have hfz121_2 := blk_frozen BK426.out 2; obtain ⟨Ao122, co122, eo122⟩ := V_slice HO420.out; subst eo122; obtain ⟨Ao123, co123, eo123⟩ := V_slice HO423.out; subst eo123) | ((with_reducible refine gate_store (t := 30) (p := 14) rfl ?_); refine store_event (t := 30) (p := 14) (v := ?vo_w124) (w1 := (((w118.setCell ⟨gb426, 0, none⟩ (.slice Ao119 t415.length co119)).setCell ⟨gb426, 1, none⟩ (.slice Ao122 t418.length co122)).setCell ⟨gb426, 2, none⟩ (.slice Ao123 t421.length co123))) ?hg ?ho ?hn ?hr ?_; (case ho => rfl); (case hg => rfl); (case hn => rfl); (case hr => first | (go_simp; done) | (go_simp; rfl)); intro w124 hw; have n0_ : Aside0 (Kd.V (Kd.int .i64) 3 w124 w.heap.size (fun k_ => ((P0_0_ k_ ∨ P0_1_ k_ ∨ P0_2_ k_) ∨ w.heap.size ≤ k_) ∧ k_ ≠ gb389 ∧ k_ ≠ gb426) (.slice Ao114 x390000_3.length co114) x390000_3) := ⟨(by rw [hw]; exact (by (with_reducible repeat (first | apply V_alloc | apply V_drewN | apply V_drew)); exact V_mono (V_far (p := ⟨gb426, 2, none⟩) (V_far (p := ⟨gb426, 1, none⟩) (V_far (p := ⟨gb426, 0, none⟩) (V_mono HO_390000.out (fun k_ hk => (⟨hk, hk.2⟩ : _ ∧ k_ ≠ gb426))) (fun _ hk => hk.2) (.slice Ao119 t415.length co119)) (fun _ hk => hk.2) (.slice Ao122 t418.length co122)) (fun _ hk => hk.2) (.slice Ao123 t421.length co123)) (fun _ hk => ⟨hk.1.1.1, ⟨hk.1.1.2, hk.1.2⟩⟩)))⟩; have n1_ : Aside0 (Kd.V (Kd.int .i64) 3 w124 w.heap.size (fun k_ => ((P0_0_ k_ ∨ P0_1_ k_ ∨ P0_2_ k_) ∨ w.heap.size ≤ k_) ∧ k_ ≠ gb389 ∧ k_ ≠ gb426) (.slice Ao115 x390001_3.length co115) x390001_3) := ⟨(by rw [hw]; exact (by (with_reducible repeat (first | apply V_alloc | apply V_drewN | apply V_drew)); exact V_mono (V_far (p := ⟨gb426, 2, none⟩) (V_far (p := ⟨gb426, 1, none⟩) (V_far (p := ⟨gb426, 0, none⟩) (V_mono HO_390001.out (fun k_ hk => (⟨hk, hk.2⟩ : _ ∧ k_ ≠ gb426))) (fun _ hk => hk.2) (.slice Ao119 t415.length co119)) (fun _ hk => hk.2) (.slice Ao122 t418.length co122)) (fun _ hk => hk.2) (.slice Ao123 t421.length co123)) (fun _ hk => ⟨hk.1.1.1, ⟨hk.1.1.2, hk.1.2⟩⟩)))⟩; have n2_ : Aside0 (Kd.V (Kd.int .i64) 3 w124 w.heap.size (fun k_ => ((P0_0_ k_ ∨ P0_1_ k_ ∨ P0_2_ k_) ∨ w.heap.size ≤ k_) ∧ k_ ≠ gb389 ∧ k_ ≠ gb426) (.slice Ao116 x390002_3.length co116) x390002_3) := ⟨(by rw [hw]; exact (by (with_reducible repeat (first | apply V_alloc | apply V_drewN | apply V_drew)); exact V_mono (V_far (p := ⟨gb426, 2, none⟩) (V_far (p := ⟨gb426, 1, none⟩) (V_far (p := ⟨gb426, 0, none⟩) (V_mono HO_390002.out (fun k_ hk => (⟨hk, hk.2⟩ : _ ∧ k_ ≠ gb426))) (fun _ hk => hk.2) (.slice Ao119 t415.length co119)) (fun _ hk => hk.2) (.slice Ao122 t418.length co122)) (fun _ hk => hk.2) (.slice Ao123 t421.length co123)) (fun _ hk => ⟨hk.1.1.1, ⟨hk.1.1.2, hk.1.2⟩⟩)))⟩; have n3_ : Aside0 (Kd.V (Kd.int .i64) 3 w124 w.heap.size (fun k_ => ((P0_0_ k_ ∨ P0_1_ k_ ∨ P0_2_ k_) ∨ w.heap.size ≤ k_) ∧ k_ ≠ gb389 ∧ k_ ≠ gb426) (.slice Ao119 t415.length co119) t415) := ⟨(by rw [hw]; exact (by (with_reducible repeat (first | apply V_alloc | apply V_drewN | apply V_drew)); exact V_mono (V_far (p := ⟨gb426, 2, none⟩) (V_far (p := ⟨gb426, 1, none⟩) (V_far (p := ⟨gb426, 0, none⟩) (V_mono HO417.out (fun k_ hk => (⟨hk, hk.2⟩ : _ ∧ k_ ≠ gb426))) (fun _ hk => hk.2) (.slice Ao119 t415.length co119)) (fun _ hk => hk.2) (.slice Ao122 t418.length co122)) (fun _ hk => hk.2) (.slice Ao123 t421.length co123)) (fun _ hk => ⟨hk.1.1.1, ⟨hk.1.1.2, hk.1.2⟩⟩)))⟩; have n4_ : Aside0 (Kd.V (Kd.int .i64) 3 w124 w.heap.size (fun k_ => ((P0_0_ k_ ∨ P0_1_ k_ ∨ P0_2_ k_) ∨ w.heap.size ≤ k_) ∧ k_ ≠ gb389 ∧ k_ ≠ gb426) (.slice Ao122 t418.length co122) t418) := ⟨(by rw [hw]; exact (by (with_reducible repeat (first | apply V_alloc | apply V_drewN | apply V_drew)); exact V_mono (V_far (p := ⟨gb426, 2, none⟩) (V_far (p := ⟨gb426, 1, none⟩) (V_far (p := ⟨gb426, 0, none⟩) (V_mono HO420.out (fun k_ hk => (⟨hk, hk.2⟩ : _ ∧ k_ ≠ gb426))) (fun _ hk => hk.2) (.slice Ao119 t415.length co119)) (fun _ hk => hk.2) (.slice Ao122 t418.length co122)) (fun _ hk => hk.2) (.slice Ao123 t421.length co123)) (fun _ hk => ⟨hk.1.1.1, ⟨hk.1.1.2, hk.1.2⟩⟩)))⟩; have n5_ : Aside0 (Kd.V (Kd.int .i64) 3 w124 w.heap.size (fun k_ => ((P0_0_ k_ ∨ P0_1_ k_ ∨ P0_2_ k_) ∨ w.heap.size ≤ k_) ∧ k_ ≠ gb389 ∧ k_ ≠ gb426) (.slice Ao123 t421.length co123) t421) := ⟨(by rw [hw]; exact (by (with_reducible repeat (first | apply V_alloc | apply V_drewN | apply V_drew)); exact V_mono (V_far (p := ⟨gb426, 2, none⟩) (V_far (p := ⟨gb426, 1, none⟩) (V_far (p := ⟨gb426, 0, none⟩) (V_mono HO423.out (fun k_ hk => (⟨hk, hk.2⟩ : _ ∧ k_ ≠ gb426))) (fun _ hk => hk.2) (.slice Ao119 t415.length co119)) (fun _ hk => hk.2) (.slice Ao122 t418.length co122)) (fun _ hk => hk.2) (.slice Ao123 t421.length co123)) (fun _ hk => ⟨hk.1.1.1, ⟨hk.1.1.2, hk.1.2⟩⟩)))⟩; have n6_ : Aside0 (w124.heap[gb389]? = some (.cells #[.slice Ao114 x390000_3.length co114, .slice Ao115 x390001_3.length co115, .slice Ao116 x390002_3.length co116] 30 (0, 0))) := ⟨(by rw [hw]; exact (by (with_reducible repeat (first | refine blk_drewN ?_ _ | refine blk_drew ?_ | refine blk_alloc ?_ _)); refine blk_far ?_ NB389_426.out _; (with_reducible repeat (first | refine blk_drewN ?_ _ | refine blk_drew ?_ | refine blk_alloc ?_ _)); refine blk_far ?_ NB389_426.out _; (with_reducible repeat (first | refine blk_drewN ?_ _ | refine blk_drew ?_ | refine blk_alloc ?_ _)); refine blk_far ?_ NB389_426.out _; (with_reducible repeat (first | refine blk_drewN ?_ _ | refine blk_drew ?_ | refine blk_alloc ?_ _)); exact BK389.out))⟩; have n7_ : Aside0 (w124.heap[gb426]? = some (.cells #[.slice Ao119 t415.length co119, .slice Ao122 t418.length co122, .slice Ao123 t421.length co123] 30 (0, 0))) := ⟨(by rw [hw]; exact (by (with_reducible repeat (first | refine blk_drewN ?_ _ | refine blk_drew ?_ | refine blk_alloc ?_ _)); refine blk_put (cs := #[.slice Ao119 t415.length co119, .slice Ao122 t418.length co122, .slice none 0 0]) ?_ 2 _ rfl; (with_reducible repeat (first | refine blk_drewN ?_ _ | refine blk_drew ?_ | refine blk_alloc ?_ _)); refine blk_put (cs := #[.slice Ao119 t415.length co119, .slice none 0 0, .slice none 0 0]) ?_ 1 _ rfl; (with_reducible repeat (first | refine blk_drewN ?_ _ | refine blk_drew ?_ | refine blk_alloc ?_ _)); refine blk_put (cs := #[.slice none 0 0, .slice none 0 0, .slice none 0 0]) ?_ 0 _ rfl; (with_reducible repeat (first | refine blk_drewN ?_ _ | refine blk_drew ?_ | refine blk_alloc ?_ _)); exact BK426.out))⟩; have n8_ : Aside0 (Below w.heap.size w w124) := ⟨(by rw [hw]; exact (by repeat (first | (with_reducible first | exact HB.out | apply below_alloc | apply pw_below_drewN | apply below_drew1 | refine below_set ?_ GE389.out | refine below_set ?_ GE426.out) | exact HB.out)))⟩; clear hw; clear HO_390000; clear HO_390001; clear HO_390002; clear HO417; clear HO420; clear HO423; clear BK389; clear BK426; clear HB; have HO_390000 := n0_; have HO_390001 := n1_; have HO_390002 := n2_; have HO417 := n3_; have HO420 := n4_; have HO423 := n5_; have BK389 := n6_; have BK426 := n7_; have HB := n8_; clear n0_ n1_ n2_ n3_ n4_ n5_ n6_ n7_ n8_; have hcz125_0 : w124.cell? ⟨gb389, 0, none⟩ = some (.slice Ao114 x390000_3.length co114) := (blk_cell BK389.out 0).trans rfl; have hcz125_1 : w124.cell? ⟨gb389, 1, none⟩ = some (.slice Ao115 x390001_3.length co115) := (blk_cell BK389.out 1).trans rfl; have hcz125_2 : w124.cell? ⟨gb389, 2, none⟩ = some (.slice Ao116 x390002_3.length co116) := (blk_cell BK389.out 2).trans rfl; have hfz125_0 := blk_frozen BK389.out 0; have hfz125_1 := blk_frozen BK389.out 1; have hfz125_2 := blk_frozen BK389.out 2; have hcz126_0 : w124.cell? ⟨gb426, 0, none⟩ = some (.slice Ao119 t415.length co119) := (blk_cell BK426.out 0).trans rfl; have hcz126_1 : w124.cell? ⟨gb426, 1, none⟩ = some (.slice Ao122 t418.length co122) := (blk_cell BK426.out 1).trans rfl; have hcz126_2 : w124.cell? ⟨gb426, 2, none⟩ = some (.slice Ao123 t421.length co123) := (blk_cell BK426.out 2).trans rfl; have hfz126_0 := blk_frozen BK426.out 0; have hfz126_1 := blk_frozen BK426.out 1; have hfz126_2 := blk_frozen BK426.out 2) | (go_at_call 21; (with_reducible refine (jobshellref25_Same.calls k3 _ _ x390000_3 _ _ x390001_3 _ _ x390002_3 _ _ t415 _ _ t418 _ _ t421 true _ ?side1 ?side2 ?side3 ?side4 ?side5 ?side6 ?side7 ?side8 ?side9 ?side10 ?side11 ?side12 A110.out).mono ?_); (case side1 => repeat (first | exact (V_reads' HO_390000.out).2.2 | (with_reducible refine C_alloc ?_ _) | (with_reducible refine C_drewN ?_ _) | (with_reducible refine C_drew ?_))); (case side2 => exact (V_reads' HO_390000.out).2.1); (case side3 => repeat (first | exact (V_reads' HO_390001.out).2.2 | (with_reducible refine C_alloc ?_ _) | (with_reducible refine C_drewN ?_ _) | (with_reducible refine C_drew ?_))); (case side4 => exact (V_reads' HO_390001.out).2.1); (case side5 => repeat (first | exact (V_reads' HO_390002.out).2.2 | (with_reducible refine C_alloc ?_ _) | (with_reducible refine C_drewN ?_ _) | (with_reducible refine C_drew ?_))); (case side6 => exact (V_reads' HO_390002.out).2.1); (case side7 => repeat (first | exact (V_reads' HO417.out).2.2 | (with_reducible refine C_alloc ?_ _) | (with_reducible refine C_drewN ?_ _) | (with_reducible refine C_drew ?_))); (case side8 => exact (V_reads' HO417.out).2.1); (case side9 => repeat (first | exact (V_reads' HO420.out).2.2 | (with_reducible refine C_alloc ?_ _) | (with_reducible refine C_drewN ?_ _) | (with_reducible refine C_drew ?_))); (case side10 => exact (V_reads' HO420.out).2.1); (case side11 => repeat (first | exact (V_reads' HO423.out).2.2 | (with_reducible refine C_alloc ?_ _) | (with_reducible refine C_drewN ?_ _) | (with_reducible refine C_drew ?_))); (case side12 => exact (V_reads' HO423.out).2.1); rintro e w127 ⟨rfl, hb⟩; have n0_ := Zk (V_below (by (with_reducible repeat (first | apply V_alloc | apply V_drewN | apply V_drew)); exact HO_390000.out) hb); have n1_ := Zk (V_below (by (with_reducible repeat (first | apply V_alloc | apply V_drewN | apply V_drew)); exact HO_390001.out) hb); have n2_ := Zk (V_below (by (with_reducible repeat (first | apply V_alloc | apply V_drewN | apply V_drew)); exact HO_390002.out) hb); have n3_ := Zk (V_below (by (with_reducible repeat (first | apply V_alloc | apply V_drewN | apply V_drew)); exact HO417.out) hb); have n4_ := Zk (V_below (by (with_reducible repeat (first | apply V_alloc | apply V_drewN | apply V_drew)); exact HO420.out) hb); have n5_ := Zk (V_below (by (with_reducible repeat (first | apply V_alloc | apply V_drewN | apply V_drew)); exact HO423.out) hb); have n6_ := Zk (blk_below (g := gb389) (o := .cells #[.slice Ao114 x390000_3.length co114, .slice Ao115 x390001_3.length co115, .slice Ao116 x390002_3.length co116] 30 (0, 0)) (by (with_reducible repeat (first | refine blk_drewN ?_ _ | refine blk_drew ?_ | refine blk_alloc ?_ _)); exact BK389.out) hb); have n7_ := Zk (blk_below (g := gb426) (o := .cells #[.slice Ao119 t415.length co119, .slice Ao122 t418.length co122, .slice Ao123 t421.length co123] 30 (0, 0)) (by (with_reducible repeat (first | refine blk_drewN ?_ _ | refine blk_drew ?_ | refine blk_alloc ?_ _)); exact BK426.out) hb); have n8_ := Zk (below_step (by repeat (first | (with_reducible first | exact HB.out | apply below_alloc | apply pw_below_drewN | apply below_drew1 | refine below_set ?_ GE389.out | refine below_set ?_ GE426.out) | exact HB.out)) hb); clear HO_390000; clear HO_390001; clear HO_390002; clear HO417; clear HO420; clear HO423; clear BK389; clear BK426; clear HB; have HO_390000 := n0_; have HO_390001 := n1_; have HO_390002 := n2_; have HO417 := n3_; have HO420 := n4_; have HO423 := n5_; have BK389 := n6_; have BK426 := n7_; have HB := n8_; clear n0_ n1_ n2_ n3_ n4_ n5_ n6_ n7_ n8_; (try clear hb); (try clear hb2); (try clear hk); (try clear hi)) | (go_at_call 10; (with_reducible refine (jobshelllaw25_awake.calls k3  t428 _ A112.out).mono ?_); rintro e w128 ⟨rfl, hb⟩; have n0_ := Zk (V_below (by (with_reducible repeat (first | apply V_alloc | apply V_drewN | apply V_drew)); exact HO_390000.out) hb); have n1_ := Zk (V_below (by (with_reducible repeat (first | apply V_alloc | apply V_drewN | apply V_drew)); exact HO_390001.out) hb); have n2_ := Zk (V_below (by (with_reducible repeat (first | apply V_alloc | apply V_drewN | apply V_drew)); exact HO_390002.out) hb); have n3_ := Zk (V_below (by (with_reducible repeat (first | apply V_alloc | apply V_drewN | apply V_drew)); exact HO417.out) hb); have n4_ := Zk (V_below (by (with_reducible repeat (first | apply V_alloc | apply V_drewN | apply V_drew)); exact HO420.out) hb); have n5_ := Zk (V_below (by (with_reducible repeat (first | apply V_alloc | apply V_drewN | apply V_drew)); exact HO423.out) hb); have n6_ := Zk (blk_below (g := gb389) (o := .cells #[.slice Ao114 x390000_3.length co114, .slice Ao115 x390001_3.length co115, .slice Ao116 x390002_3.length co116] 30 (0, 0)) (by (with_reducible repeat (first | refine blk_drewN ?_ _ | refine blk_drew ?_ | refine blk_alloc ?_ _)); exact BK389.out) hb); have n7_ := Zk (blk_below (g := gb426) (o := .cells #[.slice Ao119 t415.length co119, .slice Ao122 t418.length co122, .slice Ao123 t421.length co123] 30 (0, 0)) (by (with_reducible repeat (first | refine blk_drewN ?_ _ | refine blk_drew ?_ | refine blk_alloc ?_ _)); exact BK426.out) hb); have n8_ := Zk (below_step (by repeat (first | (with_reducible first | exact HB.out | apply below_alloc | apply pw_below_drewN | apply below_drew1 | refine below_set ?_ GE389.out | refine below_set ?_ GE426.out) | exact HB.out)) hb); clear HO_390000; clear HO_390001; clear HO_390002; clear HO417; clear HO420; clear HO423; clear BK389; clear BK426; clear HB; have HO_390000 := n0_; have HO_390001 := n1_; have HO_390002 := n2_; have HO417 := n3_; have HO420 := n4_; have HO423 := n5_; have BK389 := n6_; have BK426 := n7_; have HB := n8_; clear n0_ n1_ n2_ n3_ n4_ n5_ n6_ n7_ n8_; (try clear hb); (try clear hb2); (try clear hk); (try clear hi)))
              go_ret
              exact ⟨by first | rfl | (simp [errW_none, errW_some] <;> rfl) | (simp [*, errW_none, errW_some] <;> rfl), by repeat (first | (with_reducible first | exact HB.out | apply below_alloc | apply pw_below_drewN | apply below_drew1 | refine below_set ?_ GE389.out | refine below_set ?_ GE426.out) | exact HB.out)⟩
             ·replace c111 := Bool.eq_false_iff.mpr c111
              subst c111
              have H1 : (none) = some r := by rw [if_neg (show ¬ (false = true) by decide)] at H; exact H
              clear H
              have H := H1
              clear H1
              exact absurd H (by simp)
            ·rw [if_neg c109] at H
             exact absurd H (by simp)
           ·rw [if_neg c108] at H
            exact absurd H (by simp)
end Go.Proofs.YtnkkdpjipfjdaaaDoor.Q
end
section
-- Written by wip/tool/myprint.py, a program of this repo that drives the kit's print over hand-written contracts; Lean checks it.
namespace Go.Proofs.YtnkkdpjipfjdaaaDoor.StSignalTaken
open Go.RowKit Go.Proofs.YtnkkdpjipfjdaaaDoor.Q Go.Proofs.YtnkkdpjipfjdaaaDoorW.PrintWords Go.Proofs.YtnkkdpjipfjdaaaDoorW.PrintLast
/-- THE ONE PURE STATEMENT of jobshelllaw25_SignalTaken. -/
def Pure : Prop := ∀ (l0_0 : List Int) (l0_1 : List Int) (l0_2 : List Int) (l1 : List Int), l0_0.length ≤ maxLen → l0_0.length * 8 ≤ 140737488351232 → (∀ x ∈ l0_0, (Lit.int .i64 x).wf = true) → l0_1.length ≤ maxLen → l0_1.length * 8 ≤ 140737488351232 → (∀ x ∈ l0_1, (Lit.int .i64 x).wf = true) → l0_2.length ≤ maxLen → l0_2.length * 8 ≤ 140737488351232 → (∀ x ∈ l0_2, (Lit.int .i64 x).wf = true) → l1.length ≤ maxLen → l1.length * 8 ≤ 140737488351232 → (∀ x ∈ l1, (Lit.int .i64 x).wf = true) → ∃ k, jobshelllaw25_SignalTaken.f k l0_0 l0_1 l0_2 l1 = some true
end Go.Proofs.YtnkkdpjipfjdaaaDoor.StSignalTaken

end
section
-- Written by wip/tool/myprint.py, a program of this repo that drives the kit's print over hand-written contracts; Lean checks it.
namespace Go.Proofs.YtnkkdpjipfjdaaaDoor.Q
open Go.RowKit Go.Proofs.YtnkkdpjipfjdaaaDoorW.PrintWords Go.Proofs.YtnkkdpjipfjdaaaDoorW.PrintLast Go.Proofs.YtnkkdpjipfjdaaaDoorW.PrintMore Go.Proofs.YtnkkdpjipfjdaaaDoorM
open Kd
attribute [local go_sem] max2_int min2_int max_two min_two max_three min_three max_four min_four   -- for this text's walks alone
set_option linter.unusedVariables false
set_option linter.unusedSimpArgs false
def signal_ascending.l0 : Nat → List Int → List Int → Int → Int → Option (Bool)
 | 0, _, _, _, _ => none
 | k + 1, x0, x5, x6, x7 => if x7 < x6 then (if 0 ≤ x7 then (if x7 < (x5.length : Int) then ((signal_Name.f (rd x5 x7)).bind fun t641 => (if t641.toList = ([] : List UInt8) then (some false) else (if x7 > 0 then (if 0 ≤ (wrap64 (x7 - 1)) then (if (wrap64 (x7 - 1)) < (x0.length : Int) then (if (rd x5 x7) ≤ (rd x0 (wrap64 (x7 - 1))) then (some false) else (signal_ascending.l0 k x0 x5 x6 (wrap64 (x7 + 1)))) else (none)) else (none)) else (signal_ascending.l0 k x0 x5 x6 (wrap64 (x7 + 1)))))) else (none)) else (none)) else (some true)
def signal_ascending.f (k : Nat) (l0 : List Int) : Option (Bool) := signal_ascending.l0 k l0 l0 (l0.length : Int) 0
theorem signal_ascending.mono_l : ∀ k, (∀ y0 y1 y2 y3, LeO (signal_ascending.l0 k y0 y1 y2 y3) (signal_ascending.l0 (k + 1) y0 y1 y2 y3))
 | 0 => fun _ _ _ _ r h => by simp [signal_ascending.l0] at h
 | k + 1 => by
  have ih0 := signal_ascending.mono_l k
  ·intro y0 y1 y2 y3
   unfold signal_ascending.l0
   repeat' first
   | (with_reducible exact ih0 _ _ _ _)
   | (with_reducible exact LeO.refl _)
   | (with_reducible exact LeO.none _)
   | (with_reducible refine LeO.ite ?_ ?_)
   | (with_reducible refine LeO.bind ?_ (fun _ => ?_))
   | exact ih0 _ _ _ _
   | exact LeO.none _
   | refine LeO.ite ?_ ?_
   | refine LeO.bind ?_ (fun _ => ?_)
theorem signal_ascending.mono : ∀ a0 k, LeO (signal_ascending.f k a0) (signal_ascending.f (k + 1) a0) := by
 intro a0 k
 have ih0 := signal_ascending.mono_l k
 unfold signal_ascending.f
 repeat' first
   | (with_reducible exact ih0 _ _ _ _)
   | (with_reducible exact LeO.refl _)
   | (with_reducible exact LeO.none _)
   | (with_reducible refine LeO.ite ?_ ?_)
   | (with_reducible refine LeO.bind ?_ (fun _ => ?_))
   | exact ih0 _ _ _ _
   | exact LeO.none _
   | refine LeO.ite ?_ ?_
   | refine LeO.bind ?_ (fun _ => ?_)
set_option maxHeartbeats 8000000 in
set_option maxRecDepth 10000000 in
theorem signal_ascending.calls (k : Nat) (A0 : Option Addr) (c0 : Nat) (l0 : List Int) (r : Bool) (w : World) (hr0 : Kd.C (Kd.int .i64) w A0 l0.length l0) (hc0 : l0.length ≤ c0) (h : signal_ascending.f k l0 = some r) :
  Calls Tryd.prog 49 #[.slice A0 l0.length c0] w fun e w' => e = .returned (.bool r) ∧ Below w.heap.size w w' := by
 have HR0 := Zk hr0
 have HC0 := Zk hc0
 clear hr0 hc0
 have HB := Zk (Below.refl w.heap.size w)
 have H : (signal_ascending.l0 k l0 l0 (l0.length : Int) 0) = some r := h
 clear h
 have H' := Zk H
 clear H
 go_enter Tryd.func49, Tryd.ntmps49
 go_wp2
 go_loopg [7] k (fun kq v7 w' => ∃ (x7_1 : Int), v7 = .int .i64 x7_1 ∧ Aside0 (signal_ascending.l0 kq l0 l0 (l0.length : Int) x7_1 = some r) ∧ Aside0 (kq ≤ k) ∧ Aside0 (Below w.heap.size w w'))
 case atStart => exact ⟨(0), (by first | rfl | (simp; done) | (simp [*]; done) | (generalize ByteArray.toList _ = l_; cases l_ <;> rfl)), H', ⟨Nat.le_refl _⟩, ⟨by repeat (first | (with_reducible first | exact HB.out | apply below_alloc | apply pw_below_drewN | apply below_drew1) | exact HB.out)⟩⟩
 case round =>
  clear H'
  obtain ⟨x7_1, rfl, HA, HK1, HB⟩ := hrel
  cases gk with
  | zero => exact absurd HA.out (by simp [signal_ascending.l0])
  | succ k1 =>
   have H := HA.out
   clear HA
   simp only [signal_ascending.l0] at H
   by_cases c2 : x7_1 < (l0.length : Int)
   ·rw [if_pos c2] at H
    have c2b0 : decide (x7_1 < (l0.length : Int)) = true := decide_eq_true c2
    clear c2
    by_cases c3 : 0 ≤ x7_1
    ·rw [if_pos c3] at H
     have c3b0 : decide (0 ≤ x7_1) = true := decide_eq_true c3
     clear c3
     by_cases c4 : x7_1 < (l0.length : Int)
     ·rw [if_pos c4] at H
      have c4b0 : decide (x7_1 < (l0.length : Int)) = true := decide_eq_true c4
      clear c4
      replace H := Option.bind_eq_some_iff.mp H
      obtain ⟨t641, A50, H⟩ := H
      replace H : (if t641.toList = ([] : List UInt8) then (some false) else (if x7_1 > 0 then (if 0 ≤ (wrap64 (x7_1 - 1)) then (if (wrap64 (x7_1 - 1)) < (l0.length : Int) then (if (rd l0 x7_1) ≤ (rd l0 (wrap64 (x7_1 - 1))) then (some false) else (signal_ascending.l0 k1 l0 l0 (l0.length : Int) (wrap64 (x7_1 + 1)))) else (none)) else (none)) else (signal_ascending.l0 k1 l0 l0 (l0.length : Int) (wrap64 (x7_1 + 1))))) = some r := H
      have A5 := Zk A50
      clear A50
      by_cases c6 : t641.toList = ([] : List UInt8)
      ·rw [if_pos c6] at H
       have c6b0 : (t641.toList == ([] : List UInt8)) = true := beq_iff_eq.mpr c6
       have c6b1 : (t641.toList != ([] : List UInt8)) = false := bne_eq_false_iff_eq.mpr c6
       clear c6
       obtain rfl := Option.some.inj H
       have p640 : 0 ≤ (x7_1 : Int) := of_decide_eq_true (by first | (with_reducible assumption) | assumption)
       have q640 : x7_1 < (l0.length : Int) := of_decide_eq_true (by first | (with_reducible assumption) | assumption)
       obtain ⟨ad640, e640, hx640_0⟩ := Kd.at_int HR0.out x7_1 p640 q640
       cases e640
       replace hx640_0 := (HB.out.cell (World.block_lt_of_cell? w _ hx640_0)).trans hx640_0
       replace p640 := eq_true p640
       replace q640 := eq_true q640
       go_wp2_with (first | ((with_reducible refine gate_callee (f := 13) rfl ?_); refine goesL_ (some 13) rfl rfl Tryd.func13 (by kernel_rfl) rfl #[.int .i64 (rd l0 x7_1)] rfl (by (try simp only [List.map_toArray, List.map_cons, List.map_nil]); first | done | rfl | (simp only [List.length_drop, List.length_take]; rfl)) ?_; (with_reducible refine (signal_Name.calls (rd l0 x7_1) t641 _ A5.out).mono ?_); rintro e w7 ⟨rfl, hb⟩; refine ⟨_, rfl, ?_⟩; have n0_ := Zk (below_step (by repeat (first | (with_reducible first | exact HB.out | apply below_alloc | apply pw_below_drewN | apply below_drew1) | exact HB.out)) hb); clear HB; have HB := n0_; clear n0_; (try clear hb); (try clear hb2); (try clear hk); (try clear hi)))
       go_ret
       exact ⟨by first | rfl | (simp [errW_none, errW_some] <;> rfl) | (simp [*, errW_none, errW_some] <;> rfl), by repeat (first | (with_reducible first | exact HB.out | apply below_alloc | apply pw_below_drewN | apply below_drew1) | exact HB.out)⟩
      ·rw [if_neg c6] at H
       have c6b0 : (t641.toList == ([] : List UInt8)) = false := beq_eq_false_iff_ne.mpr c6
       have c6b1 : (t641.toList != ([] : List UInt8)) = true := bne_iff_ne.mpr c6
       by_cases c8 : x7_1 > 0
       ·rw [if_pos c8] at H
        have c8b0 : decide (0 < x7_1) = true := decide_eq_true c8
        clear c8
        obtain ⟨ji9, hji9⟩ : ∃ j_ : Int, (wrap64 (x7_1 - 1)) = j_ := ⟨_, rfl⟩
        replace H : (if 0 ≤ (ji9) then (if (ji9) < (l0.length : Int) then (if (rd l0 x7_1) ≤ (rd l0 (ji9)) then (some false) else (signal_ascending.l0 k1 l0 l0 (l0.length : Int) (wrap64 (x7_1 + 1)))) else (none)) else (none)) = some r := by first | (rw [hji9] at H; exact H) | (simp only [hji9] at H ⊢; exact H)
        (try rw [hji9] at A5)
        have hji9w : (IntKind.i64.wrap (x7_1 - 1)) = ji9 := (i64_w _).trans hji9
        by_cases c10 : 0 ≤ (ji9)
        ·rw [if_pos c10] at H
         have c10b0 : decide (0 ≤ (ji9)) = true := decide_eq_true c10
         clear c10
         by_cases c11 : (ji9) < (l0.length : Int)
         ·rw [if_pos c11] at H
          have c11b0 : decide ((ji9) < (l0.length : Int)) = true := decide_eq_true c11
          clear c11
          by_cases c12 : (rd l0 x7_1) ≤ (rd l0 (ji9))
          ·rw [if_pos c12] at H
           have c12b0 : decide ((rd l0 x7_1) ≤ (rd l0 (ji9))) = true := decide_eq_true c12
           clear c12
           obtain rfl := Option.some.inj H
           have p640 : 0 ≤ (x7_1 : Int) := of_decide_eq_true (by first | (with_reducible assumption) | assumption)
           have q640 : x7_1 < (l0.length : Int) := of_decide_eq_true (by first | (with_reducible assumption) | assumption)
           obtain ⟨ad640, e640, hx640_0⟩ := Kd.at_int HR0.out x7_1 p640 q640
           cases e640
           replace hx640_0 := (HB.out.cell (World.block_lt_of_cell? w _ hx640_0)).trans hx640_0
           replace p640 := eq_true p640
           replace q640 := eq_true q640
           go_wp2_with (first | ((with_reducible refine gate_callee (f := 13) rfl ?_); refine goesL_ (some 13) rfl rfl Tryd.func13 (by kernel_rfl) rfl #[.int .i64 (rd l0 x7_1)] rfl (by (try simp only [List.map_toArray, List.map_cons, List.map_nil]); first | done | rfl | (simp only [List.length_drop, List.length_take]; rfl)) ?_; (with_reducible refine (signal_Name.calls (rd l0 x7_1) t641 _ A5.out).mono ?_); rintro e w13 ⟨rfl, hb⟩; refine ⟨_, rfl, ?_⟩; have n0_ := Zk (below_step (by repeat (first | (with_reducible first | exact HB.out | apply below_alloc | apply pw_below_drewN | apply below_drew1) | exact HB.out)) hb); clear HB; have HB := n0_; clear n0_; (try clear hb); (try clear hb2); (try clear hk); (try clear hi); have p642 : 0 ≤ ((ji9) : Int) := of_decide_eq_true (by first | (with_reducible assumption) | assumption); have q642 : (ji9) < (l0.length : Int) := of_decide_eq_true (by first | (with_reducible assumption) | assumption); obtain ⟨ad642, e642, hx642_0⟩ := Kd.at_int HR0.out (ji9) p642 q642; obtain rfl : ad640 = ad642 := (by injection e642); replace hx642_0 := (HB.out.cell (World.block_lt_of_cell? w _ hx642_0)).trans hx642_0; replace p642 := eq_true p642; replace q642 := eq_true q642))
           go_ret
           exact ⟨by first | rfl | (simp [errW_none, errW_some] <;> rfl) | (simp only [← hji9]; first | rfl | (simp [errW_none, errW_some] <;> rfl)) | (simp [*, errW_none, errW_some] <;> rfl), by repeat (first | (with_reducible first | exact HB.out | apply below_alloc | apply pw_below_drewN | apply below_drew1) | exact HB.out)⟩
          ·rw [if_neg c12] at H
           have c12b0 : decide ((rd l0 x7_1) ≤ (rd l0 (ji9))) = false := decide_eq_false c12
           clear c12
           have H' := Zk H
           clear H
           have p640 : 0 ≤ (x7_1 : Int) := of_decide_eq_true (by first | (with_reducible assumption) | assumption)
           have q640 : x7_1 < (l0.length : Int) := of_decide_eq_true (by first | (with_reducible assumption) | assumption)
           obtain ⟨ad640, e640, hx640_0⟩ := Kd.at_int HR0.out x7_1 p640 q640
           cases e640
           replace hx640_0 := (HB.out.cell (World.block_lt_of_cell? w _ hx640_0)).trans hx640_0
           replace p640 := eq_true p640
           replace q640 := eq_true q640
           go_wp2_with (first | ((with_reducible refine gate_callee (f := 13) rfl ?_); refine goesL_ (some 13) rfl rfl Tryd.func13 (by kernel_rfl) rfl #[.int .i64 (rd l0 x7_1)] rfl (by (try simp only [List.map_toArray, List.map_cons, List.map_nil]); first | done | rfl | (simp only [List.length_drop, List.length_take]; rfl)) ?_; (with_reducible refine (signal_Name.calls (rd l0 x7_1) t641 _ A5.out).mono ?_); rintro e w14 ⟨rfl, hb⟩; refine ⟨_, rfl, ?_⟩; have n0_ := Zk (below_step (by repeat (first | (with_reducible first | exact HB.out | apply below_alloc | apply pw_below_drewN | apply below_drew1) | exact HB.out)) hb); clear HB; have HB := n0_; clear n0_; (try clear hb); (try clear hb2); (try clear hk); (try clear hi); have p642 : 0 ≤ ((ji9) : Int) := of_decide_eq_true (by first | (with_reducible assumption) | assumption); have q642 : (ji9) < (l0.length : Int) := of_decide_eq_true (by first | (with_reducible assumption) | assumption); obtain ⟨ad642, e642, hx642_0⟩ := Kd.at_int HR0.out (ji9) p642 q642; obtain rfl : ad640 = ad642 := (by injection e642); replace hx642_0 := (HB.out.cell (World.block_lt_of_cell? w _ hx642_0)).trans hx642_0; replace p642 := eq_true p642; replace q642 := eq_true q642))
           go_roundg k1
           case measure => have := HK1.out; omega
           case rel => exact ⟨(wrap64 (x7_1 + 1)), (by first | rfl | (simp; done) | (simp [*]; done) | (generalize ByteArray.toList _ = l_; cases l_ <;> rfl)), H', ⟨by have := HK1.out; omega⟩, ⟨by repeat (first | (with_reducible first | exact HB.out | apply below_alloc | apply pw_below_drewN | apply below_drew1) | exact HB.out)⟩⟩
         ·rw [if_neg c11] at H
          exact absurd H (by simp)
        ·rw [if_neg c10] at H
         exact absurd H (by simp)
       ·rw [if_neg c8] at H
        have c8b0 : decide (0 < x7_1) = false := decide_eq_false c8
        clear c8
        have H' := Zk H
        clear H
        have p640 : 0 ≤ (x7_1 : Int) := of_decide_eq_true (by first | (with_reducible assumption) | assumption)
        have q640 : x7_1 < (l0.length : Int) := of_decide_eq_true (by first | (with_reducible assumption) | assumption)
        obtain ⟨ad640, e640, hx640_0⟩ := Kd.at_int HR0.out x7_1 p640 q640
        cases e640
        replace hx640_0 := (HB.out.cell (World.block_lt_of_cell? w _ hx640_0)).trans hx640_0
        replace p640 := eq_true p640
        replace q640 := eq_true q640
        go_wp2_with (first | ((with_reducible refine gate_callee (f := 13) rfl ?_); refine goesL_ (some 13) rfl rfl Tryd.func13 (by kernel_rfl) rfl #[.int .i64 (rd l0 x7_1)] rfl (by (try simp only [List.map_toArray, List.map_cons, List.map_nil]); first | done | rfl | (simp only [List.length_drop, List.length_take]; rfl)) ?_; (with_reducible refine (signal_Name.calls (rd l0 x7_1) t641 _ A5.out).mono ?_); rintro e w15 ⟨rfl, hb⟩; refine ⟨_, rfl, ?_⟩; have n0_ := Zk (below_step (by repeat (first | (with_reducible first | exact HB.out | apply below_alloc | apply pw_below_drewN | apply below_drew1) | exact HB.out)) hb); clear HB; have HB := n0_; clear n0_; (try clear hb); (try clear hb2); (try clear hk); (try clear hi)))
        go_roundg k1
        case measure => have := HK1.out; omega
        case rel => exact ⟨(wrap64 (x7_1 + 1)), (by first | rfl | (simp; done) | (simp [*]; done) | (generalize ByteArray.toList _ = l_; cases l_ <;> rfl)), H', ⟨by have := HK1.out; omega⟩, ⟨by repeat (first | (with_reducible first | exact HB.out | apply below_alloc | apply pw_below_drewN | apply below_drew1) | exact HB.out)⟩⟩
     ·rw [if_neg c4] at H
      exact absurd H (by simp)
    ·rw [if_neg c3] at H
     exact absurd H (by simp)
   ·rw [if_neg c2] at H
    have c2b0 : decide (x7_1 < (l0.length : Int)) = false := decide_eq_false c2
    clear c2
    obtain rfl := Option.some.inj H
    go_wp2
    go_ret
    exact ⟨by first | rfl | (simp [errW_none, errW_some] <;> rfl) | (simp [*, errW_none, errW_some] <;> rfl), by repeat (first | (with_reducible first | exact HB.out | apply below_alloc | apply pw_below_drewN | apply below_drew1) | exact HB.out)⟩
end Go.Proofs.YtnkkdpjipfjdaaaDoor.Q
end
section
namespace Go.Proofs.YtnkkdpjipfjdaaaDoorM
open Go Go.RowKit Go.Proofs.YtnkkdpjipfjdaaaDoorW.PrintWords
section
variable {α β : Type} {A B : Nat → Option α} {r : α} {c : Prop} [Decidable c]
theorem ev_pos (h : c) (k : Ev A r) : Ev (fun n => if c then A n else B n) r := by
  obtain ⟨K, k⟩ := k
  exact ⟨K, fun n hn => (if_pos h).trans (k n hn)⟩
theorem ev_neg (h : ¬ c) (k : Ev B r) : Ev (fun n => if c then A n else B n) r := by
  obtain ⟨K, k⟩ := k
  exact ⟨K, fun n hn => (if_neg h).trans (k n hn)⟩
theorem ev_some {x : Option α} (h : x = some r) : Ev (fun _ => x) r := ⟨0, fun _ _ => h⟩
theorem ev_bindc {x : Option β} {a : β} {f : Nat → β → Option α} (h : x = some a) (k : Ev (fun n => f n a) r) : Ev (fun n => x.bind (f n)) r := by
  obtain ⟨K, k⟩ := k
  exact ⟨K, fun n hn => by show x.bind (f n) = some r; rw [h]; exact k n hn⟩
theorem ev_eq {g : Nat → Option α} {r r' : α} (h : Ev g r) (e : r = r') : Ev g r' := e ▸ h
end
theorem wrap_in {x : Int} (h0 : -9223372036854775808 ≤ x) (h1 : x ≤ 9223372036854775807) : wrap64 x = x := by
  unfold wrap64
  omega
end Go.Proofs.YtnkkdpjipfjdaaaDoorM

end
section
namespace Go.Proofs.YtnkkdpjipfjdaaaDoor.Sg
open Go.RowKit Go.Proofs.YtnkkdpjipfjdaaaDoor.Q Go.Proofs.YtnkkdpjipfjdaaaDoorW.PrintWords Go.Proofs.YtnkkdpjipfjdaaaDoorW.PrintLast Go.Proofs.YtnkkdpjipfjdaaaDoorM Go.Proofs.YtnkkdpjipfjdaaaDoor.Ix
set_option linter.unusedVariables false
theorem awake_30 : jobshelllaw25_awake.f 30 = some true := by kernel_rfl
theorem awake_ev : Ev (fun k => jobshelllaw25_awake.f k) true := by
  refine ⟨30, fun k hk => ?_⟩
  obtain ⟨d, rfl⟩ : ∃ d, k = 30 + d := ⟨k - 30, by omega⟩
  clear hk
  induction d with
  | zero => exact awake_30
  | succ d ih => exact jobshelllaw25_awake.mono (30 + d) _ ih
theorem in21 {n : Int} (h0 : 0 ≤ n) (h1 : n ≤ 20) : n = 0 ∨ n = 1 ∨ n = 2 ∨ n = 3 ∨ n = 4 ∨ n = 5 ∨ n = 6 ∨ n = 7 ∨ n = 8 ∨ n = 9 ∨ n = 10 ∨ n = 11 ∨ n = 12 ∨ n = 13 ∨ n = 14 ∨ n = 15 ∨ n = 16 ∨ n = 17 ∨ n = 18 ∨ n = 19 ∨ n = 20 := by omega
theorem name_out {n : Int} (h : ¬ (0 ≤ n ∧ n ≤ 20)) : sigName n = ⟨#[]⟩ := by
  unfold sigName
  by_cases h0 : 0 ≤ n
  · rw [if_pos h0]
    have : sigNames.length ≤ n.toNat := by show 21 ≤ _; omega
    rw [List.getD_eq_getElem?_getD, List.getElem?_eq_none this]
    rfl
  · rw [if_neg h0]
theorem name_eq (n : Int) : jobshellref25_Name.f n = some (sigName n) := by
  by_cases h : 0 ≤ n ∧ n ≤ 20
  · rcases in21 h.1 h.2 with h | h | h | h | h | h | h | h | h | h | h | h | h | h | h | h | h | h | h | h | h <;> subst h <;> rfl
  · rw [name_out h]
    unfold jobshellref25_Name.f
    repeat rw [if_neg (by omega)]
theorem name_f (n : Int) : signal_Name.f n = some (sigName n) := rfl
/-- A signal: a number with a name. -/
def named (n : Int) : Prop := ¬ (sigName n).toList = ([] : List UInt8)
instance (n : Int) : Decidable (named n) := inferInstanceAs (Decidable (¬ _))
theorem empty_toList : (⟨#[]⟩ : ByteArray).toList = ([] : List UInt8) := by kernel_rfl
theorem named_in {n : Int} (h : named n) : 1 ≤ n ∧ n ≤ 20 := by
  by_cases hr : 0 ≤ n ∧ n ≤ 20
  · by_cases h0 : n = 0
    · subst h0
      exact absurd (show (sigName 0).toList = [] by kernel_rfl) h
    · omega
  · rw [named, name_out hr] at h
    exact absurd empty_toList h
theorem drop_at (l : List Int) (i : Nat) (hi : i < l.length) : l.drop i = l.getD i 0 :: l.drop (i + 1) := by
  rw [List.drop_eq_getElem_cons hi, List.getD_eq_getElem?_getD, List.getElem?_eq_getElem hi]
  rfl
theorem has_from (l : List Int) (n : Int) (hl : l.length ≤ 1000) : ∀ (m i : Nat), i + m = l.length → Ev (fun k => jobshellref25_Has.l0 k l n (i : Int)) (decide (n ∈ l.drop i))
  | 0, i, h => Ev.step (fun k => by apply jobshellref25_Has.l0.eq_2) (ev_neg (by omega) (ev_some (by rw [List.drop_eq_nil_of_le (by omega)]; rfl)))
  | m + 1, i, h => by
    have hi : i < l.length := by omega
    have hd := drop_at l i hi
    have hr : rd l (i : Int) = l.getD i 0 := rfl
    refine Ev.step (fun k => by apply jobshellref25_Has.l0.eq_2) (ev_pos (by omega) (ev_pos (by omega) ?_))
    rw [hr]
    by_cases hq : l.getD i 0 = n
    · exact ev_pos hq (ev_some (by rw [hd, hq]; simp))
    · refine ev_neg hq ?_
      rw [wrap_in (by omega) (by omega), show (i : Int) + 1 = ((i + 1 : Nat) : Int) by omega]
      refine ev_eq (has_from l n hl m (i + 1) (by omega)) ?_
      rw [hd]
      exact decide_eq_decide.2 (by rw [List.mem_cons]; exact ⟨.inr, fun h => h.resolve_left (fun e => hq e.symm)⟩)
theorem has_ev (l : List Int) (n : Int) (hl : l.length ≤ 1000) : Ev (fun k => jobshellref25_Has.f k l n) (decide (n ∈ l)) := by
  have := has_from l n hl l.length 0 (by omega)
  rwa [List.drop_zero] at this
theorem index_from (l : List Int) (n : Int) (hl : l.length ≤ 1000) : ∀ (m i : Nat), i + m = l.length → ∃ r : Int, (r ≥ 0 ↔ n ∈ l.drop i) ∧ Ev (fun k => slices_Index_int_int.l0 k l n (l.length : Int) (i : Int)) r
  | 0, i, h => ⟨-1, by rw [List.drop_eq_nil_of_le (by omega)]; simp, Ev.step (fun k => by apply slices_Index_int_int.l0.eq_2) (ev_neg (by omega) (ev_some rfl))⟩
  | m + 1, i, h => by
    have hi : i < l.length := by omega
    have hd := drop_at l i hi
    have hr : rd l (i : Int) = l.getD i 0 := rfl
    by_cases hq : n = l.getD i 0
    · refine ⟨i, by rw [hd, ← hq]; simp, Ev.step (fun k => by apply slices_Index_int_int.l0.eq_2) (ev_pos (by omega) (ev_pos (by omega) (ev_pos (by omega) (ev_pos (by rw [hr]; exact hq) (ev_some rfl)))))⟩
    · obtain ⟨r, h1, h2⟩ := index_from l n hl m (i + 1) (by omega)
      refine ⟨r, by rw [h1, hd, List.mem_cons]; exact ⟨.inr, fun h => h.resolve_left hq⟩, Ev.step (fun k => by apply slices_Index_int_int.l0.eq_2) (ev_pos (by omega) (ev_pos (by omega) (ev_pos (by omega) (ev_neg (by rw [hr]; exact hq) ?_))))⟩
      rw [wrap_in (by omega) (by omega), show (i : Int) + 1 = ((i + 1 : Nat) : Int) by omega]
      exact h2
theorem contains_ev (l : List Int) (n : Int) (hl : l.length ≤ 1000) : Ev (fun k => slices_Contains_int_int.f k l n) (decide (n ∈ l)) := by
  obtain ⟨r, h1, h2⟩ := index_from l n hl l.length 0 (by omega)
  rw [List.drop_zero] at h1
  exact Ev.bind h2 (ev_some (congrArg some (decide_eq_decide.2 h1)))
/-- From i on, a list has signals only, each above the one ahead. -/
def okFrom (l : List Int) (i : Nat) : Prop := ∀ j, i ≤ j → j < l.length → named (l.getD j 0) ∧ (0 < j → l.getD (j - 1) 0 < l.getD j 0)
theorem ok_next {l : List Int} {i : Nat} (h : named (l.getD i 0) ∧ (0 < i → l.getD (i - 1) 0 < l.getD i 0)) : okFrom l i ↔ okFrom l (i + 1) := by
  constructor
  · exact fun k j h1 h2 => k j (by omega) h2
  · intro k j h1 h2
    by_cases e : j = i
    · subst e; exact h
    · exact k j (by omega) h2
theorem list_from (l : List Int) (hl : l.length ≤ 1000) : ∀ (m i : Nat), i + m = l.length → ∃ b : Bool, (b = true ↔ okFrom l i) ∧ Ev (fun k => jobshellref25_list.l0 k l (i : Int)) b
  | 0, i, h => ⟨true, ⟨fun _ j h1 h2 => by omega, fun _ => rfl⟩, Ev.step (fun k => by apply jobshellref25_list.l0.eq_2) (ev_neg (by omega) (ev_some rfl))⟩
  | m + 1, i, h => by
    have hi : i < l.length := by omega
    have hr : rd l (i : Int) = l.getD i 0 := rfl
    have go : ∀ {b : Bool} {g : Nat → Option Bool}, (∀ k, g k = (if ((sigName (l.getD i 0)).toList = ([] : List UInt8)) then some false else (if (i : Int) > 0 then (if 0 ≤ (wrap64 ((i : Int) - 1)) then (if (wrap64 ((i : Int) - 1)) < (l.length : Int) then (if (rd l (i : Int)) ≤ (rd l (wrap64 ((i : Int) - 1))) then (some false) else (jobshellref25_list.l0 k l (wrap64 ((i : Int) + 1)))) else (none)) else (none)) else (jobshellref25_list.l0 k l (wrap64 ((i : Int) + 1)))))) → Ev g b → Ev (fun k => jobshellref25_list.l0 k l (i : Int)) b := by
      intro b g hg hb
      refine Ev.step (fun k => by apply jobshellref25_list.l0.eq_2) (ev_pos (by omega) (ev_pos (by omega) ?_))
      refine ev_bindc (by rw [hr]; exact name_eq _) ?_
      exact Ev.congr (fun k => (hg k).symm) hb
    by_cases hn : named (l.getD i 0)
    · by_cases h0 : 0 < i
      · have hw : wrap64 ((i : Int) - 1) = ((i - 1 : Nat) : Int) := by rw [wrap_in (by omega) (by omega)]; omega
        have hr2 : rd l ((i - 1 : Nat) : Int) = l.getD (i - 1) 0 := rfl
        by_cases hle : l.getD i 0 ≤ l.getD (i - 1) 0
        · exact ⟨false, ⟨fun h => (by cases h), fun h => absurd ((h i (Nat.le_refl _) hi).2 h0) (by omega)⟩, go (fun k => rfl) (ev_neg hn (ev_pos (by omega) (by rw [hw]; exact ev_pos (by omega) (ev_pos (by omega) (ev_pos (by rw [hr, hr2]; exact hle) (ev_some rfl))))))⟩
        · obtain ⟨b, h1, h2⟩ := list_from l hl m (i + 1) (by omega)
          refine ⟨b, h1.trans (ok_next ⟨hn, fun _ => by omega⟩).symm, go (fun k => rfl) (ev_neg hn (ev_pos (by omega) (by rw [hw]; refine ev_pos (by omega) (ev_pos (by omega) (ev_neg (by rw [hr, hr2]; exact hle) ?_)); rw [wrap_in (by omega) (by omega), show (i : Int) + 1 = ((i + 1 : Nat) : Int) by omega]; exact h2)))⟩
      · obtain ⟨b, h1, h2⟩ := list_from l hl m (i + 1) (by omega)
        refine ⟨b, h1.trans (ok_next ⟨hn, fun h => absurd h h0⟩).symm, go (fun k => rfl) (ev_neg hn (ev_neg (by omega) (by rw [wrap_in (by omega) (by omega), show (i : Int) + 1 = ((i + 1 : Nat) : Int) by omega]; exact h2)))⟩
    · exact ⟨false, ⟨fun h => (by cases h), fun h => absurd (h i (Nat.le_refl _) hi).1 hn⟩, go (fun k => rfl) (ev_pos (Decidable.not_not.1 hn) (ev_some rfl))⟩
theorem asc_list (l : List Int) : ∀ (k : Nat) (i : Int), signal_ascending.l0 k l l (l.length : Int) i = jobshellref25_list.l0 k l i
  | 0, _ => rfl
  | k + 1, i => by
    unfold signal_ascending.l0 jobshellref25_list.l0
    by_cases h1 : i < (l.length : Int)
    · simp only [h1, if_true, name_f, name_eq, asc_list l k]
    · simp only [h1, if_false]
theorem list_ev (l : List Int) (hl : l.length ≤ 1000) : ∃ b : Bool, (b = true ↔ okFrom l 0) ∧ Ev (fun k => jobshellref25_list.f k l) b ∧ Ev (fun k => signal_ascending.f k l) b := by
  obtain ⟨b, h1, h2⟩ := list_from l hl l.length 0 (by omega)
  exact ⟨b, h1, h2, Ev.congr (fun k => asc_list l k 0) h2⟩
theorem ok_named {l : List Int} (h : okFrom l 0) {x : Int} (hx : x ∈ l) : named x := by
  obtain ⟨j, hj, rfl⟩ := List.getElem_of_mem hx
  have := (h j (Nat.zero_le _) hj).1
  rwa [List.getD_eq_getElem?_getD, List.getElem?_eq_getElem hj] at this
end Go.Proofs.YtnkkdpjipfjdaaaDoor.Sg

end
section
namespace Go.Proofs.YtnkkdpjipfjdaaaDoor.Sg
open Go.RowKit Go.Proofs.YtnkkdpjipfjdaaaDoor.Q Go.Proofs.YtnkkdpjipfjdaaaDoorW.PrintWords Go.Proofs.YtnkkdpjipfjdaaaDoorW.PrintLast Go.Proofs.YtnkkdpjipfjdaaaDoorM Go.Proofs.YtnkkdpjipfjdaaaDoor.Ix
set_option linter.unusedVariables false
set_option linter.unusedSectionVars false
theorem ite_iff {c d : Prop} [Decidable c] [Decidable d] {a b : Int} (h : c ↔ d) : (if c then a else b) = if d then a else b := by
  by_cases k : c
  · rw [if_pos k, if_pos (h.1 k)]
  · rw [if_neg k, if_neg (fun e => k (h.2 e))]
def stopsB (n : Int) : Bool := n == 19 || (n == 20 || (n == 4 || n == 5))
theorem stops_ref (n : Int) : jobshellref25_stops.f n = some (stopsB n) := by
  unfold jobshellref25_stops.f stopsB
  by_cases h1 : n = 19
  · subst h1; rfl
  · by_cases h2 : n = 20
    · subst h2; rfl
    · by_cases h3 : n = 4
      · subst h3; rfl
      · rw [if_neg h1, if_neg h2, if_neg h3, beq_eq_false_iff_ne.2 h1, beq_eq_false_iff_ne.2 h2, beq_eq_false_iff_ne.2 h3]; rfl
def badA (g c : List Int) (m : Int) : Prop := ((m = 9 ∨ m = 19) ∧ (m ∈ g ∨ m ∈ c)) ∨ (m ∈ g ∧ m ∈ c)
def badB (p g : List Int) (m : Int) : Prop := (m ≠ 18 ∧ m ∈ p ∧ m ∈ g) ∨ (stopsB m = true ∧ m ∈ p ∧ (18 : Int) ∈ p)
instance (g c : List Int) (m : Int) : Decidable (badA g c m) := by unfold badA; infer_instance
instance (p g : List Int) (m : Int) : Decidable (badB p g m) := by unfold badB; infer_instance
section
variable (p g c : List Int) (hp : p.length ≤ 1000) (hg : g.length ≤ 1000) (hc : c.length ≤ 1000)
include hp hg hc
theorem j4_ev (n : Int) (h0 : 1 ≤ n) (h1 : n ≤ 20) (x : Bool) (r : Int) (hr : Ev (fun k => jobshellref25_Valid.l1 k (n + 1) p g c) r) :
    Ev (fun k => jobshellref25_Valid.j4 k n x p g c) (if x = true ∨ (stopsB n = true ∧ n ∈ p ∧ (18 : Int) ∈ p) then 25 else r) := by
  refine Ev.step (fun k => by apply jobshellref25_Valid.j4.eq_2) ?_
  cases x with
  | true => rw [if_pos (.inl rfl)]; exact ev_pos rfl (ev_some rfl)
  | false =>
    refine ev_neg (by simp) (ev_bindc (stops_ref n) ?_)
    rw [wrap_in (by omega) (by omega)]
    by_cases hs : stopsB n = true
    · refine ev_pos hs (Ev.bind (has_ev p n hp) ?_)
      by_cases hn : n ∈ p
      · refine ev_pos (decide_eq_true hn) (Ev.bind (has_ev p 18 hp) ?_)
        by_cases h18 : (18 : Int) ∈ p
        · rw [if_pos (.inr ⟨hs, hn, h18⟩)]; exact ev_pos (decide_eq_true h18) (ev_some rfl)
        · rw [if_neg (fun h => h.elim (by simp) (fun h => h18 h.2.2))]; exact ev_neg (by simp [h18]) hr
      · rw [if_neg (fun h => h.elim (by simp) (fun h => hn h.2.1))]; exact ev_neg (by simp [hn]) hr
    · rw [if_neg (fun h => h.elim (by simp) (fun h => hs h.1))]; exact ev_neg hs hr
theorem l1_ev : ∀ (m : Nat) (n : Int), 1 ≤ n → n + m = 21 → ∃ r : Int, Ev (fun k => jobshellref25_Valid.l1 k n p g c) r ∧ ((r = 25 ∧ ∃ x, n ≤ x ∧ x ≤ 20 ∧ badB p g x) ∨ (r = 0 ∧ ∀ x, n ≤ x → x ≤ 20 → ¬ badB p g x))
  | 0, n, h0, h => ⟨0, Ev.step (fun k => by apply jobshellref25_Valid.l1.eq_2) (ev_neg (by omega) (ev_some rfl)), .inr ⟨rfl, fun x h1 h2 => by omega⟩⟩
  | m + 1, n, h0, h => by
    obtain ⟨r, h1, h2⟩ := l1_ev m (n + 1) (by omega) (by omega)
    refine ⟨if badB p g n then 25 else r, ?_, ?_⟩
    · refine Ev.step (fun k => by apply jobshellref25_Valid.l1.eq_2) (ev_pos (by omega) ?_)
      by_cases h18 : n = 18
      · refine ev_pos h18 (ev_eq (j4_ev p g c hp hg hc n h0 (by omega) false r h1) ?_)
        refine ite_iff ?_
        unfold badB
        constructor
        · exact fun h => h.elim (by simp) .inr
        · exact fun h => h.elim (fun h => absurd h18 h.1) .inr
      · refine ev_neg h18 (Ev.bind (has_ev p n hp) ?_)
        by_cases hn : n ∈ p
        · refine ev_pos (decide_eq_true hn) (Ev.bind (has_ev g n hg) (ev_eq (j4_ev p g c hp hg hc n h0 (by omega) _ r h1) ?_))
          refine ite_iff ?_
          unfold badB
          simp only [decide_eq_true_eq]
          constructor
          · exact fun h => h.elim (fun h => .inl ⟨h18, hn, h⟩) .inr
          · exact fun h => h.elim (fun h => .inl h.2.2) .inr
        · refine ev_neg (by simp [hn]) (ev_eq (j4_ev p g c hp hg hc n h0 (by omega) false r h1) ?_)
          refine ite_iff ?_
          unfold badB
          constructor
          · exact fun h => h.elim (by simp) .inr
          · exact fun h => h.elim (fun h => absurd h.2.1 hn) .inr
    · by_cases hb : badB p g n
      · rw [if_pos hb]; exact .inl ⟨rfl, n, Int.le_refl _, by omega, hb⟩
      · rw [if_neg hb]
        rcases h2 with ⟨e, x, x1, x2, x3⟩ | ⟨e, hx⟩
        · exact .inl ⟨e, x, by omega, x2, x3⟩
        · refine .inr ⟨e, fun x x1 x2 => ?_⟩
          by_cases hxn : x = n
          · subst hxn; exact hb
          · exact hx x (by omega) x2
theorem j2_ev (n : Int) (h0 : 1 ≤ n) (h1 : n ≤ 20) (x : Bool) (hx : x = true ↔ n = 9 ∨ n = 19) (r : Int) (hr : Ev (fun k => jobshellref25_Valid.l0 k (n + 1) p g c) r) :
    Ev (fun k => jobshellref25_Valid.j2 k n x p g c) (if badA g c n then 1 else r) := by
  refine Ev.step (fun k => by apply jobshellref25_Valid.j2.eq_2) ?_
  rw [wrap_in (by omega) (by omega)]
  by_cases h9 : n = 9 ∨ n = 19
  · refine ev_pos (hx.2 h9) (Ev.bind (has_ev g n hg) ?_)
    by_cases hn : n ∈ g
    · rw [if_pos (.inl ⟨h9, .inl hn⟩)]; exact ev_pos (decide_eq_true hn) (ev_some rfl)
    · refine ev_neg (by simp [hn]) (Ev.bind (has_ev c n hc) ?_)
      by_cases hm : n ∈ c
      · rw [if_pos (.inl ⟨h9, .inr hm⟩)]; exact ev_pos (decide_eq_true hm) (ev_some rfl)
      · rw [if_neg (fun h => h.elim (fun h => h.2.elim hn hm) (fun h => hn h.1))]; exact ev_neg (by simp [hm]) hr
  · refine ev_neg (fun h => h9 (hx.1 h)) (Ev.bind (has_ev g n hg) ?_)
    by_cases hn : n ∈ g
    · refine ev_pos (decide_eq_true hn) (Ev.bind (has_ev c n hc) ?_)
      by_cases hm : n ∈ c
      · rw [if_pos (.inr ⟨hn, hm⟩)]; exact ev_pos (decide_eq_true hm) (ev_some rfl)
      · rw [if_neg (fun h => h.elim (fun h => h9 h.1) (fun h => hm h.2))]; exact ev_neg (by simp [hm]) hr
    · rw [if_neg (fun h => h.elim (fun h => h9 h.1) (fun h => hn h.1))]; exact ev_neg (by simp [hn]) hr
theorem l0_ev (r1 : Int) (hr1 : Ev (fun k => jobshellref25_Valid.l1 k 1 p g c) r1) : ∀ (m : Nat) (n : Int), 1 ≤ n → n + m = 21 → ∃ r : Int, Ev (fun k => jobshellref25_Valid.l0 k n p g c) r ∧ ((r = 1 ∧ ∃ x, n ≤ x ∧ x ≤ 20 ∧ badA g c x) ∨ (r = r1 ∧ ∀ x, n ≤ x → x ≤ 20 → ¬ badA g c x))
  | 0, n, h0, h => ⟨r1, Ev.step (fun k => by apply jobshellref25_Valid.l0.eq_2) (ev_neg (by omega) hr1), .inr ⟨rfl, fun x h1 h2 => by omega⟩⟩
  | m + 1, n, h0, h => by
    obtain ⟨r, h1, h2⟩ := l0_ev r1 hr1 m (n + 1) (by omega) (by omega)
    refine ⟨if badA g c n then 1 else r, ?_, ?_⟩
    · refine Ev.step (fun k => by apply jobshellref25_Valid.l0.eq_2) (ev_pos (by omega) ?_)
      by_cases h9 : n = 9
      · exact ev_pos h9 (j2_ev p g c hp hg hc n h0 (by omega) true ⟨fun _ => .inl h9, fun _ => rfl⟩ r h1)
      · exact ev_neg h9 (j2_ev p g c hp hg hc n h0 (by omega) (n == 19) ⟨fun h => .inr (beq_iff_eq.1 h), fun h => beq_iff_eq.2 (h.resolve_left h9)⟩ r h1)
    · by_cases hb : badA g c n
      · rw [if_pos hb]; exact .inl ⟨rfl, n, Int.le_refl _, by omega, hb⟩
      · rw [if_neg hb]
        rcases h2 with ⟨e, x, x1, x2, x3⟩ | ⟨e, hx⟩
        · exact .inl ⟨e, x, by omega, x2, x3⟩
        · refine .inr ⟨e, fun x x1 x2 => ?_⟩
          by_cases hxn : x = n
          · subst hxn; exact hb
          · exact hx x (by omega) x2
/-- What the reference's Valid answers. -/
theorem valid_ref : ∃ r : Int, Ev (fun k => jobshellref25_Valid.f k p g c) r ∧
    ((r = 1 ∧ ¬ (okFrom p 0 ∧ okFrom g 0 ∧ okFrom c 0)) ∨
     ((okFrom p 0 ∧ okFrom g 0 ∧ okFrom c 0) ∧ ((r = 1 ∧ ∃ x, badA g c x) ∨ ((∀ x, ¬ badA g c x) ∧ ((r = 25 ∧ ∃ x, badB p g x) ∨ (r = 0 ∧ ∀ x, ¬ badB p g x)))))) := by
  obtain ⟨b1, e1, f1, _⟩ := list_ev p hp
  obtain ⟨b2, e2, f2, _⟩ := list_ev g hg
  obtain ⟨b3, e3, f3, _⟩ := list_ev c hc
  have out : Ev (fun k => jobshellref25_Valid.j0 k true p g c) 1 := Ev.step (fun k => by apply jobshellref25_Valid.j0.eq_2) (ev_pos rfl (ev_some rfl))
  cases b1 with
  | false => exact ⟨1, Ev.bind f1 (ev_neg (by simp) out), .inl ⟨rfl, fun h => by simpa using e1.2 h.1⟩⟩
  | true =>
    cases b2 with
    | false => exact ⟨1, Ev.bind f1 (ev_pos rfl (Ev.bind f2 (ev_neg (by simp) out))), .inl ⟨rfl, fun h => by simpa using e2.2 h.2.1⟩⟩
    | true =>
      cases b3 with
      | false => exact ⟨1, Ev.bind f1 (ev_pos rfl (Ev.bind f2 (ev_pos rfl (Ev.bind f3 out)))), .inl ⟨rfl, fun h => by simpa using e3.2 h.2.2⟩⟩
      | true =>
        have k1 := e1.1 rfl
        have k2 := e2.1 rfl
        have k3 := e3.1 rfl
        obtain ⟨r1, g1, s1⟩ := l1_ev p g c hp hg hc 20 1 (by omega) (by omega)
        obtain ⟨r0, g0, s0⟩ := l0_ev p g c hp hg hc r1 g1 20 1 (by omega) (by omega)
        have hA : ∀ x, badA g c x → 1 ≤ x ∧ x ≤ 20 := fun x h => h.elim (fun h => h.2.elim (fun h => named_in (ok_named k2 h)) (fun h => named_in (ok_named k3 h))) (fun h => named_in (ok_named k2 h.1))
        have hB : ∀ x, badB p g x → 1 ≤ x ∧ x ≤ 20 := fun x h => h.elim (fun h => named_in (ok_named k1 h.2.1)) (fun h => named_in (ok_named k1 h.2.1))
        refine ⟨r0, Ev.bind f1 (ev_pos rfl (Ev.bind f2 (ev_pos rfl (Ev.bind f3 (Ev.step (fun k => by apply jobshellref25_Valid.j0.eq_2) (ev_neg (by simp) g0)))))), .inr ⟨⟨k1, k2, k3⟩, ?_⟩⟩
        rcases s0 with ⟨e, x, _, _, hx⟩ | ⟨e, hx⟩
        · exact .inl ⟨e, x, hx⟩
        · refine .inr ⟨fun x h => hx x (hA x h).1 (hA x h).2 h, ?_⟩
          rcases s1 with ⟨e', y, _, _, hy⟩ | ⟨e', hy⟩
          · exact .inl ⟨e.trans e', y, hy⟩
          · exact .inr ⟨e.trans e', fun x h => hy x (hB x h).1 (hB x h).2 h⟩
end
end Go.Proofs.YtnkkdpjipfjdaaaDoor.Sg

end
