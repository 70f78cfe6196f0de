/- Own texts of one claim, put one behind the other by wip/tool/pack.py: words beside the print's, what each printed function computes, and the plain laws. -/
import Derived.Test.YtnkkdpjipfjdaaaDoorKSdD
section
-- Written by wip/tool/myprint.py, a program of this repo that drives the kit's print over hand-written contracts; Lean checks it.
namespace Go.Proofs.YtnkkdpjipfjdaaaDoor.Q
open Go.RowKit Go.Proofs.YtnkkdpjipfjdaaaDoorW.PrintWords Go.Proofs.YtnkkdpjipfjdaaaDoorW.PrintLast Go.Proofs.YtnkkdpjipfjdaaaDoorW.PrintMore Go.Proofs.YtnkkdpjipfjdaaaDoorM
open Kd
attribute [local go_sem] max2_int min2_int max_two min_two max_three min_three max_four min_four   -- for this text's walks alone
set_option linter.unusedVariables false
set_option linter.unusedSimpArgs false
mutual
def jobshellref25_Send.j0 : Nat → Int → List Int → List Int → List Int → Option (List Int × List Int × List Int)
 | 0, _, _, _, _ => none
 | k + 1, x1, x315000, x315001, x315002 => (jobshellref25_stops.f x1).bind fun t329 => (if t329 = true then ((jobshellref25_drop.f k x315000 18).bind fun t330 => (jobshellref25_Send.j1 k x1 t330 x315001 x315002)) else (jobshellref25_Send.j1 k x1 x315000 x315001 x315002))
def jobshellref25_Send.j1 : Nat → Int → List Int → List Int → List Int → Option (List Int × List Int × List Int)
 | 0, _, _, _, _ => none
 | k + 1, x1, x315000, x315001, x315002 => if x1 = 18 then ((jobshellref25_add.f k x315000 x1).bind fun t333 => (some (t333, x315001, x315002))) else ((jobshellref25_Has.f k x315001 x1).bind fun t336 => (if t336 = true then (some (x315000, x315001, x315002)) else ((jobshellref25_add.f k x315000 x1).bind fun t337 => (some (t337, x315001, x315002)))))
end
def jobshellref25_Send.f (k : Nat) (l0_0 : List Int) (l0_1 : List Int) (l0_2 : List Int) (a1 : Int) : Option (List Int × List Int × List Int) := (jobshellref25_Name.f a1).bind fun t316 => (if t316.toList = ([] : List UInt8) then (some (l0_0, l0_1, l0_2)) else (if a1 = 18 then ((jobshellref25_drop.f k l0_0 19).bind fun t317 => ((jobshellref25_drop.f k t317 20).bind fun t320 => ((jobshellref25_drop.f k t320 4).bind fun t323 => ((jobshellref25_drop.f k t323 5).bind fun t326 => (jobshellref25_Send.j0 k a1 t326 l0_1 l0_2))))) else (jobshellref25_Send.j0 k a1 l0_0 l0_1 l0_2)))
theorem jobshellref25_Send.mono_l : ∀ k, (∀ y0 y1 y2 y3, LeO (jobshellref25_Send.j0 k y0 y1 y2 y3) (jobshellref25_Send.j0 (k + 1) y0 y1 y2 y3)) ∧ (∀ y0 y1 y2 y3, LeO (jobshellref25_Send.j1 k y0 y1 y2 y3) (jobshellref25_Send.j1 (k + 1) y0 y1 y2 y3))
 | 0 => ⟨fun _ _ _ _ r h => by simp [jobshellref25_Send.j0] at h, fun _ _ _ _ r h => by simp [jobshellref25_Send.j1] at h⟩
 | k + 1 => by
  obtain ⟨ih0, ih1⟩ := jobshellref25_Send.mono_l k
  refine ⟨?_, ?_⟩
  ·intro y0 y1 y2 y3
   unfold jobshellref25_Send.j0
   repeat' first
   | (with_reducible exact ih0 _ _ _ _)
   | (with_reducible exact ih1 _ _ _ _)
   | (with_reducible exact jobshellref25_Has.mono _ _ _)
   | (with_reducible exact jobshellref25_add.mono _ _ _)
   | (with_reducible exact jobshellref25_drop.mono _ _ _)
   | (with_reducible exact LeO.refl _)
   | (with_reducible exact LeO.none _)
   | (with_reducible refine LeO.ite ?_ ?_)
   | (with_reducible refine LeO.bind ?_ (fun _ => ?_))
   | exact ih0 _ _ _ _
   | exact ih1 _ _ _ _
   | exact jobshellref25_Has.mono _ _ _
   | exact jobshellref25_add.mono _ _ _
   | exact jobshellref25_drop.mono _ _ _
   | exact LeO.none _
   | refine LeO.ite ?_ ?_
   | refine LeO.bind ?_ (fun _ => ?_)
  ·intro y0 y1 y2 y3
   unfold jobshellref25_Send.j1
   repeat' first
   | (with_reducible exact ih0 _ _ _ _)
   | (with_reducible exact ih1 _ _ _ _)
   | (with_reducible exact jobshellref25_Has.mono _ _ _)
   | (with_reducible exact jobshellref25_add.mono _ _ _)
   | (with_reducible exact jobshellref25_drop.mono _ _ _)
   | (with_reducible exact LeO.refl _)
   | (with_reducible exact LeO.none _)
   | (with_reducible refine LeO.ite ?_ ?_)
   | (with_reducible refine LeO.bind ?_ (fun _ => ?_))
   | exact ih0 _ _ _ _
   | exact ih1 _ _ _ _
   | exact jobshellref25_Has.mono _ _ _
   | exact jobshellref25_add.mono _ _ _
   | exact jobshellref25_drop.mono _ _ _
   | exact LeO.none _
   | refine LeO.ite ?_ ?_
   | refine LeO.bind ?_ (fun _ => ?_)
theorem jobshellref25_Send.mono : ∀ a0 a1 a2 a3 k, LeO (jobshellref25_Send.f k a0 a1 a2 a3) (jobshellref25_Send.f (k + 1) a0 a1 a2 a3) := by
 intro a0 a1 a2 a3 k
 obtain ⟨ih0, ih1⟩ := jobshellref25_Send.mono_l k
 unfold jobshellref25_Send.f
 repeat' first
   | (with_reducible exact ih0 _ _ _ _)
   | (with_reducible exact ih1 _ _ _ _)
   | (with_reducible exact jobshellref25_Has.mono _ _ _)
   | (with_reducible exact jobshellref25_add.mono _ _ _)
   | (with_reducible exact jobshellref25_drop.mono _ _ _)
   | (with_reducible exact LeO.refl _)
   | (with_reducible exact LeO.none _)
   | (with_reducible refine LeO.ite ?_ ?_)
   | (with_reducible refine LeO.bind ?_ (fun _ => ?_))
   | exact ih0 _ _ _ _
   | exact ih1 _ _ _ _
   | exact jobshellref25_Has.mono _ _ _
   | exact jobshellref25_add.mono _ _ _
   | exact jobshellref25_drop.mono _ _ _
   | exact LeO.none _
   | refine LeO.ite ?_ ?_
   | refine LeO.bind ?_ (fun _ => ?_)
set_option maxHeartbeats 8000000 in
set_option maxRecDepth 10000000 in
theorem jobshellref25_Send.calls (k : Nat) (P0_0_ : Nat → Prop) (A0_0 : Option Addr) (c0_0 : Nat) (l0_0 : List Int) (P0_1_ : Nat → Prop) (A0_1 : Option Addr) (c0_1 : Nat) (l0_1 : List Int) (P0_2_ : Nat → Prop) (A0_2 : Option Addr) (c0_2 : Nat) (l0_2 : List Int) (a1 : Int) (r1 : List Int) (r2 : List Int) (r3 : List Int) (w : World) (hs0_0 : Kd.V (Kd.int .i64) 3 w w.heap.size (fun k_ => P0_0_ k_) (.slice A0_0 l0_0.length c0_0) l0_0) (hs0_1 : Kd.V (Kd.int .i64) 3 w w.heap.size (fun k_ => P0_1_ k_) (.slice A0_1 l0_1.length c0_1) l0_1) (hs0_2 : Kd.V (Kd.int .i64) 3 w w.heap.size (fun k_ => P0_2_ k_) (.slice A0_2 l0_2.length c0_2) l0_2) (h : jobshellref25_Send.f k l0_0 l0_1 l0_2 a1 = some (r1, r2, r3)) :
  Calls Tryd.prog 23 #[.agg #[.slice A0_0 l0_0.length c0_0, .slice A0_1 l0_1.length c0_1, .slice A0_2 l0_2.length c0_2], .int .i64 a1] w fun e w' => ∃ v0_ v1_ v2_ : Value, e = .returned (.agg #[v0_, v1_, v2_]) ∧ Kd.V (Kd.int .i64) 3 w' w.heap.size (fun k_ => ((P0_0_ k_ ∨ P0_1_ k_ ∨ P0_2_ k_) ∨ w.heap.size ≤ k_)) v0_ r1 ∧ Kd.V (Kd.int .i64) 3 w' w.heap.size (fun k_ => ((P0_0_ k_ ∨ P0_1_ k_ ∨ P0_2_ k_) ∨ w.heap.size ≤ k_)) v1_ r2 ∧ Kd.V (Kd.int .i64) 3 w' w.heap.size (fun k_ => ((P0_0_ k_ ∨ P0_1_ k_ ∨ P0_2_ k_) ∨ w.heap.size ≤ k_)) v2_ r3 ∧ Below w.heap.size w w' := by
 have hu30 := Tryd.underlying30
 have HO0_0 := Zk (show Kd.V (Kd.int .i64) 3 w w.heap.size (fun k_ => ((P0_0_ k_ ∨ P0_1_ k_ ∨ P0_2_ k_) ∨ w.heap.size ≤ k_)) (.slice A0_0 l0_0.length c0_0) l0_0 from V_mono hs0_0 (fun k_ hk => .inl (.inl hk)))
 have HO0_1 := Zk (show Kd.V (Kd.int .i64) 3 w w.heap.size (fun k_ => ((P0_0_ k_ ∨ P0_1_ k_ ∨ P0_2_ k_) ∨ w.heap.size ≤ k_)) (.slice A0_1 l0_1.length c0_1) l0_1 from V_mono hs0_1 (fun k_ hk => .inl (.inr (.inl hk))))
 have HO0_2 := Zk (show Kd.V (Kd.int .i64) 3 w w.heap.size (fun k_ => ((P0_0_ k_ ∨ P0_1_ k_ ∨ P0_2_ k_) ∨ w.heap.size ≤ k_)) (.slice A0_2 l0_2.length c0_2) l0_2 from V_mono hs0_2 (fun k_ hk => .inl (.inr (.inr hk))))
 have HB := Zk (Below.refl w.heap.size w)
 have H : ((jobshellref25_Name.f a1).bind fun t316 => (if t316.toList = ([] : List UInt8) then (some (l0_0, l0_1, l0_2)) else (if a1 = 18 then ((jobshellref25_drop.f k l0_0 19).bind fun t317 => ((jobshellref25_drop.f k t317 20).bind fun t320 => ((jobshellref25_drop.f k t320 4).bind fun t323 => ((jobshellref25_drop.f k t323 5).bind fun t326 => (jobshellref25_Send.j0 k a1 t326 l0_1 l0_2))))) else (jobshellref25_Send.j0 k a1 l0_0 l0_1 l0_2)))) = some (r1, r2, r3) := h
 clear h
 replace H := Option.bind_eq_some_iff.mp H
 obtain ⟨t316, A30, H⟩ := H
 replace H : (if t316.toList = ([] : List UInt8) then (some (l0_0, l0_1, l0_2)) else (if a1 = 18 then ((jobshellref25_drop.f k l0_0 19).bind fun t317 => ((jobshellref25_drop.f k t317 20).bind fun t320 => ((jobshellref25_drop.f k t320 4).bind fun t323 => ((jobshellref25_drop.f k t323 5).bind fun t326 => (jobshellref25_Send.j0 k a1 t326 l0_1 l0_2))))) else (jobshellref25_Send.j0 k a1 l0_0 l0_1 l0_2))) = some (r1, r2, r3) := H
 have A3 := Zk A30
 clear A30
 by_cases c4 : t316.toList = ([] : List UInt8)
 ·rw [if_pos c4] at H
  have c4b0 : (t316.toList == ([] : List UInt8)) = true := beq_iff_eq.mpr c4
  have c4b1 : (t316.toList != ([] : List UInt8)) = false := bne_eq_false_iff_eq.mpr c4
  clear c4
  simp only [Option.some.injEq, Prod.mk.injEq] at H
  obtain ⟨rfl, rfl, rfl⟩ := H
  go_enter Tryd.func23, Tryd.ntmps23
  go_wp2_with (first | ((with_reducible refine gate_dst (N := 2) rfl ?_); refine box_event ?hg (N := 2) ?hd (cs := #[.slice A0_0 l0_0.length c0_0, .slice A0_1 l0_1.length c0_1, .slice A0_2 l0_2.length c0_2]) (t := 30) ?hr ?_; (case hd => rfl); (case hg => rfl); (case hr => first | (go_simp; done) | (go_simp; rfl)); intro gb314 hg w5 hbox hb; have n0_ := Zk (V_below (V_elderB (by (with_reducible repeat (first | apply V_alloc | apply V_drewN | apply V_drew)); exact HO0_0.out) gb314 (Nat.le_of_eq hg.symm)) hb); have n1_ := Zk (V_below (V_elderB (by (with_reducible repeat (first | apply V_alloc | apply V_drewN | apply V_drew)); exact HO0_1.out) gb314 (Nat.le_of_eq hg.symm)) hb); have n2_ := Zk (V_below (V_elderB (by (with_reducible repeat (first | apply V_alloc | apply V_drewN | apply V_drew)); exact HO0_2.out) gb314 (Nat.le_of_eq hg.symm)) hb); have n3_ := Zk (below_step (by repeat (first | (with_reducible first | exact HB.out | apply below_alloc | apply pw_below_drewN | apply below_drew1) | exact HB.out)) hb); have n4_ := Zk (hbox); have n5_ := Zk ((by rw [hg]; exact (below_size (by repeat (first | (with_reducible first | exact HB.out | apply below_alloc | apply pw_below_drewN | apply below_drew1) | exact HB.out))) : w.heap.size ≤ gb314)); have n6_ := Zk ((by rw [hg]; exact (below_size (by repeat (first | (with_reducible first | exact HB.out | apply below_alloc | apply pw_below_drewN | apply below_drew1) | exact HB.out))) : w.heap.size ≤ gb314)); clear HO0_0; clear HO0_1; clear HO0_2; clear HB; have HO0_0 := n0_; have HO0_1 := n1_; have HO0_2 := n2_; have HB := n3_; have BK314 := n4_; have GW314 := n5_; have GE314 := n6_; clear n0_ n1_ n2_ n3_ n4_ n5_ n6_; clear hb hbox hg) | ((with_reducible refine gate_dst (N := 4) rfl ?_); refine box_event ?hg (N := 4) ?hd (cs := #[.slice none 0 0, .slice none 0 0, .slice none 0 0]) (t := 30) ?hr ?_; (case hd => rfl); (case hg => rfl); (case hr => first | (go_simp; done) | (go_simp; rfl)); intro gb315 hg w6 hbox hb; have n0_ := Zk (V_below (V_elderB (by (with_reducible repeat (first | apply V_alloc | apply V_drewN | apply V_drew)); exact HO0_0.out) gb315 (Nat.le_of_eq hg.symm)) hb); have n1_ := Zk (V_below (V_elderB (by (with_reducible repeat (first | apply V_alloc | apply V_drewN | apply V_drew)); exact HO0_1.out) gb315 (Nat.le_of_eq hg.symm)) hb); have n2_ := Zk (V_below (V_elderB (by (with_reducible repeat (first | apply V_alloc | apply V_drewN | apply V_drew)); exact HO0_2.out) gb315 (Nat.le_of_eq hg.symm)) hb); have n3_ := Zk (blk_below (g := gb314) (o := .cells #[.slice A0_0 l0_0.length c0_0, .slice A0_1 l0_1.length c0_1, .slice A0_2 l0_2.length c0_2] 30 (0, 0)) (by (with_reducible repeat (first | refine blk_drewN ?_ _ | refine blk_drew ?_ | refine blk_alloc ?_ _)); exact BK314.out) hb); have n4_ := Zk (below_step (by repeat (first | (with_reducible first | exact HB.out | apply below_alloc | apply pw_below_drewN | apply below_drew1 | refine below_set ?_ GE314.out) | exact HB.out)) hb); have n5_ := Zk (hbox); have n6_ := Zk ((by rw [hg]; exact (below_size (by repeat (first | (with_reducible first | exact HB.out | apply below_alloc | apply pw_below_drewN | apply below_drew1 | refine below_set ?_ GE314.out) | exact HB.out))) : w.heap.size ≤ gb315)); have n7_ := Zk ((by rw [hg]; exact (below_size (by repeat (first | (with_reducible first | exact HB.out | apply below_alloc | apply pw_below_drewN | apply below_drew1 | refine below_set ?_ GE314.out) | exact HB.out))) : w.heap.size ≤ gb315)); have n8_ := Zk ((by rw [hg]; exact Nat.ne_of_lt (blk_lt (g := gb314) (o := .cells #[.slice A0_0 l0_0.length c0_0, .slice A0_1 l0_1.length c0_1, .slice A0_2 l0_2.length c0_2] 30 (0, 0)) (by (with_reducible repeat (first | refine blk_drewN ?_ _ | refine blk_drew ?_ | refine blk_alloc ?_ _)); exact BK314.out)) : gb314 ≠ gb315)); have n9_ := Zk ((by rw [hg]; exact Nat.ne_of_gt (blk_lt (g := gb314) (o := .cells #[.slice A0_0 l0_0.length c0_0, .slice A0_1 l0_1.length c0_1, .slice A0_2 l0_2.length c0_2] 30 (0, 0)) (by (with_reducible repeat (first | refine blk_drewN ?_ _ | refine blk_drew ?_ | refine blk_alloc ?_ _)); exact BK314.out)) : gb315 ≠ gb314)); clear HO0_0; clear HO0_1; clear HO0_2; clear BK314; clear HB; have HO0_0 := n0_; have HO0_1 := n1_; have HO0_2 := n2_; have BK314 := n3_; have HB := n4_; have BK315 := n5_; have GW315 := n6_; have GE315 := n7_; have NB314_315 := n8_; have NB315_314 := n9_; clear n0_ n1_ n2_ n3_ n4_ n5_ n6_ n7_ n8_ n9_; clear hb hbox hg) | ((with_reducible refine gate_callee (f := 14) rfl ?_); refine goesL_ (some 6) rfl rfl Tryd.func14 (by kernel_rfl) rfl #[.int .i64 a1] rfl (by (try simp only [List.map_toArray, List.map_cons, List.map_nil]); first | done | rfl | (simp only [List.length_drop, List.length_take]; rfl)) ?_; (with_reducible refine (jobshellref25_Name.calls a1 t316 _ A3.out).mono ?_); rintro e w' ⟨rfl, ⟨nd, rfl⟩⟩; refine ⟨_, rfl, ?_⟩; (try (rw [drewN_self w6]; generalize hq_ : World.drewN w6 _ = w6; have n0_ := Zk (V_att hq_ HO0_0.out); have n1_ := Zk (V_att hq_ HO0_1.out); have n2_ := Zk (V_att hq_ HO0_2.out); have n3_ := Zk (blk_at hq_ BK314.out); have n4_ := Zk (blk_at hq_ BK315.out); have n5_ := Zk (below_at hq_ HB.out); clear hq_ HO0_0 HO0_1 HO0_2 BK314 BK315 HB; have HO0_0 := n0_; have HO0_1 := n1_; have HO0_2 := n2_; have BK314 := n3_; have BK315 := n4_; have HB := n5_; clear n0_ n1_ n2_ n3_ n4_ n5_)); have hnb7 := NB314_315.out; have hnc7 := NB315_314.out; have hcz8_0 : w6.cell? ⟨gb314, 0, none⟩ = some (.slice A0_0 l0_0.length c0_0) := (blk_cell BK314.out 0).trans rfl; have hcz8_1 : w6.cell? ⟨gb314, 1, none⟩ = some (.slice A0_1 l0_1.length c0_1) := (blk_cell BK314.out 1).trans rfl; have hcz8_2 : w6.cell? ⟨gb314, 2, none⟩ = some (.slice A0_2 l0_2.length c0_2) := (blk_cell BK314.out 2).trans rfl; have hfz8_0 := blk_frozen BK314.out 0; have hfz8_1 := blk_frozen BK314.out 1; have hfz8_2 := blk_frozen BK314.out 2; have hcz9_0 : w6.cell? ⟨gb315, 0, none⟩ = some (.slice none 0 0) := (blk_cell BK315.out 0).trans rfl; have hcz9_1 : w6.cell? ⟨gb315, 1, none⟩ = some (.slice none 0 0) := (blk_cell BK315.out 1).trans rfl; have hcz9_2 : w6.cell? ⟨gb315, 2, none⟩ = some (.slice none 0 0) := (blk_cell BK315.out 2).trans rfl; have hfz9_0 := blk_frozen BK315.out 0; have hfz9_1 := blk_frozen BK315.out 1; have hfz9_2 := blk_frozen BK315.out 2) | ((with_reducible refine gate_store (t := 30) (p := 4) rfl ?_); refine store_event (t := 30) (p := 4) (v := ?vo_w10) (w1 := (((w6.setCell ⟨gb315, 0, none⟩ (.slice A0_0 l0_0.length c0_0)).setCell ⟨gb315, 1, none⟩ (.slice A0_1 l0_1.length c0_1)).setCell ⟨gb315, 2, none⟩ (.slice A0_2 l0_2.length c0_2))) ?hg ?ho ?hn ?hr ?_; (case ho => rfl); (case hg => rfl); (case hn => rfl); (case hr => first | (go_simp; done) | (go_simp; rfl)); intro w10 hw; have n0_ : Aside0 (Kd.V (Kd.int .i64) 3 w10 w.heap.size (fun k_ => ((P0_0_ k_ ∨ P0_1_ k_ ∨ P0_2_ k_) ∨ w.heap.size ≤ k_) ∧ k_ ≠ gb314 ∧ k_ ≠ gb315) (.slice A0_0 l0_0.length c0_0) l0_0) := ⟨(by rw [hw]; exact (by (with_reducible repeat (first | apply V_alloc | apply V_drewN | apply V_drew)); exact V_mono (V_far (p := ⟨gb315, 2, none⟩) (V_far (p := ⟨gb315, 1, none⟩) (V_far (p := ⟨gb315, 0, none⟩) (V_mono HO0_0.out (fun k_ hk => (⟨hk, hk.2⟩ : _ ∧ k_ ≠ gb315))) (fun _ hk => hk.2) (.slice A0_0 l0_0.length c0_0)) (fun _ hk => hk.2) (.slice A0_1 l0_1.length c0_1)) (fun _ hk => hk.2) (.slice A0_2 l0_2.length c0_2)) (fun _ hk => ⟨hk.1.1.1, ⟨hk.1.1.2, hk.1.2⟩⟩)))⟩; have n1_ : Aside0 (Kd.V (Kd.int .i64) 3 w10 w.heap.size (fun k_ => ((P0_0_ k_ ∨ P0_1_ k_ ∨ P0_2_ k_) ∨ w.heap.size ≤ k_) ∧ k_ ≠ gb314 ∧ k_ ≠ gb315) (.slice A0_1 l0_1.length c0_1) l0_1) := ⟨(by rw [hw]; exact (by (with_reducible repeat (first | apply V_alloc | apply V_drewN | apply V_drew)); exact V_mono (V_far (p := ⟨gb315, 2, none⟩) (V_far (p := ⟨gb315, 1, none⟩) (V_far (p := ⟨gb315, 0, none⟩) (V_mono HO0_1.out (fun k_ hk => (⟨hk, hk.2⟩ : _ ∧ k_ ≠ gb315))) (fun _ hk => hk.2) (.slice A0_0 l0_0.length c0_0)) (fun _ hk => hk.2) (.slice A0_1 l0_1.length c0_1)) (fun _ hk => hk.2) (.slice A0_2 l0_2.length c0_2)) (fun _ hk => ⟨hk.1.1.1, ⟨hk.1.1.2, hk.1.2⟩⟩)))⟩; have n2_ : Aside0 (Kd.V (Kd.int .i64) 3 w10 w.heap.size (fun k_ => ((P0_0_ k_ ∨ P0_1_ k_ ∨ P0_2_ k_) ∨ w.heap.size ≤ k_) ∧ k_ ≠ gb314 ∧ k_ ≠ gb315) (.slice A0_2 l0_2.length c0_2) l0_2) := ⟨(by rw [hw]; exact (by (with_reducible repeat (first | apply V_alloc | apply V_drewN | apply V_drew)); exact V_mono (V_far (p := ⟨gb315, 2, none⟩) (V_far (p := ⟨gb315, 1, none⟩) (V_far (p := ⟨gb315, 0, none⟩) (V_mono HO0_2.out (fun k_ hk => (⟨hk, hk.2⟩ : _ ∧ k_ ≠ gb315))) (fun _ hk => hk.2) (.slice A0_0 l0_0.length c0_0)) (fun _ hk => hk.2) (.slice A0_1 l0_1.length c0_1)) (fun _ hk => hk.2) (.slice A0_2 l0_2.length c0_2)) (fun _ hk => ⟨hk.1.1.1, ⟨hk.1.1.2, hk.1.2⟩⟩)))⟩; have n3_ : Aside0 (w10.heap[gb314]? = some (.cells #[.slice A0_0 l0_0.length c0_0, .slice A0_1 l0_1.length c0_1, .slice A0_2 l0_2.length c0_2] 30 (0, 0))) := ⟨(by rw [hw]; exact (by (with_reducible repeat (first | refine blk_drewN ?_ _ | refine blk_drew ?_ | refine blk_alloc ?_ _)); refine blk_far ?_ NB314_315.out _; (with_reducible repeat (first | refine blk_drewN ?_ _ | refine blk_drew ?_ | refine blk_alloc ?_ _)); refine blk_far ?_ NB314_315.out _; (with_reducible repeat (first | refine blk_drewN ?_ _ | refine blk_drew ?_ | refine blk_alloc ?_ _)); refine blk_far ?_ NB314_315.out _; (with_reducible repeat (first | refine blk_drewN ?_ _ | refine blk_drew ?_ | refine blk_alloc ?_ _)); exact BK314.out))⟩; have n4_ : Aside0 (w10.heap[gb315]? = some (.cells #[.slice A0_0 l0_0.length c0_0, .slice A0_1 l0_1.length c0_1, .slice A0_2 l0_2.length c0_2] 30 (0, 0))) := ⟨(by rw [hw]; exact (by (with_reducible repeat (first | refine blk_drewN ?_ _ | refine blk_drew ?_ | refine blk_alloc ?_ _)); refine blk_put (cs := #[.slice A0_0 l0_0.length c0_0, .slice A0_1 l0_1.length c0_1, .slice none 0 0]) ?_ 2 _ rfl; (with_reducible repeat (first | refine blk_drewN ?_ _ | refine blk_drew ?_ | refine blk_alloc ?_ _)); refine blk_put (cs := #[.slice A0_0 l0_0.length c0_0, .slice none 0 0, .slice none 0 0]) ?_ 1 _ rfl; (with_reducible repeat (first | refine blk_drewN ?_ _ | refine blk_drew ?_ | refine blk_alloc ?_ _)); refine blk_put (cs := #[.slice none 0 0, .slice none 0 0, .slice none 0 0]) ?_ 0 _ rfl; (with_reducible repeat (first | refine blk_drewN ?_ _ | refine blk_drew ?_ | refine blk_alloc ?_ _)); exact BK315.out))⟩; have n5_ : Aside0 (Below w.heap.size w w10) := ⟨(by rw [hw]; exact (by repeat (first | (with_reducible first | exact HB.out | apply below_alloc | apply pw_below_drewN | apply below_drew1 | refine below_set ?_ GE314.out | refine below_set ?_ GE315.out) | exact HB.out)))⟩; clear hw; clear HO0_0; clear HO0_1; clear HO0_2; clear BK314; clear BK315; clear HB; have HO0_0 := n0_; have HO0_1 := n1_; have HO0_2 := n2_; have BK314 := n3_; have BK315 := n4_; have HB := n5_; clear n0_ n1_ n2_ n3_ n4_ n5_))
  refine bodyPost_ret (results_cell_row rfl _ _ gb315 30 #[.slice A0_0 l0_0.length c0_0, .slice A0_1 l0_1.length c0_1, .slice A0_2 l0_2.length c0_2] (0, 0) _ rfl (by (with_reducible repeat (first | refine blk_drewN ?_ _ | refine blk_drew ?_ | refine blk_alloc ?_ _)); exact BK315.out) Tryd.underlying30 rfl (by kernel_rfl)) rfl ?_
  exact ⟨_, _, _, by first | rfl | (simp [errW_none, errW_some] <;> rfl) | (simp [*, errW_none, errW_some] <;> rfl), by (with_reducible repeat (first | apply V_alloc | apply V_drewN | apply V_drew)); exact V_mono HO0_0.out (fun _ hk => hk.1), by (with_reducible repeat (first | apply V_alloc | apply V_drewN | apply V_drew)); exact V_mono HO0_1.out (fun _ hk => hk.1), by (with_reducible repeat (first | apply V_alloc | apply V_drewN | apply V_drew)); exact V_mono HO0_2.out (fun _ hk => hk.1), by repeat (first | (with_reducible first | exact HB.out | apply below_alloc | apply pw_below_drewN | apply below_drew1 | refine below_set ?_ GE314.out | refine below_set ?_ GE315.out) | exact HB.out)⟩
 ·rw [if_neg c4] at H
  have c4b0 : (t316.toList == ([] : List UInt8)) = false := beq_eq_false_iff_ne.mpr c4
  have c4b1 : (t316.toList != ([] : List UInt8)) = true := bne_iff_ne.mpr c4
  have HC11 := Zk H
  clear H
  go_enter Tryd.func23, Tryd.ntmps23
  go_upto_if 10 with (first | ((with_reducible refine gate_dst (N := 2) rfl ?_); refine box_event ?hg (N := 2) ?hd (cs := #[.slice A0_0 l0_0.length c0_0, .slice A0_1 l0_1.length c0_1, .slice A0_2 l0_2.length c0_2]) (t := 30) ?hr ?_; (case hd => rfl); (case hg => rfl); (case hr => first | (go_simp; done) | (go_simp; rfl)); intro gb314 hg w12 hbox hb; have n0_ := Zk (V_below (V_elderB (by (with_reducible repeat (first | apply V_alloc | apply V_drewN | apply V_drew)); exact HO0_0.out) gb314 (Nat.le_of_eq hg.symm)) hb); have n1_ := Zk (V_below (V_elderB (by (with_reducible repeat (first | apply V_alloc | apply V_drewN | apply V_drew)); exact HO0_1.out) gb314 (Nat.le_of_eq hg.symm)) hb); have n2_ := Zk (V_below (V_elderB (by (with_reducible repeat (first | apply V_alloc | apply V_drewN | apply V_drew)); exact HO0_2.out) gb314 (Nat.le_of_eq hg.symm)) hb); have n3_ := Zk (below_step (by repeat (first | (with_reducible first | exact HB.out | apply below_alloc | apply pw_below_drewN | apply below_drew1) | exact HB.out)) hb); have n4_ := Zk (hbox); have n5_ := Zk ((by rw [hg]; exact (below_size (by repeat (first | (with_reducible first | exact HB.out | apply below_alloc | apply pw_below_drewN | apply below_drew1) | exact HB.out))) : w.heap.size ≤ gb314)); have n6_ := Zk ((by rw [hg]; exact (below_size (by repeat (first | (with_reducible first | exact HB.out | apply below_alloc | apply pw_below_drewN | apply below_drew1) | exact HB.out))) : w.heap.size ≤ gb314)); clear HO0_0; clear HO0_1; clear HO0_2; clear HB; have HO0_0 := n0_; have HO0_1 := n1_; have HO0_2 := n2_; have HB := n3_; have BK314 := n4_; have GW314 := n5_; have GE314 := n6_; clear n0_ n1_ n2_ n3_ n4_ n5_ n6_; clear hb hbox hg) | ((with_reducible refine gate_dst (N := 4) rfl ?_); refine box_event ?hg (N := 4) ?hd (cs := #[.slice none 0 0, .slice none 0 0, .slice none 0 0]) (t := 30) ?hr ?_; (case hd => rfl); (case hg => rfl); (case hr => first | (go_simp; done) | (go_simp; rfl)); intro gb315 hg w13 hbox hb; have n0_ := Zk (V_below (V_elderB (by (with_reducible repeat (first | apply V_alloc | apply V_drewN | apply V_drew)); exact HO0_0.out) gb315 (Nat.le_of_eq hg.symm)) hb); have n1_ := Zk (V_below (V_elderB (by (with_reducible repeat (first | apply V_alloc | apply V_drewN | apply V_drew)); exact HO0_1.out) gb315 (Nat.le_of_eq hg.symm)) hb); have n2_ := Zk (V_below (V_elderB (by (with_reducible repeat (first | apply V_alloc | apply V_drewN | apply V_drew)); exact HO0_2.out) gb315 (Nat.le_of_eq hg.symm)) hb); have n3_ := Zk (blk_below (g := gb314) (o := .cells #[.slice A0_0 l0_0.length c0_0, .slice A0_1 l0_1.length c0_1, .slice A0_2 l0_2.length c0_2] 30 (0, 0)) (by (with_reducible repeat (first | refine blk_drewN ?_ _ | refine blk_drew ?_ | refine blk_alloc ?_ _)); exact BK314.out) hb); have n4_ := Zk (below_step (by repeat (first | (with_reducible first | exact HB.out | apply below_alloc | apply pw_below_drewN | apply below_drew1 | refine below_set ?_ GE314.out) | exact HB.out)) hb); have n5_ := Zk (hbox); have n6_ := Zk ((by rw [hg]; exact (below_size (by repeat (first | (with_reducible first | exact HB.out | apply below_alloc | apply pw_below_drewN | apply below_drew1 | refine below_set ?_ GE314.out) | exact HB.out))) : w.heap.size ≤ gb315)); have n7_ := Zk ((by rw [hg]; exact (below_size (by repeat (first | (with_reducible first | exact HB.out | apply below_alloc | apply pw_below_drewN | apply below_drew1 | refine below_set ?_ GE314.out) | exact HB.out))) : w.heap.size ≤ gb315)); have n8_ := Zk ((by rw [hg]; exact Nat.ne_of_lt (blk_lt (g := gb314) (o := .cells #[.slice A0_0 l0_0.length c0_0, .slice A0_1 l0_1.length c0_1, .slice A0_2 l0_2.length c0_2] 30 (0, 0)) (by (with_reducible repeat (first | refine blk_drewN ?_ _ | refine blk_drew ?_ | refine blk_alloc ?_ _)); exact BK314.out)) : gb314 ≠ gb315)); have n9_ := Zk ((by rw [hg]; exact Nat.ne_of_gt (blk_lt (g := gb314) (o := .cells #[.slice A0_0 l0_0.length c0_0, .slice A0_1 l0_1.length c0_1, .slice A0_2 l0_2.length c0_2] 30 (0, 0)) (by (with_reducible repeat (first | refine blk_drewN ?_ _ | refine blk_drew ?_ | refine blk_alloc ?_ _)); exact BK314.out)) : gb315 ≠ gb314)); clear HO0_0; clear HO0_1; clear HO0_2; clear BK314; clear HB; have HO0_0 := n0_; have HO0_1 := n1_; have HO0_2 := n2_; have BK314 := n3_; have HB := n4_; have BK315 := n5_; have GW315 := n6_; have GE315 := n7_; have NB314_315 := n8_; have NB315_314 := n9_; clear n0_ n1_ n2_ n3_ n4_ n5_ n6_ n7_ n8_ n9_; clear hb hbox hg) | ((with_reducible refine gate_callee (f := 14) rfl ?_); refine goesL_ (some 6) rfl rfl Tryd.func14 (by kernel_rfl) rfl #[.int .i64 a1] rfl (by (try simp only [List.map_toArray, List.map_cons, List.map_nil]); first | done | rfl | (simp only [List.length_drop, List.length_take]; rfl)) ?_; (with_reducible refine (jobshellref25_Name.calls a1 t316 _ A3.out).mono ?_); rintro e w' ⟨rfl, ⟨nd, rfl⟩⟩; refine ⟨_, rfl, ?_⟩))
  (try simp only [Act.put, List.setIfInBounds_toArray, List.set_cons_zero, List.set_cons_succ])
  go_cut [] (fun wc => ∃ (kq : Nat) (x315000_10 : List Int) (u315000 : Value), Aside0 (jobshellref25_Send.j0 kq a1 x315000_10 l0_1 l0_2 = some (r1, r2, r3)) ∧ Aside0 (kq ≤ k) ∧ Aside0 (Kd.V (Kd.int .i64) 3 wc w.heap.size (fun k_ => ((P0_0_ k_ ∨ P0_1_ k_ ∨ P0_2_ k_) ∨ w.heap.size ≤ k_) ∧ k_ ≠ gb314 ∧ k_ ≠ gb315) u315000 x315000_10) ∧ Aside0 (Kd.V (Kd.int .i64) 3 wc w.heap.size (fun k_ => ((P0_0_ k_ ∨ P0_1_ k_ ∨ P0_2_ k_) ∨ w.heap.size ≤ k_) ∧ k_ ≠ gb314 ∧ k_ ≠ gb315) (.slice A0_1 l0_1.length c0_1) l0_1) ∧ Aside0 (Kd.V (Kd.int .i64) 3 wc w.heap.size (fun k_ => ((P0_0_ k_ ∨ P0_1_ k_ ∨ P0_2_ k_) ∨ w.heap.size ≤ k_) ∧ k_ ≠ gb314 ∧ k_ ≠ gb315) (.slice A0_2 l0_2.length c0_2) l0_2) ∧ Aside0 (wc.heap[gb314]? = some (.cells #[u315000, (.slice A0_1 l0_1.length c0_1), (.slice A0_2 l0_2.length c0_2)] 30 (0, 0))) ∧ Aside0 (wc.heap[gb315]? = some (.cells #[(.slice none 0 0), (.slice none 0 0), (.slice none 0 0)] 30 (0, 0))) ∧ Aside0 (Below w.heap.size w wc))
  case first =>
   have H := HC11.out
   clear HC11
   by_cases c14 : a1 = 18
   ·rw [if_pos c14] at H
    have c14b0 : (a1 == 18) = true := beq_iff_eq.mpr c14
    have c14b1 : (a1 != 18) = false := bne_eq_false_iff_eq.mpr c14
    clear c14
    (first | rw [c14b0] | (simp only [i64_w, i32_w]; rw [c14b0]) | skip)
    replace H := Option.bind_eq_some_iff.mp H
    obtain ⟨t317, A150, H⟩ := H
    replace H : ((jobshellref25_drop.f k t317 20).bind fun t320 => ((jobshellref25_drop.f k t320 4).bind fun t323 => ((jobshellref25_drop.f k t323 5).bind fun t326 => (jobshellref25_Send.j0 k a1 t326 l0_1 l0_2)))) = some (r1, r2, r3) := H
    have A15 := Zk A150
    clear A150
    replace H := Option.bind_eq_some_iff.mp H
    obtain ⟨t320, A160, H⟩ := H
    replace H : ((jobshellref25_drop.f k t320 4).bind fun t323 => ((jobshellref25_drop.f k t323 5).bind fun t326 => (jobshellref25_Send.j0 k a1 t326 l0_1 l0_2))) = some (r1, r2, r3) := H
    have A16 := Zk A160
    clear A160
    replace H := Option.bind_eq_some_iff.mp H
    obtain ⟨t323, A170, H⟩ := H
    replace H : ((jobshellref25_drop.f k t323 5).bind fun t326 => (jobshellref25_Send.j0 k a1 t326 l0_1 l0_2)) = some (r1, r2, r3) := H
    have A17 := Zk A170
    clear A170
    replace H := Option.bind_eq_some_iff.mp H
    obtain ⟨t326, A180, H⟩ := H
    replace H : (jobshellref25_Send.j0 k a1 t326 l0_1 l0_2) = some (r1, r2, r3) := H
    have A18 := Zk A180
    clear A180
    have H' := Zk H
    clear H
    have hnb19 := NB314_315.out
    have hnc19 := NB315_314.out
    have hcz20_0 : w13.cell? ⟨gb314, 0, none⟩ = some (.slice A0_0 l0_0.length c0_0) := (blk_cell BK314.out 0).trans rfl
    have hcz20_1 : w13.cell? ⟨gb314, 1, none⟩ = some (.slice A0_1 l0_1.length c0_1) := (blk_cell BK314.out 1).trans rfl
    have hcz20_2 : w13.cell? ⟨gb314, 2, none⟩ = some (.slice A0_2 l0_2.length c0_2) := (blk_cell BK314.out 2).trans rfl
    have hfz20_0 := blk_frozen BK314.out 0
    have hfz20_1 := blk_frozen BK314.out 1
    have hfz20_2 := blk_frozen BK314.out 2
    go_wp2_with (first | ((with_reducible refine gate_callee (f := 42) rfl ?_); refine goesL_ (some 13) rfl rfl Tryd.func42 (by kernel_rfl) rfl #[.slice A0_0 l0_0.length c0_0, .int .i64 19] rfl (by (try simp only [List.map_toArray, List.map_cons, List.map_nil]); first | done | rfl | (simp only [List.length_drop, List.length_take]; rfl)) ?_; (with_reducible refine (jobshellref25_drop.calls k _ _ l0_0 19 t317 _ ?side1 ?side2 A15.out).mono ?_); (case side1 => repeat (first | exact (V_reads' HO0_0.out).2.2 | (with_reducible refine C_alloc ?_ _) | (with_reducible refine C_drewN ?_ _) | (with_reducible refine C_drew ?_))); (case side2 => exact (V_reads' HO0_0.out).2.1); rintro e w21 ⟨v318, rfl, ho0, hb⟩; refine ⟨_, rfl, ?_⟩; have n0_ := Zk (V_elder' (by (with_reducible repeat (first | apply V_alloc | apply V_drewN | apply V_drew)); exact HO0_0.out) (R_base ho0) hb); have n1_ := Zk (V_elder' (by (with_reducible repeat (first | apply V_alloc | apply V_drewN | apply V_drew)); exact HO0_1.out) (R_base ho0) hb); have n2_ := Zk (V_elder' (by (with_reducible repeat (first | apply V_alloc | apply V_drewN | apply V_drew)); exact HO0_2.out) (R_base ho0) hb); have n3_ := Zk (R_lower (R_newM (M := fun k_ => (w.heap.size ≤ k_)) ho0 (below_size (by repeat (first | (with_reducible first | exact HB.out | apply below_alloc | apply pw_below_drewN | apply below_drew1 | refine below_set ?_ GE314.out | refine below_set ?_ GE315.out) | exact HB.out))) (fun k_ h_ => h_)) (below_size (by repeat (first | (with_reducible first | exact HB.out | apply below_alloc | apply pw_below_drewN | apply below_drew1 | refine below_set ?_ GE314.out | refine below_set ?_ GE315.out) | exact HB.out)))); have n4_ := Zk (blk_below (g := gb314) (o := .cells #[.slice A0_0 l0_0.length c0_0, .slice A0_1 l0_1.length c0_1, .slice A0_2 l0_2.length c0_2] 30 (0, 0)) (by (with_reducible repeat (first | refine blk_drewN ?_ _ | refine blk_drew ?_ | refine blk_alloc ?_ _)); exact BK314.out) hb); have n5_ := Zk (blk_below (g := gb315) (o := .cells #[.slice none 0 0, .slice none 0 0, .slice none 0 0] 30 (0, 0)) (by (with_reducible repeat (first | refine blk_drewN ?_ _ | refine blk_drew ?_ | refine blk_alloc ?_ _)); exact BK315.out) hb); have n6_ := Zk (below_step (by repeat (first | (with_reducible first | exact HB.out | apply below_alloc | apply pw_below_drewN | apply below_drew1 | refine below_set ?_ GE314.out | refine below_set ?_ GE315.out) | exact HB.out)) hb); clear HO0_0; clear HO0_1; clear HO0_2; clear BK314; clear BK315; clear HB; have HO0_0 := n0_; have HO0_1 := n1_; have HO0_2 := n2_; have HO319 := n3_; have BK314 := n4_; have BK315 := n5_; have HB := n6_; clear n0_ n1_ n2_ n3_ n4_ n5_ n6_; (try clear hb); (try clear hb2); (try clear hk); (try clear hi); (try clear ho0); obtain ⟨Ao22, co22, eo22⟩ := R_slice HO319.out; subst eo22) | ((with_reducible refine gate_callee (f := 42) rfl ?_); refine goesL_ (some 14) rfl rfl Tryd.func42 (by kernel_rfl) rfl #[.slice Ao22 t317.length co22, .int .i64 20] rfl (by (try simp only [List.map_toArray, List.map_cons, List.map_nil]); first | done | rfl | (simp only [List.length_drop, List.length_take]; rfl)) ?_; (with_reducible refine (jobshellref25_drop.calls k _ _ t317 20 t320 _ ?side1 ?side2 A16.out).mono ?_); (case side1 => repeat (first | exact (R_reads' HO319.out).2.2 | (with_reducible refine C_alloc ?_ _) | (with_reducible refine C_drewN ?_ _) | (with_reducible refine C_drew ?_))); (case side2 => exact (R_reads' HO319.out).2.1); rintro e w23 ⟨v321, rfl, ho0, hb⟩; refine ⟨_, rfl, ?_⟩; have n0_ := Zk (V_elder' (by (with_reducible repeat (first | apply V_alloc | apply V_drewN | apply V_drew)); exact HO0_0.out) (R_base ho0) hb); have n1_ := Zk (V_elder' (by (with_reducible repeat (first | apply V_alloc | apply V_drewN | apply V_drew)); exact HO0_1.out) (R_base ho0) hb); have n2_ := Zk (V_elder' (by (with_reducible repeat (first | apply V_alloc | apply V_drewN | apply V_drew)); exact HO0_2.out) (R_base ho0) hb); have n3_ := Zk (R_elder' (by (with_reducible repeat (first | apply R_alloc | apply R_drewN | apply R_drew)); exact HO319.out) (R_base ho0) hb); have n4_ := Zk (R_lower (R_new' (R_newM (M := fun k_ => (w.heap.size ≤ k_)) ho0 (below_size (by repeat (first | (with_reducible first | exact HB.out | apply below_alloc | apply pw_below_drewN | apply below_drew1 | refine below_set ?_ GE314.out | refine below_set ?_ GE315.out) | exact HB.out))) (fun k_ h_ => h_)) (R_lt (by (with_reducible repeat (first | apply R_alloc | apply R_drewN | apply R_drew)); exact HO319.out))) (below_size (by repeat (first | (with_reducible first | exact HB.out | apply below_alloc | apply pw_below_drewN | apply below_drew1 | refine below_set ?_ GE314.out | refine below_set ?_ GE315.out) | exact HB.out)))); have n5_ := Zk (blk_below (g := gb314) (o := .cells #[.slice A0_0 l0_0.length c0_0, .slice A0_1 l0_1.length c0_1, .slice A0_2 l0_2.length c0_2] 30 (0, 0)) (by (with_reducible repeat (first | refine blk_drewN ?_ _ | refine blk_drew ?_ | refine blk_alloc ?_ _)); exact BK314.out) hb); have n6_ := Zk (blk_below (g := gb315) (o := .cells #[.slice none 0 0, .slice none 0 0, .slice none 0 0] 30 (0, 0)) (by (with_reducible repeat (first | refine blk_drewN ?_ _ | refine blk_drew ?_ | refine blk_alloc ?_ _)); exact BK315.out) hb); have n7_ := Zk (below_step (by repeat (first | (with_reducible first | exact HB.out | apply below_alloc | apply pw_below_drewN | apply below_drew1 | refine below_set ?_ GE314.out | refine below_set ?_ GE315.out) | exact HB.out)) hb); clear HO0_0; clear HO0_1; clear HO0_2; clear HO319; clear BK314; clear BK315; clear HB; have HO0_0 := n0_; have HO0_1 := n1_; have HO0_2 := n2_; have HO319 := n3_; have HO322 := n4_; have BK314 := n5_; have BK315 := n6_; have HB := n7_; clear n0_ n1_ n2_ n3_ n4_ n5_ n6_ n7_; (try clear hb); (try clear hb2); (try clear hk); (try clear hi); (try clear ho0); obtain ⟨Ao24, co24, eo24⟩ := R_slice HO322.out; subst eo24) | ((with_reducible refine gate_callee (f := 42) rfl ?_); refine goesL_ (some 15) rfl rfl Tryd.func42 (by kernel_rfl) rfl #[.slice Ao24 t320.length co24, .int .i64 4] rfl (by (try simp only [List.map_toArray, List.map_cons, List.map_nil]); first | done | rfl | (simp only [List.length_drop, List.length_take]; rfl)) ?_; (with_reducible refine (jobshellref25_drop.calls k _ _ t320 4 t323 _ ?side1 ?side2 A17.out).mono ?_); (case side1 => repeat (first | exact (R_reads' HO322.out).2.2 | (with_reducible refine C_alloc ?_ _) | (with_reducible refine C_drewN ?_ _) | (with_reducible refine C_drew ?_))); (case side2 => exact (R_reads' HO322.out).2.1); rintro e w25 ⟨v324, rfl, ho0, hb⟩; refine ⟨_, rfl, ?_⟩; have n0_ := Zk (V_elder' (by (with_reducible repeat (first | apply V_alloc | apply V_drewN | apply V_drew)); exact HO0_0.out) (R_base ho0) hb); have n1_ := Zk (V_elder' (by (with_reducible repeat (first | apply V_alloc | apply V_drewN | apply V_drew)); exact HO0_1.out) (R_base ho0) hb); have n2_ := Zk (V_elder' (by (with_reducible repeat (first | apply V_alloc | apply V_drewN | apply V_drew)); exact HO0_2.out) (R_base ho0) hb); have n3_ := Zk (R_elder' (by (with_reducible repeat (first | apply R_alloc | apply R_drewN | apply R_drew)); exact HO319.out) (R_base ho0) hb); have n4_ := Zk (R_elder' (by (with_reducible repeat (first | apply R_alloc | apply R_drewN | apply R_drew)); exact HO322.out) (R_base ho0) hb); have n5_ := Zk (R_lower (R_new' (R_new' (R_newM (M := fun k_ => (w.heap.size ≤ k_)) ho0 (below_size (by repeat (first | (with_reducible first | exact HB.out | apply below_alloc | apply pw_below_drewN | apply below_drew1 | refine below_set ?_ GE314.out | refine below_set ?_ GE315.out) | exact HB.out))) (fun k_ h_ => h_)) (R_lt (by (with_reducible repeat (first | apply R_alloc | apply R_drewN | apply R_drew)); exact HO319.out))) (R_lt (by (with_reducible repeat (first | apply R_alloc | apply R_drewN | apply R_drew)); exact HO322.out))) (below_size (by repeat (first | (with_reducible first | exact HB.out | apply below_alloc | apply pw_below_drewN | apply below_drew1 | refine below_set ?_ GE314.out | refine below_set ?_ GE315.out) | exact HB.out)))); have n6_ := Zk (blk_below (g := gb314) (o := .cells #[.slice A0_0 l0_0.length c0_0, .slice A0_1 l0_1.length c0_1, .slice A0_2 l0_2.length c0_2] 30 (0, 0)) (by (with_reducible repeat (first | refine blk_drewN ?_ _ | refine blk_drew ?_ | refine blk_alloc ?_ _)); exact BK314.out) hb); have n7_ := Zk (blk_below (g := gb315) (o := .cells #[.slice none 0 0, .slice none 0 0, .slice none 0 0] 30 (0, 0)) (by (with_reducible repeat (first | refine blk_drewN ?_ _ | refine blk_drew ?_ | refine blk_alloc ?_ _)); exact BK315.out) hb); have n8_ := Zk (below_step (by repeat (first | (with_reducible first | exact HB.out | apply below_alloc | apply pw_below_drewN | apply below_drew1 | refine below_set ?_ GE314.out | refine below_set ?_ GE315.out) | exact HB.out)) hb); clear HO0_0; clear HO0_1; clear HO0_2; clear HO319; clear HO322; clear BK314; clear BK315; clear HB; have HO0_0 := n0_; have HO0_1 := n1_; have HO0_2 := n2_; have HO319 := n3_; have HO322 := n4_; have HO325 := n5_; have BK314 := n6_; have BK315 := n7_; have HB := n8_; clear n0_ n1_ n2_ n3_ n4_ n5_ n6_ n7_ n8_; (try clear hb); (try clear hb2); (try clear hk); (try clear hi); (try clear ho0); obtain ⟨Ao26, co26, eo26⟩ := R_slice HO325.out; subst eo26) | ((with_reducible refine gate_callee (f := 42) rfl ?_); refine goesL_ (some 16) rfl rfl Tryd.func42 (by kernel_rfl) rfl #[.slice Ao26 t323.length co26, .int .i64 5] rfl (by (try simp only [List.map_toArray, List.map_cons, List.map_nil]); first | done | rfl | (simp only [List.length_drop, List.length_take]; rfl)) ?_; (with_reducible refine (jobshellref25_drop.calls k _ _ t323 5 t326 _ ?side1 ?side2 A18.out).mono ?_); (case side1 => repeat (first | exact (R_reads' HO325.out).2.2 | (with_reducible refine C_alloc ?_ _) | (with_reducible refine C_drewN ?_ _) | (with_reducible refine C_drew ?_))); (case side2 => exact (R_reads' HO325.out).2.1); rintro e w27 ⟨v327, rfl, ho0, hb⟩; refine ⟨_, rfl, ?_⟩; have n0_ := Zk (V_elder' (by (with_reducible repeat (first | apply V_alloc | apply V_drewN | apply V_drew)); exact HO0_0.out) (R_base ho0) hb); have n1_ := Zk (V_elder' (by (with_reducible repeat (first | apply V_alloc | apply V_drewN | apply V_drew)); exact HO0_1.out) (R_base ho0) hb); have n2_ := Zk (V_elder' (by (with_reducible repeat (first | apply V_alloc | apply V_drewN | apply V_drew)); exact HO0_2.out) (R_base ho0) hb); have n3_ := Zk (R_elder' (by (with_reducible repeat (first | apply R_alloc | apply R_drewN | apply R_drew)); exact HO319.out) (R_base ho0) hb); have n4_ := Zk (R_elder' (by (with_reducible repeat (first | apply R_alloc | apply R_drewN | apply R_drew)); exact HO322.out) (R_base ho0) hb); have n5_ := Zk (R_elder' (by (with_reducible repeat (first | apply R_alloc | apply R_drewN | apply R_drew)); exact HO325.out) (R_base ho0) hb); have n6_ := Zk (R_lower (R_new' (R_new' (R_new' (R_newM (M := fun k_ => (w.heap.size ≤ k_)) ho0 (below_size (by repeat (first | (with_reducible first | exact HB.out | apply below_alloc | apply pw_below_drewN | apply below_drew1 | refine below_set ?_ GE314.out | refine below_set ?_ GE315.out) | exact HB.out))) (fun k_ h_ => h_)) (R_lt (by (with_reducible repeat (first | apply R_alloc | apply R_drewN | apply R_drew)); exact HO319.out))) (R_lt (by (with_reducible repeat (first | apply R_alloc | apply R_drewN | apply R_drew)); exact HO322.out))) (R_lt (by (with_reducible repeat (first | apply R_alloc | apply R_drewN | apply R_drew)); exact HO325.out))) (below_size (by repeat (first | (with_reducible first | exact HB.out | apply below_alloc | apply pw_below_drewN | apply below_drew1 | refine below_set ?_ GE314.out | refine below_set ?_ GE315.out) | exact HB.out)))); have n7_ := Zk (blk_below (g := gb314) (o := .cells #[.slice A0_0 l0_0.length c0_0, .slice A0_1 l0_1.length c0_1, .slice A0_2 l0_2.length c0_2] 30 (0, 0)) (by (with_reducible repeat (first | refine blk_drewN ?_ _ | refine blk_drew ?_ | refine blk_alloc ?_ _)); exact BK314.out) hb); have n8_ := Zk (blk_below (g := gb315) (o := .cells #[.slice none 0 0, .slice none 0 0, .slice none 0 0] 30 (0, 0)) (by (with_reducible repeat (first | refine blk_drewN ?_ _ | refine blk_drew ?_ | refine blk_alloc ?_ _)); exact BK315.out) hb); have n9_ := Zk (below_step (by repeat (first | (with_reducible first | exact HB.out | apply below_alloc | apply pw_below_drewN | apply below_drew1 | refine below_set ?_ GE314.out | refine below_set ?_ GE315.out) | exact HB.out)) hb); clear HO0_0; clear HO0_1; clear HO0_2; clear HO319; clear HO322; clear HO325; clear BK314; clear BK315; clear HB; have HO0_0 := n0_; have HO0_1 := n1_; have HO0_2 := n2_; have HO319 := n3_; have HO322 := n4_; have HO325 := n5_; have HO328 := n6_; have BK314 := n7_; have BK315 := n8_; have HB := n9_; clear n0_ n1_ n2_ n3_ n4_ n5_ n6_ n7_ n8_ n9_; (try clear hb); (try clear hb2); (try clear hk); (try clear hi); (try clear ho0); obtain ⟨Ao28, co28, eo28⟩ := R_slice HO328.out; subst eo28; have hcz29_0 : w27.cell? ⟨gb314, 0, none⟩ = some (.slice A0_0 l0_0.length c0_0) := (blk_cell BK314.out 0).trans rfl; have hcz29_1 : w27.cell? ⟨gb314, 1, none⟩ = some (.slice A0_1 l0_1.length c0_1) := (blk_cell BK314.out 1).trans rfl; have hcz29_2 : w27.cell? ⟨gb314, 2, none⟩ = some (.slice A0_2 l0_2.length c0_2) := (blk_cell BK314.out 2).trans rfl; have hfz29_0 := blk_frozen BK314.out 0; have hfz29_1 := blk_frozen BK314.out 1; have hfz29_2 := blk_frozen BK314.out 2))
    go_meet
    case rel => exact ⟨_, (t326), (.slice Ao28 t326.length co28), H', ⟨by first | omega | exact Nat.le_refl _⟩, ⟨V_mono (R_V (ok := fun k_ => w.heap.size ≤ k_ ∧ k_ ≠ gb314 ∧ k_ ≠ gb315) (by (with_reducible repeat (first | apply R_alloc | apply R_drewN | apply R_drew)); exact R_mono (R_far (p := ⟨gb314, 0, none⟩) (R_types (R_types (R_types HO328.out BK314.out (by decide)) BK315.out (by decide)) BK314.out (by decide)) (fun _ hk => hk.2) (.slice Ao28 t326.length co28)) (fun _ hk => ⟨hk.1.1.1.1.1.1.1, ⟨hk.1.1.2, hk.1.2⟩⟩))) (fun k_ hk => by first | exact ⟨(.inr (hk.1)), hk.2⟩ | exact (.inr (hk)))⟩, ⟨by (with_reducible repeat (first | apply V_alloc | apply V_drewN | apply V_drew)); exact V_mono (V_far (p := ⟨gb314, 0, none⟩) (V_mono HO0_1.out (fun k_ hk => (⟨hk, hk.1.1.1.1.1.2⟩ : _ ∧ k_ ≠ gb314))) (fun _ hk => hk.2) (.slice Ao28 t326.length co28)) (fun _ hk => ⟨hk.1.1.1.1.1.1.1, ⟨hk.1.1.1.1.1.1.2, hk.1.1.1.1.1.2⟩⟩)⟩, ⟨by (with_reducible repeat (first | apply V_alloc | apply V_drewN | apply V_drew)); exact V_mono (V_far (p := ⟨gb314, 0, none⟩) (V_mono HO0_2.out (fun k_ hk => (⟨hk, hk.1.1.1.1.1.2⟩ : _ ∧ k_ ≠ gb314))) (fun _ hk => hk.2) (.slice Ao28 t326.length co28)) (fun _ hk => ⟨hk.1.1.1.1.1.1.1, ⟨hk.1.1.1.1.1.1.2, hk.1.1.1.1.1.2⟩⟩)⟩, ⟨by (with_reducible repeat (first | refine blk_drewN ?_ _ | refine blk_drew ?_ | refine blk_alloc ?_ _)); refine blk_put (cs := #[.slice A0_0 l0_0.length c0_0, .slice A0_1 l0_1.length c0_1, .slice A0_2 l0_2.length c0_2]) ?_ 0 _ rfl; (with_reducible repeat (first | refine blk_drewN ?_ _ | refine blk_drew ?_ | refine blk_alloc ?_ _)); exact BK314.out⟩, ⟨by (with_reducible repeat (first | refine blk_drewN ?_ _ | refine blk_drew ?_ | refine blk_alloc ?_ _)); refine blk_far ?_ NB315_314.out _; (with_reducible repeat (first | refine blk_drewN ?_ _ | refine blk_drew ?_ | refine blk_alloc ?_ _)); exact BK315.out⟩, ⟨by repeat (first | (with_reducible first | exact HB.out | apply below_alloc | apply pw_below_drewN | apply below_drew1 | refine below_set ?_ GE314.out | refine below_set ?_ GE315.out) | exact HB.out)⟩⟩
   ·rw [if_neg c14] at H
    have c14b0 : (a1 == 18) = false := beq_eq_false_iff_ne.mpr c14
    have c14b1 : (a1 != 18) = true := bne_iff_ne.mpr c14
    (first | rw [c14b0] | (simp only [i64_w, i32_w]; rw [c14b0]) | skip)
    have H' := Zk H
    clear H
    go_wp2
    go_meet
    case rel => exact ⟨_, (l0_0), (.slice A0_0 l0_0.length c0_0), H', ⟨by first | omega | exact Nat.le_refl _⟩, ⟨by (with_reducible repeat (first | apply V_alloc | apply V_drewN | apply V_drew)); exact V_mono HO0_0.out (fun _ hk => ⟨hk.1.1, ⟨hk.1.2, hk.2⟩⟩)⟩, ⟨by (with_reducible repeat (first | apply V_alloc | apply V_drewN | apply V_drew)); exact V_mono HO0_1.out (fun _ hk => ⟨hk.1.1, ⟨hk.1.2, hk.2⟩⟩)⟩, ⟨by (with_reducible repeat (first | apply V_alloc | apply V_drewN | apply V_drew)); exact V_mono HO0_2.out (fun _ hk => ⟨hk.1.1, ⟨hk.1.2, hk.2⟩⟩)⟩, ⟨by (with_reducible repeat (first | refine blk_drewN ?_ _ | refine blk_drew ?_ | refine blk_alloc ?_ _)); exact BK314.out⟩, ⟨by (with_reducible repeat (first | refine blk_drewN ?_ _ | refine blk_drew ?_ | refine blk_alloc ?_ _)); exact BK315.out⟩, ⟨by repeat (first | (with_reducible first | exact HB.out | apply below_alloc | apply pw_below_drewN | apply below_drew1 | refine below_set ?_ GE314.out | refine below_set ?_ GE315.out) | exact HB.out)⟩⟩
  case rest =>
   clear HC11
   try clear c1
   try clear c2
   try clear p2
   try clear c4
   try clear c4b0
   try clear c4b1
   try clear c7
   try clear c14
   try clear c14b0
   try clear c14b1
   try clear c19
   try clear c23
   try clear hcz20_0
   try clear hcz20_1
   try clear hcz20_2
   try clear hcz29_0
   try clear hcz29_1
   try clear hcz29_2
   try clear hcz8_0
   try clear hcz8_1
   try clear hcz8_2
   try clear hcz9_0
   try clear hcz9_1
   try clear hcz9_2
   try clear hfz20_0
   try clear hfz20_1
   try clear hfz20_2
   try clear hfz29_0
   try clear hfz29_1
   try clear hfz29_2
   try clear hfz8_0
   try clear hfz8_1
   try clear hfz8_2
   try clear hfz9_0
   try clear hfz9_1
   try clear hfz9_2
   obtain ⟨kq, x315000_10, u315000, HA, HJ10, HO_315000, HO_315001, HO_315002, BK314, BK315, HB⟩ := hcut
   cases kq with
   | zero => exact absurd HA.out (by simp [jobshellref25_Send.j0])
   | succ kj10 =>
    have H := HA.out
    clear HA
    simp only [jobshellref25_Send.j0] at H
    replace H := Option.bind_eq_some_iff.mp H
    obtain ⟨t329, A300, H⟩ := H
    replace H : (if t329 = true then ((jobshellref25_drop.f kj10 x315000_10 18).bind fun t330 => (jobshellref25_Send.j1 kj10 a1 t330 l0_1 l0_2)) else (jobshellref25_Send.j1 kj10 a1 x315000_10 l0_1 l0_2)) = some (r1, r2, r3) := H
    have A30 := Zk A300
    clear A300
    have HC31 := Zk H
    clear H
    go_upto_if 19 with (first | ((with_reducible refine gate_callee (f := 35) rfl ?_); refine goesL_ (some 19) rfl rfl Tryd.func35 (by kernel_rfl) rfl #[.int .i64 a1] rfl (by (try simp only [List.map_toArray, List.map_cons, List.map_nil]); first | done | rfl | (simp only [List.length_drop, List.length_take]; rfl)) ?_; (with_reducible refine (jobshellref25_stops.calls a1 t329 _ A30.out).mono ?_); rintro e w' ⟨rfl, ⟨nd, rfl⟩⟩; refine ⟨_, rfl, ?_⟩))
    (try simp only [Act.put, List.setIfInBounds_toArray, List.set_cons_zero, List.set_cons_succ])
    go_cut [] (fun wc => ∃ (kq : Nat) (x315000_30 : List Int) (u315000 : Value), Aside0 (jobshellref25_Send.j1 kq a1 x315000_30 l0_1 l0_2 = some (r1, r2, r3)) ∧ Aside0 (kq ≤ kj10) ∧ Aside0 (Kd.V (Kd.int .i64) 3 wc w.heap.size (fun k_ => ((P0_0_ k_ ∨ P0_1_ k_ ∨ P0_2_ k_) ∨ w.heap.size ≤ k_) ∧ k_ ≠ gb314 ∧ k_ ≠ gb315) u315000 x315000_30) ∧ Aside0 (Kd.V (Kd.int .i64) 3 wc w.heap.size (fun k_ => ((P0_0_ k_ ∨ P0_1_ k_ ∨ P0_2_ k_) ∨ w.heap.size ≤ k_) ∧ k_ ≠ gb314 ∧ k_ ≠ gb315) (.slice A0_1 l0_1.length c0_1) l0_1) ∧ Aside0 (Kd.V (Kd.int .i64) 3 wc w.heap.size (fun k_ => ((P0_0_ k_ ∨ P0_1_ k_ ∨ P0_2_ k_) ∨ w.heap.size ≤ k_) ∧ k_ ≠ gb314 ∧ k_ ≠ gb315) (.slice A0_2 l0_2.length c0_2) l0_2) ∧ Aside0 (wc.heap[gb314]? = some (.cells #[u315000, (.slice A0_1 l0_1.length c0_1), (.slice A0_2 l0_2.length c0_2)] 30 (0, 0))) ∧ Aside0 (wc.heap[gb315]? = some (.cells #[(.slice none 0 0), (.slice none 0 0), (.slice none 0 0)] 30 (0, 0))) ∧ Aside0 (Below w.heap.size w wc))
    case first =>
     have H := HC31.out
     clear HC31
     by_cases c32 : t329 = true
     ·subst c32
      have H1 : ((jobshellref25_drop.f kj10 x315000_10 18).bind fun t330 => (jobshellref25_Send.j1 kj10 a1 t330 l0_1 l0_2)) = some (r1, r2, r3) := by rw [if_pos rfl] at H; exact H
      clear H
      have H := H1
      clear H1
      replace H := Option.bind_eq_some_iff.mp H
      obtain ⟨t330, A330, H⟩ := H
      replace H : (jobshellref25_Send.j1 kj10 a1 t330 l0_1 l0_2) = some (r1, r2, r3) := H
      have A33 := Zk A330
      clear A330
      have H' := Zk H
      clear H
      have hnb34 := NB314_315.out
      have hnc34 := NB315_314.out
      have hcz35_0 : wc.cell? ⟨gb314, 0, none⟩ = some (u315000) := (blk_cell BK314.out 0).trans rfl
      have hcz35_1 : wc.cell? ⟨gb314, 1, none⟩ = some (.slice A0_1 l0_1.length c0_1) := (blk_cell BK314.out 1).trans rfl
      have hcz35_2 : wc.cell? ⟨gb314, 2, none⟩ = some (.slice A0_2 l0_2.length c0_2) := (blk_cell BK314.out 2).trans rfl
      have hfz35_0 := blk_frozen BK314.out 0
      have hfz35_1 := blk_frozen BK314.out 1
      have hfz35_2 := blk_frozen BK314.out 2
      obtain ⟨Ao36, co36, eo36⟩ := V_slice HO_315000.out
      subst eo36
      go_wp2_with (first | ((with_reducible refine gate_callee (f := 42) rfl ?_); refine goesL_ (some 22) rfl rfl Tryd.func42 (by kernel_rfl) rfl #[.slice Ao36 x315000_10.length co36, .int .i64 18] rfl (by (try simp only [List.map_toArray, List.map_cons, List.map_nil]); first | done | rfl | (simp only [List.length_drop, List.length_take]; rfl)) ?_; (with_reducible refine (jobshellref25_drop.calls kj10 _ _ x315000_10 18 t330 _ ?side1 ?side2 A33.out).mono ?_); (case side1 => repeat (first | exact (V_reads' HO_315000.out).2.2 | (with_reducible refine C_alloc ?_ _) | (with_reducible refine C_drewN ?_ _) | (with_reducible refine C_drew ?_))); (case side2 => exact (V_reads' HO_315000.out).2.1); rintro e w37 ⟨v331, rfl, ho0, hb⟩; refine ⟨_, rfl, ?_⟩; have n0_ := Zk (V_elder' (by (with_reducible repeat (first | apply V_alloc | apply V_drewN | apply V_drew)); exact HO_315000.out) (R_base ho0) hb); have n1_ := Zk (V_elder' (by (with_reducible repeat (first | apply V_alloc | apply V_drewN | apply V_drew)); exact HO_315001.out) (R_base ho0) hb); have n2_ := Zk (V_elder' (by (with_reducible repeat (first | apply V_alloc | apply V_drewN | apply V_drew)); exact HO_315002.out) (R_base ho0) hb); have n3_ := Zk (R_lower (R_newM (M := fun k_ => (w.heap.size ≤ k_)) ho0 (below_size (by repeat (first | (with_reducible first | exact HB.out | apply below_alloc | apply pw_below_drewN | apply below_drew1 | refine below_set ?_ GE314.out | refine below_set ?_ GE315.out) | exact HB.out))) (fun k_ h_ => h_)) (below_size (by repeat (first | (with_reducible first | exact HB.out | apply below_alloc | apply pw_below_drewN | apply below_drew1 | refine below_set ?_ GE314.out | refine below_set ?_ GE315.out) | exact HB.out)))); have n4_ := Zk (blk_below (g := gb314) (o := .cells #[.slice Ao36 x315000_10.length co36, .slice A0_1 l0_1.length c0_1, .slice A0_2 l0_2.length c0_2] 30 (0, 0)) (by (with_reducible repeat (first | refine blk_drewN ?_ _ | refine blk_drew ?_ | refine blk_alloc ?_ _)); exact BK314.out) hb); have n5_ := Zk (blk_below (g := gb315) (o := .cells #[.slice none 0 0, .slice none 0 0, .slice none 0 0] 30 (0, 0)) (by (with_reducible repeat (first | refine blk_drewN ?_ _ | refine blk_drew ?_ | refine blk_alloc ?_ _)); exact BK315.out) hb); have n6_ := Zk (below_step (by repeat (first | (with_reducible first | exact HB.out | apply below_alloc | apply pw_below_drewN | apply below_drew1 | refine below_set ?_ GE314.out | refine below_set ?_ GE315.out) | exact HB.out)) hb); clear HO_315000; clear HO_315001; clear HO_315002; clear BK314; clear BK315; clear HB; have HO_315000 := n0_; have HO_315001 := n1_; have HO_315002 := n2_; have HO332 := n3_; have BK314 := n4_; have BK315 := n5_; have HB := n6_; clear n0_ n1_ n2_ n3_ n4_ n5_ n6_; (try clear hb); (try clear hb2); (try clear hk); (try clear hi); (try clear ho0); obtain ⟨Ao38, co38, eo38⟩ := R_slice HO332.out; subst eo38; have hcz39_0 : w37.cell? ⟨gb314, 0, none⟩ = some (.slice Ao36 x315000_10.length co36) := (blk_cell BK314.out 0).trans rfl; have hcz39_1 : w37.cell? ⟨gb314, 1, none⟩ = some (.slice A0_1 l0_1.length c0_1) := (blk_cell BK314.out 1).trans rfl; have hcz39_2 : w37.cell? ⟨gb314, 2, none⟩ = some (.slice A0_2 l0_2.length c0_2) := (blk_cell BK314.out 2).trans rfl; have hfz39_0 := blk_frozen BK314.out 0; have hfz39_1 := blk_frozen BK314.out 1; have hfz39_2 := blk_frozen BK314.out 2))
      go_meet
      case rel => exact ⟨_, (t330), (.slice Ao38 t330.length co38), H', ⟨by have := HJ10.out; first | omega | exact Nat.le_refl _⟩, ⟨V_mono (R_V (ok := fun k_ => w.heap.size ≤ k_ ∧ k_ ≠ gb314 ∧ k_ ≠ gb315) (by (with_reducible repeat (first | apply R_alloc | apply R_drewN | apply R_drew)); exact R_mono (R_far (p := ⟨gb314, 0, none⟩) (R_types (R_types (R_types HO332.out BK314.out (by decide)) BK315.out (by decide)) BK314.out (by decide)) (fun _ hk => hk.2) (.slice Ao38 t330.length co38)) (fun _ hk => ⟨hk.1.1.1.1, ⟨hk.1.1.2, hk.1.2⟩⟩))) (fun k_ hk => by first | exact ⟨(.inr (hk.1)), hk.2⟩ | exact (.inr (hk)))⟩, ⟨by (with_reducible repeat (first | apply V_alloc | apply V_drewN | apply V_drew)); exact V_mono (V_far (p := ⟨gb314, 0, none⟩) (V_mono HO_315001.out (fun k_ hk => (⟨hk, hk.1.2.1⟩ : _ ∧ k_ ≠ gb314))) (fun _ hk => hk.2) (.slice Ao38 t330.length co38)) (fun _ hk => ⟨hk.1.1.1, ⟨hk.1.1.2.1, hk.1.1.2.2⟩⟩)⟩, ⟨by (with_reducible repeat (first | apply V_alloc | apply V_drewN | apply V_drew)); exact V_mono (V_far (p := ⟨gb314, 0, none⟩) (V_mono HO_315002.out (fun k_ hk => (⟨hk, hk.1.2.1⟩ : _ ∧ k_ ≠ gb314))) (fun _ hk => hk.2) (.slice Ao38 t330.length co38)) (fun _ hk => ⟨hk.1.1.1, ⟨hk.1.1.2.1, hk.1.1.2.2⟩⟩)⟩, ⟨by (with_reducible repeat (first | refine blk_drewN ?_ _ | refine blk_drew ?_ | refine blk_alloc ?_ _)); refine blk_put (cs := #[.slice Ao36 x315000_10.length co36, .slice A0_1 l0_1.length c0_1, .slice A0_2 l0_2.length c0_2]) ?_ 0 _ rfl; (with_reducible repeat (first | refine blk_drewN ?_ _ | refine blk_drew ?_ | refine blk_alloc ?_ _)); exact BK314.out⟩, ⟨by (with_reducible repeat (first | refine blk_drewN ?_ _ | refine blk_drew ?_ | refine blk_alloc ?_ _)); refine blk_far ?_ NB315_314.out _; (with_reducible repeat (first | refine blk_drewN ?_ _ | refine blk_drew ?_ | refine blk_alloc ?_ _)); exact BK315.out⟩, ⟨by repeat (first | (with_reducible first | exact HB.out | apply below_alloc | apply pw_below_drewN | apply below_drew1 | refine below_set ?_ GE314.out | refine below_set ?_ GE315.out) | exact HB.out)⟩⟩
     ·replace c32 := Bool.eq_false_iff.mpr c32
      subst c32
      have H1 : (jobshellref25_Send.j1 kj10 a1 x315000_10 l0_1 l0_2) = some (r1, r2, r3) := by rw [if_neg (show ¬ (false = true) by decide)] at H; exact H
      clear H
      have H := H1
      clear H1
      have H' := Zk H
      clear H
      go_wp2
      go_meet
      case rel => exact ⟨_, (x315000_10), (u315000), H', ⟨by have := HJ10.out; first | omega | exact Nat.le_refl _⟩, ⟨by (with_reducible repeat (first | apply V_alloc | apply V_drewN | apply V_drew)); exact HO_315000.out⟩, ⟨by (with_reducible repeat (first | apply V_alloc | apply V_drewN | apply V_drew)); exact HO_315001.out⟩, ⟨by (with_reducible repeat (first | apply V_alloc | apply V_drewN | apply V_drew)); exact HO_315002.out⟩, ⟨by (with_reducible repeat (first | refine blk_drewN ?_ _ | refine blk_drew ?_ | refine blk_alloc ?_ _)); exact BK314.out⟩, ⟨by (with_reducible repeat (first | refine blk_drewN ?_ _ | refine blk_drew ?_ | refine blk_alloc ?_ _)); exact BK315.out⟩, ⟨by repeat (first | (with_reducible first | exact HB.out | apply below_alloc | apply pw_below_drewN | apply below_drew1 | refine below_set ?_ GE314.out | refine below_set ?_ GE315.out) | exact HB.out)⟩⟩
    case rest =>
     clear HC31
     try clear c1
     try clear c2
     try clear p2
     try clear c3
     try clear c4
     try clear c4b0
     try clear c4b1
     try clear c7
     try clear c14
     try clear c14b0
     try clear c14b1
     try clear c19
     try clear c23
     try clear c32
     try clear c34
     try clear c35
     try clear hcz20_0
     try clear hcz20_1
     try clear hcz20_2
     try clear hcz29_0
     try clear hcz29_1
     try clear hcz29_2
     try clear hcz35_0
     try clear hcz35_1
     try clear hcz35_2
     try clear hcz39_0
     try clear hcz39_1
     try clear hcz39_2
     try clear hcz8_0
     try clear hcz8_1
     try clear hcz8_2
     try clear hcz9_0
     try clear hcz9_1
     try clear hcz9_2
     try clear hfz20_0
     try clear hfz20_1
     try clear hfz20_2
     try clear hfz29_0
     try clear hfz29_1
     try clear hfz29_2
     try clear hfz35_0
     try clear hfz35_1
     try clear hfz35_2
     try clear hfz39_0
     try clear hfz39_1
     try clear hfz39_2
     try clear hfz8_0
     try clear hfz8_1
     try clear hfz8_2
     try clear hfz9_0
     try clear hfz9_1
     try clear hfz9_2
     try clear p2
     obtain ⟨kq, x315000_30, u315000, HA, HJ30, HO_315000, HO_315001, HO_315002, BK314, BK315, HB⟩ := hcut
     cases kq with
     | zero => exact absurd HA.out (by simp [jobshellref25_Send.j1])
     | succ kj30 =>
      have H := HA.out
      clear HA
      simp only [jobshellref25_Send.j1] at H
      by_cases c40 : a1 = 18
      ·rw [if_pos c40] at H
       have c40b0 : (a1 == 18) = true := beq_iff_eq.mpr c40
       have c40b1 : (a1 != 18) = false := bne_eq_false_iff_eq.mpr c40
       clear c40
       replace H := Option.bind_eq_some_iff.mp H
       obtain ⟨t333, A410, H⟩ := H
       replace H : (some (t333, l0_1, l0_2)) = some (r1, r2, r3) := H
       have A41 := Zk A410
       clear A410
       simp only [Option.some.injEq, Prod.mk.injEq] at H
       obtain ⟨rfl, rfl, rfl⟩ := H
       have hnb42 := NB314_315.out
       have hnc42 := NB315_314.out
       have hcz43_0 : wc.cell? ⟨gb314, 0, none⟩ = some (u315000) := (blk_cell BK314.out 0).trans rfl
       have hcz43_1 : wc.cell? ⟨gb314, 1, none⟩ = some (.slice A0_1 l0_1.length c0_1) := (blk_cell BK314.out 1).trans rfl
       have hcz43_2 : wc.cell? ⟨gb314, 2, none⟩ = some (.slice A0_2 l0_2.length c0_2) := (blk_cell BK314.out 2).trans rfl
       have hfz43_0 := blk_frozen BK314.out 0
       have hfz43_1 := blk_frozen BK314.out 1
       have hfz43_2 := blk_frozen BK314.out 2
       obtain ⟨Ao44, co44, eo44⟩ := V_slice HO_315000.out
       subst eo44
       go_wp2_with (first | ((with_reducible refine gate_callee (f := 46) rfl ?_); refine goesL_ (some 36) rfl rfl Tryd.func46 (by kernel_rfl) rfl #[.slice Ao44 x315000_30.length co44, .int .i64 a1] rfl (by (try simp only [List.map_toArray, List.map_cons, List.map_nil]); first | done | rfl | (simp only [List.length_drop, List.length_take]; rfl)) ?_; (with_reducible refine (jobshellref25_add.calls kj30 _ _ x315000_30 a1 t333 _ ?side1 ?side2 A41.out).mono ?_); (case side1 => repeat (first | exact (V_reads' HO_315000.out).2.2 | (with_reducible refine C_alloc ?_ _) | (with_reducible refine C_drewN ?_ _) | (with_reducible refine C_drew ?_))); (case side2 => exact (V_reads' HO_315000.out).2.1); rintro e w45 ⟨v334, rfl, ho0, hb⟩; refine ⟨_, rfl, ?_⟩; have n0_ := Zk (V_elder' (by (with_reducible repeat (first | apply V_alloc | apply V_drewN | apply V_drew)); exact HO_315000.out) (R_base ho0) hb); have n1_ := Zk (V_elder' (by (with_reducible repeat (first | apply V_alloc | apply V_drewN | apply V_drew)); exact HO_315001.out) (R_base ho0) hb); have n2_ := Zk (V_elder' (by (with_reducible repeat (first | apply V_alloc | apply V_drewN | apply V_drew)); exact HO_315002.out) (R_base ho0) hb); have n3_ := Zk (R_lower (R_newM (M := fun k_ => (w.heap.size ≤ k_)) ho0 (below_size (by repeat (first | (with_reducible first | exact HB.out | apply below_alloc | apply pw_below_drewN | apply below_drew1 | refine below_set ?_ GE314.out | refine below_set ?_ GE315.out) | exact HB.out))) (fun k_ h_ => h_)) (below_size (by repeat (first | (with_reducible first | exact HB.out | apply below_alloc | apply pw_below_drewN | apply below_drew1 | refine below_set ?_ GE314.out | refine below_set ?_ GE315.out) | exact HB.out)))); have n4_ := Zk (blk_below (g := gb314) (o := .cells #[.slice Ao44 x315000_30.length co44, .slice A0_1 l0_1.length c0_1, .slice A0_2 l0_2.length c0_2] 30 (0, 0)) (by (with_reducible repeat (first | refine blk_drewN ?_ _ | refine blk_drew ?_ | refine blk_alloc ?_ _)); exact BK314.out) hb); have n5_ := Zk (blk_below (g := gb315) (o := .cells #[.slice none 0 0, .slice none 0 0, .slice none 0 0] 30 (0, 0)) (by (with_reducible repeat (first | refine blk_drewN ?_ _ | refine blk_drew ?_ | refine blk_alloc ?_ _)); exact BK315.out) hb); have n6_ := Zk (below_step (by repeat (first | (with_reducible first | exact HB.out | apply below_alloc | apply pw_below_drewN | apply below_drew1 | refine below_set ?_ GE314.out | refine below_set ?_ GE315.out) | exact HB.out)) hb); clear HO_315000; clear HO_315001; clear HO_315002; clear BK314; clear BK315; clear HB; have HO_315000 := n0_; have HO_315001 := n1_; have HO_315002 := n2_; have HO335 := n3_; have BK314 := n4_; have BK315 := n5_; have HB := n6_; clear n0_ n1_ n2_ n3_ n4_ n5_ n6_; (try clear hb); (try clear hb2); (try clear hk); (try clear hi); (try clear ho0); obtain ⟨Ao46, co46, eo46⟩ := R_slice HO335.out; subst eo46; have hcz47_0 : w45.cell? ⟨gb314, 0, none⟩ = some (.slice Ao44 x315000_30.length co44) := (blk_cell BK314.out 0).trans rfl; have hcz47_1 : w45.cell? ⟨gb314, 1, none⟩ = some (.slice A0_1 l0_1.length c0_1) := (blk_cell BK314.out 1).trans rfl; have hcz47_2 : w45.cell? ⟨gb314, 2, none⟩ = some (.slice A0_2 l0_2.length c0_2) := (blk_cell BK314.out 2).trans rfl; have hfz47_0 := blk_frozen BK314.out 0; have hfz47_1 := blk_frozen BK314.out 1; have hfz47_2 := blk_frozen BK314.out 2; have hcz48_0 : w45.cell? ⟨gb315, 0, none⟩ = some (.slice none 0 0) := (blk_cell BK315.out 0).trans rfl; have hcz48_1 : w45.cell? ⟨gb315, 1, none⟩ = some (.slice none 0 0) := (blk_cell BK315.out 1).trans rfl; have hcz48_2 : w45.cell? ⟨gb315, 2, none⟩ = some (.slice none 0 0) := (blk_cell BK315.out 2).trans rfl; have hfz48_0 := blk_frozen BK315.out 0; have hfz48_1 := blk_frozen BK315.out 1; have hfz48_2 := blk_frozen BK315.out 2) | ((with_reducible refine gate_store (t := 30) (p := 4) rfl ?_); refine store_event (t := 30) (p := 4) (v := ?vo_w49) (w1 := ((((w45.setCell ⟨gb314, 0, none⟩ (.slice Ao46 t333.length co46)).setCell ⟨gb315, 0, none⟩ (.slice Ao46 t333.length co46)).setCell ⟨gb315, 1, none⟩ (.slice A0_1 l0_1.length c0_1)).setCell ⟨gb315, 2, none⟩ (.slice A0_2 l0_2.length c0_2))) ?hg ?ho ?hn ?hr ?_; (case ho => rfl); (case hg => rfl); (case hn => rfl); (case hr => first | (go_simp; done) | (go_simp; rfl)); intro w49 hw; have n0_ : Aside0 (Kd.V (Kd.int .i64) 3 w49 w.heap.size (fun k_ => ((P0_0_ k_ ∨ P0_1_ k_ ∨ P0_2_ k_) ∨ w.heap.size ≤ k_) ∧ some k_ ≠ (.slice Ao46 t333.length co46 : Value).ownBlock ∧ k_ ≠ gb314 ∧ k_ ≠ gb315) (.slice Ao44 x315000_30.length co44) x315000_30) := ⟨(by rw [hw]; exact (by (with_reducible repeat (first | apply V_alloc | apply V_drewN | apply V_drew)); exact V_mono (V_far (p := ⟨gb315, 2, none⟩) (V_far (p := ⟨gb315, 1, none⟩) (V_far (p := ⟨gb315, 0, none⟩) (V_far (p := ⟨gb314, 0, none⟩) (V_mono (V_mono HO_315000.out (fun k_ hk => (⟨hk, hk.1.2.1⟩ : _ ∧ k_ ≠ gb314))) (fun k_ hk => (⟨hk, hk.1.1.2.2⟩ : _ ∧ k_ ≠ gb315))) (fun _ hk => hk.1.2) (.slice Ao46 t333.length co46)) (fun _ hk => hk.2) (.slice Ao46 t333.length co46)) (fun _ hk => hk.2) (.slice A0_1 l0_1.length c0_1)) (fun _ hk => hk.2) (.slice A0_2 l0_2.length c0_2)) (fun _ hk => ⟨hk.1.1.1.1, ⟨hk.1.1.2, ⟨hk.1.1.1.2.1, hk.1.1.1.2.2⟩⟩⟩)))⟩; have n1_ : Aside0 (Kd.V (Kd.int .i64) 3 w49 w.heap.size (fun k_ => ((P0_0_ k_ ∨ P0_1_ k_ ∨ P0_2_ k_) ∨ w.heap.size ≤ k_) ∧ some k_ ≠ (.slice Ao46 t333.length co46 : Value).ownBlock ∧ k_ ≠ gb314 ∧ k_ ≠ gb315) (.slice A0_1 l0_1.length c0_1) l0_1) := ⟨(by rw [hw]; exact (by (with_reducible repeat (first | apply V_alloc | apply V_drewN | apply V_drew)); exact V_mono (V_far (p := ⟨gb315, 2, none⟩) (V_far (p := ⟨gb315, 1, none⟩) (V_far (p := ⟨gb315, 0, none⟩) (V_far (p := ⟨gb314, 0, none⟩) (V_mono (V_mono HO_315001.out (fun k_ hk => (⟨hk, hk.1.2.1⟩ : _ ∧ k_ ≠ gb314))) (fun k_ hk => (⟨hk, hk.1.1.2.2⟩ : _ ∧ k_ ≠ gb315))) (fun _ hk => hk.1.2) (.slice Ao46 t333.length co46)) (fun _ hk => hk.2) (.slice Ao46 t333.length co46)) (fun _ hk => hk.2) (.slice A0_1 l0_1.length c0_1)) (fun _ hk => hk.2) (.slice A0_2 l0_2.length c0_2)) (fun _ hk => ⟨hk.1.1.1.1, ⟨hk.1.1.2, ⟨hk.1.1.1.2.1, hk.1.1.1.2.2⟩⟩⟩)))⟩; have n2_ : Aside0 (Kd.V (Kd.int .i64) 3 w49 w.heap.size (fun k_ => ((P0_0_ k_ ∨ P0_1_ k_ ∨ P0_2_ k_) ∨ w.heap.size ≤ k_) ∧ some k_ ≠ (.slice Ao46 t333.length co46 : Value).ownBlock ∧ k_ ≠ gb314 ∧ k_ ≠ gb315) (.slice A0_2 l0_2.length c0_2) l0_2) := ⟨(by rw [hw]; exact (by (with_reducible repeat (first | apply V_alloc | apply V_drewN | apply V_drew)); exact V_mono (V_far (p := ⟨gb315, 2, none⟩) (V_far (p := ⟨gb315, 1, none⟩) (V_far (p := ⟨gb315, 0, none⟩) (V_far (p := ⟨gb314, 0, none⟩) (V_mono (V_mono HO_315002.out (fun k_ hk => (⟨hk, hk.1.2.1⟩ : _ ∧ k_ ≠ gb314))) (fun k_ hk => (⟨hk, hk.1.1.2.2⟩ : _ ∧ k_ ≠ gb315))) (fun _ hk => hk.1.2) (.slice Ao46 t333.length co46)) (fun _ hk => hk.2) (.slice Ao46 t333.length co46)) (fun _ hk => hk.2) (.slice A0_1 l0_1.length c0_1)) (fun _ hk => hk.2) (.slice A0_2 l0_2.length c0_2)) (fun _ hk => ⟨hk.1.1.1.1, ⟨hk.1.1.2, ⟨hk.1.1.1.2.1, hk.1.1.1.2.2⟩⟩⟩)))⟩; have n3_ : Aside0 (Kd.R (Kd.int .i64) 3 w49 w.heap.size (fun k_ => (w.heap.size ≤ k_)) (.slice Ao46 t333.length co46) t333) := ⟨(by rw [hw]; exact (by (with_reducible repeat (first | apply R_alloc | apply R_drewN | apply R_drew)); exact R_mono (R_far (p := ⟨gb315, 2, none⟩) (R_far (p := ⟨gb315, 1, none⟩) (R_far (p := ⟨gb315, 0, none⟩) (R_far (p := ⟨gb314, 0, none⟩) (R_types (R_types HO335.out BK314.out (by decide)) BK315.out (by decide)) (fun _ hk => hk.1.2) (.slice Ao46 t333.length co46)) (fun _ hk => hk.2) (.slice Ao46 t333.length co46)) (fun _ hk => hk.2) (.slice A0_1 l0_1.length c0_1)) (fun _ hk => hk.2) (.slice A0_2 l0_2.length c0_2)) (fun _ hk => hk.1.1.1)))⟩; have n4_ : Aside0 (w49.heap[gb314]? = some (.cells #[.slice Ao46 t333.length co46, .slice A0_1 l0_1.length c0_1, .slice A0_2 l0_2.length c0_2] 30 (0, 0))) := ⟨(by rw [hw]; exact (by (with_reducible repeat (first | refine blk_drewN ?_ _ | refine blk_drew ?_ | refine blk_alloc ?_ _)); refine blk_far ?_ NB314_315.out _; (with_reducible repeat (first | refine blk_drewN ?_ _ | refine blk_drew ?_ | refine blk_alloc ?_ _)); refine blk_far ?_ NB314_315.out _; (with_reducible repeat (first | refine blk_drewN ?_ _ | refine blk_drew ?_ | refine blk_alloc ?_ _)); refine blk_far ?_ NB314_315.out _; (with_reducible repeat (first | refine blk_drewN ?_ _ | refine blk_drew ?_ | refine blk_alloc ?_ _)); refine blk_put (cs := #[.slice Ao44 x315000_30.length co44, .slice A0_1 l0_1.length c0_1, .slice A0_2 l0_2.length c0_2]) ?_ 0 _ rfl; (with_reducible repeat (first | refine blk_drewN ?_ _ | refine blk_drew ?_ | refine blk_alloc ?_ _)); exact BK314.out))⟩; have n5_ : Aside0 (w49.heap[gb315]? = some (.cells #[.slice Ao46 t333.length co46, .slice A0_1 l0_1.length c0_1, .slice A0_2 l0_2.length c0_2] 30 (0, 0))) := ⟨(by rw [hw]; exact (by (with_reducible repeat (first | refine blk_drewN ?_ _ | refine blk_drew ?_ | refine blk_alloc ?_ _)); refine blk_put (cs := #[.slice Ao46 t333.length co46, .slice A0_1 l0_1.length c0_1, .slice none 0 0]) ?_ 2 _ rfl; (with_reducible repeat (first | refine blk_drewN ?_ _ | refine blk_drew ?_ | refine blk_alloc ?_ _)); refine blk_put (cs := #[.slice Ao46 t333.length co46, .slice none 0 0, .slice none 0 0]) ?_ 1 _ rfl; (with_reducible repeat (first | refine blk_drewN ?_ _ | refine blk_drew ?_ | refine blk_alloc ?_ _)); refine blk_put (cs := #[.slice none 0 0, .slice none 0 0, .slice none 0 0]) ?_ 0 _ rfl; (with_reducible repeat (first | refine blk_drewN ?_ _ | refine blk_drew ?_ | refine blk_alloc ?_ _)); refine blk_far ?_ NB315_314.out _; (with_reducible repeat (first | refine blk_drewN ?_ _ | refine blk_drew ?_ | refine blk_alloc ?_ _)); exact BK315.out))⟩; have n6_ : Aside0 (Below w.heap.size w w49) := ⟨(by rw [hw]; exact (by repeat (first | (with_reducible first | exact HB.out | apply below_alloc | apply pw_below_drewN | apply below_drew1 | refine below_set ?_ GE314.out | refine below_set ?_ GE315.out) | exact HB.out)))⟩; clear hw; clear HO_315000; clear HO_315001; clear HO_315002; clear HO335; clear BK314; clear BK315; clear HB; have HO_315000 := n0_; have HO_315001 := n1_; have HO_315002 := n2_; have HO335 := n3_; have BK314 := n4_; have BK315 := n5_; have HB := n6_; clear n0_ n1_ n2_ n3_ n4_ n5_ n6_))
       refine bodyPost_ret (results_cell_row rfl _ _ gb315 30 #[.slice Ao46 t333.length co46, .slice A0_1 l0_1.length c0_1, .slice A0_2 l0_2.length c0_2] (0, 0) _ rfl (by (with_reducible repeat (first | refine blk_drewN ?_ _ | refine blk_drew ?_ | refine blk_alloc ?_ _)); exact BK315.out) Tryd.underlying30 rfl (by kernel_rfl)) rfl ?_
       exact ⟨_, _, _, by first | rfl | (simp [errW_none, errW_some] <;> rfl) | (simp [*, errW_none, errW_some] <;> rfl), V_mono (R_V (by (with_reducible repeat (first | apply R_alloc | apply R_drewN | apply R_drew)); exact HO335.out)) (fun k_ hk => by first | exact ⟨(.inr (hk.1)), hk.2⟩ | exact (.inr (hk))), by (with_reducible repeat (first | apply V_alloc | apply V_drewN | apply V_drew)); exact V_mono HO_315001.out (fun _ hk => hk.1), by (with_reducible repeat (first | apply V_alloc | apply V_drewN | apply V_drew)); exact V_mono HO_315002.out (fun _ hk => hk.1), by repeat (first | (with_reducible first | exact HB.out | apply below_alloc | apply pw_below_drewN | apply below_drew1 | refine below_set ?_ GE314.out | refine below_set ?_ GE315.out) | exact HB.out)⟩
      ·rw [if_neg c40] at H
       have c40b0 : (a1 == 18) = false := beq_eq_false_iff_ne.mpr c40
       have c40b1 : (a1 != 18) = true := bne_iff_ne.mpr c40
       replace H := Option.bind_eq_some_iff.mp H
       obtain ⟨t336, A500, H⟩ := H
       replace H : (if t336 = true then (some (x315000_30, l0_1, l0_2)) else ((jobshellref25_add.f kj30 x315000_30 a1).bind fun t337 => (some (t337, l0_1, l0_2)))) = some (r1, r2, r3) := H
       have A50 := Zk A500
       clear A500
       by_cases c51 : t336 = true
       ·subst c51
        have H1 : (some (x315000_30, l0_1, l0_2)) = some (r1, r2, r3) := by rw [if_pos rfl] at H; exact H
        clear H
        have H := H1
        clear H1
        simp only [Option.some.injEq, Prod.mk.injEq] at H
        obtain ⟨rfl, rfl, rfl⟩ := H
        have hnb52 := NB314_315.out
        have hnc52 := NB315_314.out
        have hcz53_0 : wc.cell? ⟨gb314, 0, none⟩ = some (u315000) := (blk_cell BK314.out 0).trans rfl
        have hcz53_1 : wc.cell? ⟨gb314, 1, none⟩ = some (.slice A0_1 l0_1.length c0_1) := (blk_cell BK314.out 1).trans rfl
        have hcz53_2 : wc.cell? ⟨gb314, 2, none⟩ = some (.slice A0_2 l0_2.length c0_2) := (blk_cell BK314.out 2).trans rfl
        have hfz53_0 := blk_frozen BK314.out 0
        have hfz53_1 := blk_frozen BK314.out 1
        have hfz53_2 := blk_frozen BK314.out 2
        go_wp2_with (first | (go_at_call 24; (with_reducible refine (jobshellref25_Has.calls kj30 _ _ l0_1 a1 true _ ?side1 ?side2 A50.out).mono ?_); (case side1 => repeat (first | exact (V_reads' HO_315001.out).2.2 | (with_reducible refine C_alloc ?_ _) | (with_reducible refine C_drewN ?_ _) | (with_reducible refine C_drew ?_))); (case side2 => exact (V_reads' HO_315001.out).2.1); rintro e w' ⟨rfl, ⟨nd, rfl⟩⟩; (try (rw [drewN_self wc]; generalize hq_ : World.drewN wc _ = wc; (try replace hcz53_0 := cz_at hq_ hcz53_0); (try replace hcz53_1 := cz_at hq_ hcz53_1); (try replace hcz53_2 := cz_at hq_ hcz53_2); (try replace hfz53_0 := fz_at hq_ hfz53_0); (try replace hfz53_1 := fz_at hq_ hfz53_1); (try replace hfz53_2 := fz_at hq_ hfz53_2); have n0_ := Zk (V_att hq_ HO_315000.out); have n1_ := Zk (V_att hq_ HO_315001.out); have n2_ := Zk (V_att hq_ HO_315002.out); have n3_ := Zk (blk_at hq_ BK314.out); have n4_ := Zk (blk_at hq_ BK315.out); have n5_ := Zk (below_at hq_ HB.out); clear hq_ HO_315000 HO_315001 HO_315002 BK314 BK315 HB; have HO_315000 := n0_; have HO_315001 := n1_; have HO_315002 := n2_; have BK314 := n3_; have BK315 := n4_; have HB := n5_; clear n0_ n1_ n2_ n3_ n4_ n5_)); obtain ⟨Ao54, co54, eo54⟩ := V_slice HO_315000.out; subst eo54; have hcz55_0 : wc.cell? ⟨gb315, 0, none⟩ = some (.slice none 0 0) := (blk_cell BK315.out 0).trans rfl; have hcz55_1 : wc.cell? ⟨gb315, 1, none⟩ = some (.slice none 0 0) := (blk_cell BK315.out 1).trans rfl; have hcz55_2 : wc.cell? ⟨gb315, 2, none⟩ = some (.slice none 0 0) := (blk_cell BK315.out 2).trans rfl; have hfz55_0 := blk_frozen BK315.out 0; have hfz55_1 := blk_frozen BK315.out 1; have hfz55_2 := blk_frozen BK315.out 2) | ((with_reducible refine gate_store (t := 30) (p := 4) rfl ?_); refine store_event (t := 30) (p := 4) (v := ?vo_w56) (w1 := (((wc.setCell ⟨gb315, 0, none⟩ (.slice Ao54 x315000_30.length co54)).setCell ⟨gb315, 1, none⟩ (.slice A0_1 l0_1.length c0_1)).setCell ⟨gb315, 2, none⟩ (.slice A0_2 l0_2.length c0_2))) ?hg ?ho ?hn ?hr ?_; (case ho => rfl); (case hg => rfl); (case hn => rfl); (case hr => first | (go_simp; done) | (go_simp; rfl)); intro w56 hw; have n0_ : Aside0 (Kd.V (Kd.int .i64) 3 w56 w.heap.size (fun k_ => ((P0_0_ k_ ∨ P0_1_ k_ ∨ P0_2_ k_) ∨ w.heap.size ≤ k_) ∧ k_ ≠ gb314 ∧ k_ ≠ gb315) (.slice Ao54 x315000_30.length co54) x315000_30) := ⟨(by rw [hw]; exact (by (with_reducible repeat (first | apply V_alloc | apply V_drewN | apply V_drew)); exact V_mono (V_far (p := ⟨gb315, 2, none⟩) (V_far (p := ⟨gb315, 1, none⟩) (V_far (p := ⟨gb315, 0, none⟩) (V_mono HO_315000.out (fun k_ hk => (⟨hk, hk.2.2⟩ : _ ∧ k_ ≠ gb315))) (fun _ hk => hk.2) (.slice Ao54 x315000_30.length co54)) (fun _ hk => hk.2) (.slice A0_1 l0_1.length c0_1)) (fun _ hk => hk.2) (.slice A0_2 l0_2.length c0_2)) (fun _ hk => ⟨hk.1.1, ⟨hk.1.2.1, hk.1.2.2⟩⟩)))⟩; have n1_ : Aside0 (Kd.V (Kd.int .i64) 3 w56 w.heap.size (fun k_ => ((P0_0_ k_ ∨ P0_1_ k_ ∨ P0_2_ k_) ∨ w.heap.size ≤ k_) ∧ k_ ≠ gb314 ∧ k_ ≠ gb315) (.slice A0_1 l0_1.length c0_1) l0_1) := ⟨(by rw [hw]; exact (by (with_reducible repeat (first | apply V_alloc | apply V_drewN | apply V_drew)); exact V_mono (V_far (p := ⟨gb315, 2, none⟩) (V_far (p := ⟨gb315, 1, none⟩) (V_far (p := ⟨gb315, 0, none⟩) (V_mono HO_315001.out (fun k_ hk => (⟨hk, hk.2.2⟩ : _ ∧ k_ ≠ gb315))) (fun _ hk => hk.2) (.slice Ao54 x315000_30.length co54)) (fun _ hk => hk.2) (.slice A0_1 l0_1.length c0_1)) (fun _ hk => hk.2) (.slice A0_2 l0_2.length c0_2)) (fun _ hk => ⟨hk.1.1, ⟨hk.1.2.1, hk.1.2.2⟩⟩)))⟩; have n2_ : Aside0 (Kd.V (Kd.int .i64) 3 w56 w.heap.size (fun k_ => ((P0_0_ k_ ∨ P0_1_ k_ ∨ P0_2_ k_) ∨ w.heap.size ≤ k_) ∧ k_ ≠ gb314 ∧ k_ ≠ gb315) (.slice A0_2 l0_2.length c0_2) l0_2) := ⟨(by rw [hw]; exact (by (with_reducible repeat (first | apply V_alloc | apply V_drewN | apply V_drew)); exact V_mono (V_far (p := ⟨gb315, 2, none⟩) (V_far (p := ⟨gb315, 1, none⟩) (V_far (p := ⟨gb315, 0, none⟩) (V_mono HO_315002.out (fun k_ hk => (⟨hk, hk.2.2⟩ : _ ∧ k_ ≠ gb315))) (fun _ hk => hk.2) (.slice Ao54 x315000_30.length co54)) (fun _ hk => hk.2) (.slice A0_1 l0_1.length c0_1)) (fun _ hk => hk.2) (.slice A0_2 l0_2.length c0_2)) (fun _ hk => ⟨hk.1.1, ⟨hk.1.2.1, hk.1.2.2⟩⟩)))⟩; have n3_ : Aside0 (w56.heap[gb314]? = some (.cells #[.slice Ao54 x315000_30.length co54, .slice A0_1 l0_1.length c0_1, .slice A0_2 l0_2.length c0_2] 30 (0, 0))) := ⟨(by rw [hw]; exact (by (with_reducible repeat (first | refine blk_drewN ?_ _ | refine blk_drew ?_ | refine blk_alloc ?_ _)); refine blk_far ?_ NB314_315.out _; (with_reducible repeat (first | refine blk_drewN ?_ _ | refine blk_drew ?_ | refine blk_alloc ?_ _)); refine blk_far ?_ NB314_315.out _; (with_reducible repeat (first | refine blk_drewN ?_ _ | refine blk_drew ?_ | refine blk_alloc ?_ _)); refine blk_far ?_ NB314_315.out _; (with_reducible repeat (first | refine blk_drewN ?_ _ | refine blk_drew ?_ | refine blk_alloc ?_ _)); exact BK314.out))⟩; have n4_ : Aside0 (w56.heap[gb315]? = some (.cells #[.slice Ao54 x315000_30.length co54, .slice A0_1 l0_1.length c0_1, .slice A0_2 l0_2.length c0_2] 30 (0, 0))) := ⟨(by rw [hw]; exact (by (with_reducible repeat (first | refine blk_drewN ?_ _ | refine blk_drew ?_ | refine blk_alloc ?_ _)); refine blk_put (cs := #[.slice Ao54 x315000_30.length co54, .slice A0_1 l0_1.length c0_1, .slice none 0 0]) ?_ 2 _ rfl; (with_reducible repeat (first | refine blk_drewN ?_ _ | refine blk_drew ?_ | refine blk_alloc ?_ _)); refine blk_put (cs := #[.slice Ao54 x315000_30.length co54, .slice none 0 0, .slice none 0 0]) ?_ 1 _ rfl; (with_reducible repeat (first | refine blk_drewN ?_ _ | refine blk_drew ?_ | refine blk_alloc ?_ _)); refine blk_put (cs := #[.slice none 0 0, .slice none 0 0, .slice none 0 0]) ?_ 0 _ rfl; (with_reducible repeat (first | refine blk_drewN ?_ _ | refine blk_drew ?_ | refine blk_alloc ?_ _)); exact BK315.out))⟩; have n5_ : Aside0 (Below w.heap.size w w56) := ⟨(by rw [hw]; exact (by repeat (first | (with_reducible first | exact HB.out | apply below_alloc | apply pw_below_drewN | apply below_drew1 | refine below_set ?_ GE314.out | refine below_set ?_ GE315.out) | exact HB.out)))⟩; clear hw; clear HO_315000; clear HO_315001; clear HO_315002; clear BK314; clear BK315; clear HB; have HO_315000 := n0_; have HO_315001 := n1_; have HO_315002 := n2_; have BK314 := n3_; have BK315 := n4_; have HB := n5_; clear n0_ n1_ n2_ n3_ n4_ n5_))
        refine bodyPost_ret (results_cell_row rfl _ _ gb315 30 #[.slice Ao54 x315000_30.length co54, .slice A0_1 l0_1.length c0_1, .slice A0_2 l0_2.length c0_2] (0, 0) _ rfl (by (with_reducible repeat (first | refine blk_drewN ?_ _ | refine blk_drew ?_ | refine blk_alloc ?_ _)); exact BK315.out) Tryd.underlying30 rfl (by kernel_rfl)) rfl ?_
        exact ⟨_, _, _, by first | rfl | (simp [errW_none, errW_some] <;> rfl) | (simp [*, errW_none, errW_some] <;> rfl), by (with_reducible repeat (first | apply V_alloc | apply V_drewN | apply V_drew)); exact V_mono HO_315000.out (fun _ hk => hk.1), by (with_reducible repeat (first | apply V_alloc | apply V_drewN | apply V_drew)); exact V_mono HO_315001.out (fun _ hk => hk.1), by (with_reducible repeat (first | apply V_alloc | apply V_drewN | apply V_drew)); exact V_mono HO_315002.out (fun _ hk => hk.1), by repeat (first | (with_reducible first | exact HB.out | apply below_alloc | apply pw_below_drewN | apply below_drew1 | refine below_set ?_ GE314.out | refine below_set ?_ GE315.out) | exact HB.out)⟩
       ·replace c51 := Bool.eq_false_iff.mpr c51
        subst c51
        have H1 : ((jobshellref25_add.f kj30 x315000_30 a1).bind fun t337 => (some (t337, l0_1, l0_2))) = some (r1, r2, r3) := by rw [if_neg (show ¬ (false = true) by decide)] at H; exact H
        clear H
        have H := H1
        clear H1
        replace H := Option.bind_eq_some_iff.mp H
        obtain ⟨t337, A570, H⟩ := H
        replace H : (some (t337, l0_1, l0_2)) = some (r1, r2, r3) := H
        have A57 := Zk A570
        clear A570
        simp only [Option.some.injEq, Prod.mk.injEq] at H
        obtain ⟨rfl, rfl, rfl⟩ := H
        have hnb58 := NB314_315.out
        have hnc58 := NB315_314.out
        have hcz59_0 : wc.cell? ⟨gb314, 0, none⟩ = some (u315000) := (blk_cell BK314.out 0).trans rfl
        have hcz59_1 : wc.cell? ⟨gb314, 1, none⟩ = some (.slice A0_1 l0_1.length c0_1) := (blk_cell BK314.out 1).trans rfl
        have hcz59_2 : wc.cell? ⟨gb314, 2, none⟩ = some (.slice A0_2 l0_2.length c0_2) := (blk_cell BK314.out 2).trans rfl
        have hfz59_0 := blk_frozen BK314.out 0
        have hfz59_1 := blk_frozen BK314.out 1
        have hfz59_2 := blk_frozen BK314.out 2
        go_wp2_with (first | (go_at_call 24; (with_reducible refine (jobshellref25_Has.calls kj30 _ _ l0_1 a1 false _ ?side1 ?side2 A50.out).mono ?_); (case side1 => repeat (first | exact (V_reads' HO_315001.out).2.2 | (with_reducible refine C_alloc ?_ _) | (with_reducible refine C_drewN ?_ _) | (with_reducible refine C_drew ?_))); (case side2 => exact (V_reads' HO_315001.out).2.1); rintro e w' ⟨rfl, ⟨nd, rfl⟩⟩; (try (rw [drewN_self wc]; generalize hq_ : World.drewN wc _ = wc; (try replace hcz59_0 := cz_at hq_ hcz59_0); (try replace hcz59_1 := cz_at hq_ hcz59_1); (try replace hcz59_2 := cz_at hq_ hcz59_2); (try replace hfz59_0 := fz_at hq_ hfz59_0); (try replace hfz59_1 := fz_at hq_ hfz59_1); (try replace hfz59_2 := fz_at hq_ hfz59_2); have n0_ := Zk (V_att hq_ HO_315000.out); have n1_ := Zk (V_att hq_ HO_315001.out); have n2_ := Zk (V_att hq_ HO_315002.out); have n3_ := Zk (blk_at hq_ BK314.out); have n4_ := Zk (blk_at hq_ BK315.out); have n5_ := Zk (below_at hq_ HB.out); clear hq_ HO_315000 HO_315001 HO_315002 BK314 BK315 HB; have HO_315000 := n0_; have HO_315001 := n1_; have HO_315002 := n2_; have BK314 := n3_; have BK315 := n4_; have HB := n5_; clear n0_ n1_ n2_ n3_ n4_ n5_)); obtain ⟨Ao60, co60, eo60⟩ := V_slice HO_315000.out; subst eo60) | ((with_reducible refine gate_callee (f := 46) rfl ?_); refine goesL_ (some 36) rfl rfl Tryd.func46 (by kernel_rfl) rfl #[.slice Ao60 x315000_30.length co60, .int .i64 a1] rfl (by (try simp only [List.map_toArray, List.map_cons, List.map_nil]); first | done | rfl | (simp only [List.length_drop, List.length_take]; rfl)) ?_; (with_reducible refine (jobshellref25_add.calls kj30 _ _ x315000_30 a1 t337 _ ?side1 ?side2 A57.out).mono ?_); (case side1 => repeat (first | exact (V_reads' HO_315000.out).2.2 | (with_reducible refine C_alloc ?_ _) | (with_reducible refine C_drewN ?_ _) | (with_reducible refine C_drew ?_))); (case side2 => exact (V_reads' HO_315000.out).2.1); rintro e w61 ⟨v338, rfl, ho0, hb⟩; refine ⟨_, rfl, ?_⟩; have n0_ := Zk (V_elder' (by (with_reducible repeat (first | apply V_alloc | apply V_drewN | apply V_drew)); exact HO_315000.out) (R_base ho0) hb); have n1_ := Zk (V_elder' (by (with_reducible repeat (first | apply V_alloc | apply V_drewN | apply V_drew)); exact HO_315001.out) (R_base ho0) hb); have n2_ := Zk (V_elder' (by (with_reducible repeat (first | apply V_alloc | apply V_drewN | apply V_drew)); exact HO_315002.out) (R_base ho0) hb); have n3_ := Zk (R_lower (R_newM (M := fun k_ => (w.heap.size ≤ k_)) ho0 (below_size (by repeat (first | (with_reducible first | exact HB.out | apply below_alloc | apply pw_below_drewN | apply below_drew1 | refine below_set ?_ GE314.out | refine below_set ?_ GE315.out) | exact HB.out))) (fun k_ h_ => h_)) (below_size (by repeat (first | (with_reducible first | exact HB.out | apply below_alloc | apply pw_below_drewN | apply below_drew1 | refine below_set ?_ GE314.out | refine below_set ?_ GE315.out) | exact HB.out)))); have n4_ := Zk (blk_below (g := gb314) (o := .cells #[.slice Ao60 x315000_30.length co60, .slice A0_1 l0_1.length c0_1, .slice A0_2 l0_2.length c0_2] 30 (0, 0)) (by (with_reducible repeat (first | refine blk_drewN ?_ _ | refine blk_drew ?_ | refine blk_alloc ?_ _)); exact BK314.out) hb); have n5_ := Zk (blk_below (g := gb315) (o := .cells #[.slice none 0 0, .slice none 0 0, .slice none 0 0] 30 (0, 0)) (by (with_reducible repeat (first | refine blk_drewN ?_ _ | refine blk_drew ?_ | refine blk_alloc ?_ _)); exact BK315.out) hb); have n6_ := Zk (below_step (by repeat (first | (with_reducible first | exact HB.out | apply below_alloc | apply pw_below_drewN | apply below_drew1 | refine below_set ?_ GE314.out | refine below_set ?_ GE315.out) | exact HB.out)) hb); clear HO_315000; clear HO_315001; clear HO_315002; clear BK314; clear BK315; clear HB; have HO_315000 := n0_; have HO_315001 := n1_; have HO_315002 := n2_; have HO339 := n3_; have BK314 := n4_; have BK315 := n5_; have HB := n6_; clear n0_ n1_ n2_ n3_ n4_ n5_ n6_; (try clear hb); (try clear hb2); (try clear hk); (try clear hi); (try clear ho0); obtain ⟨Ao62, co62, eo62⟩ := R_slice HO339.out; subst eo62; have hcz63_0 : w61.cell? ⟨gb314, 0, none⟩ = some (.slice Ao60 x315000_30.length co60) := (blk_cell BK314.out 0).trans rfl; have hcz63_1 : w61.cell? ⟨gb314, 1, none⟩ = some (.slice A0_1 l0_1.length c0_1) := (blk_cell BK314.out 1).trans rfl; have hcz63_2 : w61.cell? ⟨gb314, 2, none⟩ = some (.slice A0_2 l0_2.length c0_2) := (blk_cell BK314.out 2).trans rfl; have hfz63_0 := blk_frozen BK314.out 0; have hfz63_1 := blk_frozen BK314.out 1; have hfz63_2 := blk_frozen BK314.out 2; have hcz64_0 : w61.cell? ⟨gb315, 0, none⟩ = some (.slice none 0 0) := (blk_cell BK315.out 0).trans rfl; have hcz64_1 : w61.cell? ⟨gb315, 1, none⟩ = some (.slice none 0 0) := (blk_cell BK315.out 1).trans rfl; have hcz64_2 : w61.cell? ⟨gb315, 2, none⟩ = some (.slice none 0 0) := (blk_cell BK315.out 2).trans rfl; have hfz64_0 := blk_frozen BK315.out 0; have hfz64_1 := blk_frozen BK315.out 1; have hfz64_2 := blk_frozen BK315.out 2) | ((with_reducible refine gate_store (t := 30) (p := 4) rfl ?_); refine store_event (t := 30) (p := 4) (v := ?vo_w65) (w1 := ((((w61.setCell ⟨gb314, 0, none⟩ (.slice Ao62 t337.length co62)).setCell ⟨gb315, 0, none⟩ (.slice Ao62 t337.length co62)).setCell ⟨gb315, 1, none⟩ (.slice A0_1 l0_1.length c0_1)).setCell ⟨gb315, 2, none⟩ (.slice A0_2 l0_2.length c0_2))) ?hg ?ho ?hn ?hr ?_; (case ho => rfl); (case hg => rfl); (case hn => rfl); (case hr => first | (go_simp; done) | (go_simp; rfl)); intro w65 hw; have n0_ : Aside0 (Kd.V (Kd.int .i64) 3 w65 w.heap.size (fun k_ => ((P0_0_ k_ ∨ P0_1_ k_ ∨ P0_2_ k_) ∨ w.heap.size ≤ k_) ∧ some k_ ≠ (.slice Ao62 t337.length co62 : Value).ownBlock ∧ k_ ≠ gb314 ∧ k_ ≠ gb315) (.slice Ao60 x315000_30.length co60) x315000_30) := ⟨(by rw [hw]; exact (by (with_reducible repeat (first | apply V_alloc | apply V_drewN | apply V_drew)); exact V_mono (V_far (p := ⟨gb315, 2, none⟩) (V_far (p := ⟨gb315, 1, none⟩) (V_far (p := ⟨gb315, 0, none⟩) (V_far (p := ⟨gb314, 0, none⟩) (V_mono (V_mono HO_315000.out (fun k_ hk => (⟨hk, hk.1.2.1⟩ : _ ∧ k_ ≠ gb314))) (fun k_ hk => (⟨hk, hk.1.1.2.2⟩ : _ ∧ k_ ≠ gb315))) (fun _ hk => hk.1.2) (.slice Ao62 t337.length co62)) (fun _ hk => hk.2) (.slice Ao62 t337.length co62)) (fun _ hk => hk.2) (.slice A0_1 l0_1.length c0_1)) (fun _ hk => hk.2) (.slice A0_2 l0_2.length c0_2)) (fun _ hk => ⟨hk.1.1.1.1, ⟨hk.1.1.2, ⟨hk.1.1.1.2.1, hk.1.1.1.2.2⟩⟩⟩)))⟩; have n1_ : Aside0 (Kd.V (Kd.int .i64) 3 w65 w.heap.size (fun k_ => ((P0_0_ k_ ∨ P0_1_ k_ ∨ P0_2_ k_) ∨ w.heap.size ≤ k_) ∧ some k_ ≠ (.slice Ao62 t337.length co62 : Value).ownBlock ∧ k_ ≠ gb314 ∧ k_ ≠ gb315) (.slice A0_1 l0_1.length c0_1) l0_1) := ⟨(by rw [hw]; exact (by (with_reducible repeat (first | apply V_alloc | apply V_drewN | apply V_drew)); exact V_mono (V_far (p := ⟨gb315, 2, none⟩) (V_far (p := ⟨gb315, 1, none⟩) (V_far (p := ⟨gb315, 0, none⟩) (V_far (p := ⟨gb314, 0, none⟩) (V_mono (V_mono HO_315001.out (fun k_ hk => (⟨hk, hk.1.2.1⟩ : _ ∧ k_ ≠ gb314))) (fun k_ hk => (⟨hk, hk.1.1.2.2⟩ : _ ∧ k_ ≠ gb315))) (fun _ hk => hk.1.2) (.slice Ao62 t337.length co62)) (fun _ hk => hk.2) (.slice Ao62 t337.length co62)) (fun _ hk => hk.2) (.slice A0_1 l0_1.length c0_1)) (fun _ hk => hk.2) (.slice A0_2 l0_2.length c0_2)) (fun _ hk => ⟨hk.1.1.1.1, ⟨hk.1.1.2, ⟨hk.1.1.1.2.1, hk.1.1.1.2.2⟩⟩⟩)))⟩; have n2_ : Aside0 (Kd.V (Kd.int .i64) 3 w65 w.heap.size (fun k_ => ((P0_0_ k_ ∨ P0_1_ k_ ∨ P0_2_ k_) ∨ w.heap.size ≤ k_) ∧ some k_ ≠ (.slice Ao62 t337.length co62 : Value).ownBlock ∧ k_ ≠ gb314 ∧ k_ ≠ gb315) (.slice A0_2 l0_2.length c0_2) l0_2) := ⟨(by rw [hw]; exact (by (with_reducible repeat (first | apply V_alloc | apply V_drewN | apply V_drew)); exact V_mono (V_far (p := ⟨gb315, 2, none⟩) (V_far (p := ⟨gb315, 1, none⟩) (V_far (p := ⟨gb315, 0, none⟩) (V_far (p := ⟨gb314, 0, none⟩) (V_mono (V_mono HO_315002.out (fun k_ hk => (⟨hk, hk.1.2.1⟩ : _ ∧ k_ ≠ gb314))) (fun k_ hk => (⟨hk, hk.1.1.2.2⟩ : _ ∧ k_ ≠ gb315))) (fun _ hk => hk.1.2) (.slice Ao62 t337.length co62)) (fun _ hk => hk.2) (.slice Ao62 t337.length co62)) (fun _ hk => hk.2) (.slice A0_1 l0_1.length c0_1)) (fun _ hk => hk.2) (.slice A0_2 l0_2.length c0_2)) (fun _ hk => ⟨hk.1.1.1.1, ⟨hk.1.1.2, ⟨hk.1.1.1.2.1, hk.1.1.1.2.2⟩⟩⟩)))⟩; have n3_ : Aside0 (Kd.R (Kd.int .i64) 3 w65 w.heap.size (fun k_ => (w.heap.size ≤ k_)) (.slice Ao62 t337.length co62) t337) := ⟨(by rw [hw]; exact (by (with_reducible repeat (first | apply R_alloc | apply R_drewN | apply R_drew)); exact R_mono (R_far (p := ⟨gb315, 2, none⟩) (R_far (p := ⟨gb315, 1, none⟩) (R_far (p := ⟨gb315, 0, none⟩) (R_far (p := ⟨gb314, 0, none⟩) (R_types (R_types HO339.out BK314.out (by decide)) BK315.out (by decide)) (fun _ hk => hk.1.2) (.slice Ao62 t337.length co62)) (fun _ hk => hk.2) (.slice Ao62 t337.length co62)) (fun _ hk => hk.2) (.slice A0_1 l0_1.length c0_1)) (fun _ hk => hk.2) (.slice A0_2 l0_2.length c0_2)) (fun _ hk => hk.1.1.1)))⟩; have n4_ : Aside0 (w65.heap[gb314]? = some (.cells #[.slice Ao62 t337.length co62, .slice A0_1 l0_1.length c0_1, .slice A0_2 l0_2.length c0_2] 30 (0, 0))) := ⟨(by rw [hw]; exact (by (with_reducible repeat (first | refine blk_drewN ?_ _ | refine blk_drew ?_ | refine blk_alloc ?_ _)); refine blk_far ?_ NB314_315.out _; (with_reducible repeat (first | refine blk_drewN ?_ _ | refine blk_drew ?_ | refine blk_alloc ?_ _)); refine blk_far ?_ NB314_315.out _; (with_reducible repeat (first | refine blk_drewN ?_ _ | refine blk_drew ?_ | refine blk_alloc ?_ _)); refine blk_far ?_ NB314_315.out _; (with_reducible repeat (first | refine blk_drewN ?_ _ | refine blk_drew ?_ | refine blk_alloc ?_ _)); refine blk_put (cs := #[.slice Ao60 x315000_30.length co60, .slice A0_1 l0_1.length c0_1, .slice A0_2 l0_2.length c0_2]) ?_ 0 _ rfl; (with_reducible repeat (first | refine blk_drewN ?_ _ | refine blk_drew ?_ | refine blk_alloc ?_ _)); exact BK314.out))⟩; have n5_ : Aside0 (w65.heap[gb315]? = some (.cells #[.slice Ao62 t337.length co62, .slice A0_1 l0_1.length c0_1, .slice A0_2 l0_2.length c0_2] 30 (0, 0))) := ⟨(by rw [hw]; exact (by (with_reducible repeat (first | refine blk_drewN ?_ _ | refine blk_drew ?_ | refine blk_alloc ?_ _)); refine blk_put (cs := #[.slice Ao62 t337.length co62, .slice A0_1 l0_1.length c0_1, .slice none 0 0]) ?_ 2 _ rfl; (with_reducible repeat (first | refine blk_drewN ?_ _ | refine blk_drew ?_ | refine blk_alloc ?_ _)); refine blk_put (cs := #[.slice Ao62 t337.length co62, .slice none 0 0, .slice none 0 0]) ?_ 1 _ rfl; (with_reducible repeat (first | refine blk_drewN ?_ _ | refine blk_drew ?_ | refine blk_alloc ?_ _)); refine blk_put (cs := #[.slice none 0 0, .slice none 0 0, .slice none 0 0]) ?_ 0 _ rfl; (with_reducible repeat (first | refine blk_drewN ?_ _ | refine blk_drew ?_ | refine blk_alloc ?_ _)); refine blk_far ?_ NB315_314.out _; (with_reducible repeat (first | refine blk_drewN ?_ _ | refine blk_drew ?_ | refine blk_alloc ?_ _)); exact BK315.out))⟩; have n6_ : Aside0 (Below w.heap.size w w65) := ⟨(by rw [hw]; exact (by repeat (first | (with_reducible first | exact HB.out | apply below_alloc | apply pw_below_drewN | apply below_drew1 | refine below_set ?_ GE314.out | refine below_set ?_ GE315.out) | exact HB.out)))⟩; clear hw; clear HO_315000; clear HO_315001; clear HO_315002; clear HO339; clear BK314; clear BK315; clear HB; have HO_315000 := n0_; have HO_315001 := n1_; have HO_315002 := n2_; have HO339 := n3_; have BK314 := n4_; have BK315 := n5_; have HB := n6_; clear n0_ n1_ n2_ n3_ n4_ n5_ n6_))
        refine bodyPost_ret (results_cell_row rfl _ _ gb315 30 #[.slice Ao62 t337.length co62, .slice A0_1 l0_1.length c0_1, .slice A0_2 l0_2.length c0_2] (0, 0) _ rfl (by (with_reducible repeat (first | refine blk_drewN ?_ _ | refine blk_drew ?_ | refine blk_alloc ?_ _)); exact BK315.out) Tryd.underlying30 rfl (by kernel_rfl)) rfl ?_
        exact ⟨_, _, _, by first | rfl | (simp [errW_none, errW_some] <;> rfl) | (simp [*, errW_none, errW_some] <;> rfl), V_mono (R_V (by (with_reducible repeat (first | apply R_alloc | apply R_drewN | apply R_drew)); exact HO339.out)) (fun k_ hk => by first | exact ⟨(.inr (hk.1)), hk.2⟩ | exact (.inr (hk))), by (with_reducible repeat (first | apply V_alloc | apply V_drewN | apply V_drew)); exact V_mono HO_315001.out (fun _ hk => hk.1), by (with_reducible repeat (first | apply V_alloc | apply V_drewN | apply V_drew)); exact V_mono HO_315002.out (fun _ hk => hk.1), by repeat (first | (with_reducible first | exact HB.out | apply below_alloc | apply pw_below_drewN | apply below_drew1 | refine below_set ?_ GE314.out | refine below_set ?_ GE315.out) | exact HB.out)⟩
end Go.Proofs.YtnkkdpjipfjdaaaDoor.Q
end
section
-- Written by wip/tool/myprint.py, a program of this repo that drives the kit's print over hand-written contracts; Lean checks it.
namespace Go.Proofs.YtnkkdpjipfjdaaaDoor.Q
open Go.RowKit Go.Proofs.YtnkkdpjipfjdaaaDoorW.PrintWords Go.Proofs.YtnkkdpjipfjdaaaDoorW.PrintLast Go.Proofs.YtnkkdpjipfjdaaaDoorW.PrintMore Go.Proofs.YtnkkdpjipfjdaaaDoorM
open Kd
attribute [local go_sem] max2_int min2_int max_two min_two max_three min_three max_four min_four   -- for this text's walks alone
set_option linter.unusedVariables false
set_option linter.unusedSimpArgs false
def jobshelllaw25_SignalSends.j0 : Nat → Int → Bool → List Int → List Int → List Int → Option (Bool)
 | 0, _, _, _, _, _ => none
 | k + 1, x1, x18, x341000, x341001, x341002 => if x18 = true then ((jobshelllaw25_awake.f k).bind fun t343 => (some t343)) else ((signal_Next.f k x341000 x341001 x341002).bind fun bt344 => ((jobshellref25_Next.f k x341000 x341001 x341002).bind fun bt356 => ((signal_Send.f k x341000 x341001 x341002 x1).bind fun bt368 => ((jobshellref25_Send.f k x341000 x341001 x341002 x1).bind fun bt377 => ((jobshellref25_Same.f k bt368.1 bt368.2.1 bt368.2.2 bt377.1 bt377.2.1 bt377.2.2).bind fun t386 => (if t386 = true then ((jobshellref25_Same.f k bt344.1 bt344.2.1 bt344.2.2.1 bt356.1 bt356.2.1 bt356.2.2.1).bind fun t387 => (if t387 = true then (if bt344.2.2.2.1 = bt356.2.2.2.1 then (if bt344.2.2.2.2 = bt356.2.2.2.2 then ((jobshelllaw25_awake.f k).bind fun t388 => (some t388)) else (none)) else (none)) else (none))) else (none)))))))
def jobshelllaw25_SignalSends.f (k : Nat) (l0_0 : List Int) (l0_1 : List Int) (l0_2 : List Int) (a1 : Int) : Option (Bool) := (jobshelllaw25_short.f l0_0 l0_1 l0_2).bind fun t341 => (if t341 = true then ((jobshellref25_Valid.f k l0_0 l0_1 l0_2).bind fun t342 => (jobshelllaw25_SignalSends.j0 k a1 (t342 != 0) l0_0 l0_1 l0_2)) else (jobshelllaw25_SignalSends.j0 k a1 true l0_0 l0_1 l0_2))
theorem jobshelllaw25_SignalSends.mono_l : ∀ k, (∀ y0 y1 y2 y3 y4, LeO (jobshelllaw25_SignalSends.j0 k y0 y1 y2 y3 y4) (jobshelllaw25_SignalSends.j0 (k + 1) y0 y1 y2 y3 y4))
 | 0 => fun _ _ _ _ _ r h => by simp [jobshelllaw25_SignalSends.j0] at h
 | k + 1 => by
  have ih0 := jobshelllaw25_SignalSends.mono_l k
  ·intro y0 y1 y2 y3 y4
   unfold jobshelllaw25_SignalSends.j0
   repeat' first
   | (with_reducible exact ih0 _ _ _ _ _)
   | (with_reducible exact jobshelllaw25_awake.mono _)
   | (with_reducible exact jobshellref25_Next.mono _ _ _ _)
   | (with_reducible exact jobshellref25_Same.mono _ _ _ _ _ _ _)
   | (with_reducible exact jobshellref25_Send.mono _ _ _ _ _)
   | (with_reducible exact jobshellref25_Valid.mono _ _ _ _)
   | (with_reducible exact signal_Next.mono _ _ _ _)
   | (with_reducible exact signal_Send.mono _ _ _ _ _)
   | (with_reducible exact LeO.refl _)
   | (with_reducible exact LeO.none _)
   | (with_reducible refine LeO.ite ?_ ?_)
   | (with_reducible refine LeO.bind ?_ (fun _ => ?_))
   | exact ih0 _ _ _ _ _
   | exact jobshelllaw25_awake.mono _
   | exact jobshellref25_Next.mono _ _ _ _
   | exact jobshellref25_Same.mono _ _ _ _ _ _ _
   | exact jobshellref25_Send.mono _ _ _ _ _
   | exact jobshellref25_Valid.mono _ _ _ _
   | exact signal_Next.mono _ _ _ _
   | exact signal_Send.mono _ _ _ _ _
   | exact LeO.none _
   | refine LeO.ite ?_ ?_
   | refine LeO.bind ?_ (fun _ => ?_)
theorem jobshelllaw25_SignalSends.mono : ∀ a0 a1 a2 a3 k, LeO (jobshelllaw25_SignalSends.f k a0 a1 a2 a3) (jobshelllaw25_SignalSends.f (k + 1) a0 a1 a2 a3) := by
 intro a0 a1 a2 a3 k
 have ih0 := jobshelllaw25_SignalSends.mono_l k
 unfold jobshelllaw25_SignalSends.f
 repeat' first
   | (with_reducible exact ih0 _ _ _ _ _)
   | (with_reducible exact jobshelllaw25_awake.mono _)
   | (with_reducible exact jobshellref25_Next.mono _ _ _ _)
   | (with_reducible exact jobshellref25_Same.mono _ _ _ _ _ _ _)
   | (with_reducible exact jobshellref25_Send.mono _ _ _ _ _)
   | (with_reducible exact jobshellref25_Valid.mono _ _ _ _)
   | (with_reducible exact signal_Next.mono _ _ _ _)
   | (with_reducible exact signal_Send.mono _ _ _ _ _)
   | (with_reducible exact LeO.refl _)
   | (with_reducible exact LeO.none _)
   | (with_reducible refine LeO.ite ?_ ?_)
   | (with_reducible refine LeO.bind ?_ (fun _ => ?_))
   | exact ih0 _ _ _ _ _
   | exact jobshelllaw25_awake.mono _
   | exact jobshellref25_Next.mono _ _ _ _
   | exact jobshellref25_Same.mono _ _ _ _ _ _ _
   | exact jobshellref25_Send.mono _ _ _ _ _
   | exact jobshellref25_Valid.mono _ _ _ _
   | exact signal_Next.mono _ _ _ _
   | exact signal_Send.mono _ _ _ _ _
   | exact LeO.none _
   | refine LeO.ite ?_ ?_
   | refine LeO.bind ?_ (fun _ => ?_)
def jobshelllaw25_SignalSends.T5 : Bool × List (List Nat × List Nat) := (true, [([], []), ([], []), ([0, 1], [0, 1]), ([], []), ([], []), ([3, 4, 2], [3, 4]), ([2, 5, 5], [2, 5]), ([6, 6], [6]), ([7], [7]), ([7], [7]), ([8, 9, 7, 7], [7, 8, 9]), ([7, 10], [7, 10]), ([11, 10], [11]), ([12], [12]), ([12], [12]), ([13, 14, 12], [12, 13, 14]), ([12, 15], [12, 15]), ([16, 12], [16]), ([17], [17]), ([17], [17]), ([18, 19, 17], [17, 18, 19]), ([17, 20], [17, 20]), ([21, 17], [21]), ([22, 22], [22]), ([22, 23], [22, 23]), ([24, 23, 0, 1, 2, 3, 4, 5, 6, 7, 8, 9, 10, 11, 12, 13, 14, 15, 16, 17, 18, 19, 20, 21, 22, 23, 24], [24])])
def jobshelllaw25_SignalSends.B5 : List Nat := [0, 0, 3, 0, 0, 31, 63, 127, 255, 255, 1023, 2047, 4095, 8191, 8191, 32767, 65535, 131071, 262143, 262143, 1048575, 2097151, 4194303, 8388607, 16777215, 33554431]
theorem jobshelllaw25_SignalSends.tab5 : rtab .any (opsOf Tryd.f4 5) = jobshelllaw25_SignalSends.T5 := by kernel_rfl
theorem jobshelllaw25_SignalSends.bits5 : waitsOk jobshelllaw25_SignalSends.T5.2 jobshelllaw25_SignalSends.B5 = true := by kernel_rfl
set_option maxHeartbeats 8000000 in
set_option maxRecDepth 10000000 in
theorem jobshelllaw25_SignalSends.calls (k : Nat) (A0_0 : Option Addr) (c0_0 : Nat) (l0_0 : List Int) (A0_1 : Option Addr) (c0_1 : Nat) (l0_1 : List Int) (A0_2 : Option Addr) (c0_2 : Nat) (l0_2 : List Int) (a1 : Int) (r : Bool) (w : World) (hr0_0 : Kd.C (Kd.int .i64) w A0_0 l0_0.length l0_0) (hc0_0 : l0_0.length ≤ c0_0) (hr0_1 : Kd.C (Kd.int .i64) w A0_1 l0_1.length l0_1) (hc0_1 : l0_1.length ≤ c0_1) (hr0_2 : Kd.C (Kd.int .i64) w A0_2 l0_2.length l0_2) (hc0_2 : l0_2.length ≤ c0_2) (h : jobshelllaw25_SignalSends.f k l0_0 l0_1 l0_2 a1 = some r) :
  Calls Tryd.prog 4 #[.agg #[.slice A0_0 l0_0.length c0_0, .slice A0_1 l0_1.length c0_1, .slice A0_2 l0_2.length c0_2], .int .i64 a1] w fun e w' => e = .returned (.bool r) ∧ Below w.heap.size w w' := by
 have hu30 := Tryd.underlying30
 have HR0_0 := Zk hr0_0
 have HC0_0 := Zk hc0_0
 clear hr0_0 hc0_0
 have HR0_1 := Zk hr0_1
 have HC0_1 := Zk hc0_1
 clear hr0_1 hc0_1
 have HR0_2 := Zk hr0_2
 have HC0_2 := Zk hc0_2
 clear hr0_2 hc0_2
 have HB := Zk (Below.refl w.heap.size w)
 have H : ((jobshelllaw25_short.f l0_0 l0_1 l0_2).bind fun t341 => (if t341 = true then ((jobshellref25_Valid.f k l0_0 l0_1 l0_2).bind fun t342 => (jobshelllaw25_SignalSends.j0 k a1 (t342 != 0) l0_0 l0_1 l0_2)) else (jobshelllaw25_SignalSends.j0 k a1 true l0_0 l0_1 l0_2))) = some r := h
 clear h
 have HC3 := Zk H
 clear H
 go_enter Tryd.func4, Tryd.ntmps4
 go_upto_region 1 with (first | ((with_reducible refine gate_dst (N := 2) rfl ?_); refine box_event ?hg (N := 2) ?hd (cs := #[.slice A0_0 l0_0.length c0_0, .slice A0_1 l0_1.length c0_1, .slice A0_2 l0_2.length c0_2]) (t := 30) ?hr ?_; (case hd => rfl); (case hg => rfl); (case hr => first | (go_simp; done) | (go_simp; rfl)); intro gb340 hg w4 hbox hb; have n0_ := Zk (below_step (by repeat (first | (with_reducible first | exact HB.out | apply below_alloc | apply pw_below_drewN | apply below_drew1) | exact HB.out)) hb); have n1_ := Zk (hbox); have n2_ := Zk ((by rw [hg]; exact (below_size (by repeat (first | (with_reducible first | exact HB.out | apply below_alloc | apply pw_below_drewN | apply below_drew1) | exact HB.out))) : w.heap.size ≤ gb340)); have n3_ := Zk ((by rw [hg]; exact (below_size (by repeat (first | (with_reducible first | exact HB.out | apply below_alloc | apply pw_below_drewN | apply below_drew1) | exact HB.out))) : w.heap.size ≤ gb340)); clear HB; have HB := n0_; have BK340 := n1_; have GW340 := n2_; have GE340 := n3_; clear n0_ n1_ n2_ n3_; clear hb hbox hg))
 (try simp only [Act.put, List.setIfInBounds_toArray, List.set_cons_zero, List.set_cons_succ])
 go_cut [18] (fun v18 wc => ∃ (kq : Nat) (x18_2 : Bool), v18 = .bool x18_2 ∧ Aside0 (jobshelllaw25_SignalSends.j0 kq a1 x18_2 l0_0 l0_1 l0_2 = some r) ∧ Aside0 (kq ≤ k) ∧ Aside0 (wc.heap[gb340]? = some (.cells #[(.slice A0_0 l0_0.length c0_0), (.slice A0_1 l0_1.length c0_1), (.slice A0_2 l0_2.length c0_2)] 30 (0, 0))) ∧ Aside0 (Below w.heap.size w wc))
 case first =>
  have H := HC3.out
  clear HC3
  replace H := Option.bind_eq_some_iff.mp H
  obtain ⟨t341, A50, H⟩ := H
  replace H : (if t341 = true then ((jobshellref25_Valid.f k l0_0 l0_1 l0_2).bind fun t342 => (jobshelllaw25_SignalSends.j0 k a1 (t342 != 0) l0_0 l0_1 l0_2)) else (jobshelllaw25_SignalSends.j0 k a1 true l0_0 l0_1 l0_2)) = some r := H
  have A5 := Zk A50
  clear A50
  by_cases c6 : t341 = true
  ·subst c6
   have H1 : ((jobshellref25_Valid.f k l0_0 l0_1 l0_2).bind fun t342 => (jobshelllaw25_SignalSends.j0 k a1 (t342 != 0) l0_0 l0_1 l0_2)) = some r := by rw [if_pos rfl] at H; exact H
   clear H
   have H := H1
   clear H1
   replace H := Option.bind_eq_some_iff.mp H
   obtain ⟨t342, A70, H⟩ := H
   replace H : (jobshelllaw25_SignalSends.j0 k a1 (t342 != 0) l0_0 l0_1 l0_2) = some r := H
   have A7 := Zk A70
   clear A70
   have H' := Zk H
   clear H
   have hcz8_0 : w4.cell? ⟨gb340, 0, none⟩ = some (.slice A0_0 l0_0.length c0_0) := (blk_cell BK340.out 0).trans rfl
   have hcz8_1 : w4.cell? ⟨gb340, 1, none⟩ = some (.slice A0_1 l0_1.length c0_1) := (blk_cell BK340.out 1).trans rfl
   have hcz8_2 : w4.cell? ⟨gb340, 2, none⟩ = some (.slice A0_2 l0_2.length c0_2) := (blk_cell BK340.out 2).trans rfl
   have hfz8_0 := blk_frozen BK340.out 0
   have hfz8_1 := blk_frozen BK340.out 1
   have hfz8_2 := blk_frozen BK340.out 2
   go_wp2_with (first | ((with_reducible refine gate_callee (f := 17) rfl ?_); refine goesL_ (some 12) rfl rfl Tryd.func17 (by kernel_rfl) rfl #[.agg #[.slice A0_0 l0_0.length c0_0, .slice A0_1 l0_1.length c0_1, .slice A0_2 l0_2.length c0_2]] rfl (by (try simp only [List.map_toArray, List.map_cons, List.map_nil]); first | done | rfl | (simp only [List.length_drop, List.length_take]; rfl)) ?_; (with_reducible refine (jobshelllaw25_short.calls _ _ l0_0 _ _ l0_1 _ _ l0_2 true _ ?side1 ?side2 ?side3 ?side4 ?side5 ?side6 A5.out).mono ?_); (case side1 => repeat (first | exact (C_below HR0_0.out HB.out) | (with_reducible refine C_alloc ?_ _) | (with_reducible refine C_drewN ?_ _) | (with_reducible refine C_drew ?_))); (case side2 => exact HC0_0.out); (case side3 => repeat (first | exact (C_below HR0_1.out HB.out) | (with_reducible refine C_alloc ?_ _) | (with_reducible refine C_drewN ?_ _) | (with_reducible refine C_drew ?_))); (case side4 => exact HC0_1.out); (case side5 => repeat (first | exact (C_below HR0_2.out HB.out) | (with_reducible refine C_alloc ?_ _) | (with_reducible refine C_drewN ?_ _) | (with_reducible refine C_drew ?_))); (case side6 => exact HC0_2.out); rintro e w9 ⟨rfl, hb⟩; refine ⟨_, rfl, ?_⟩; have n0_ := Zk (blk_below (g := gb340) (o := .cells #[.slice A0_0 l0_0.length c0_0, .slice A0_1 l0_1.length c0_1, .slice A0_2 l0_2.length c0_2] 30 (0, 0)) (by (with_reducible repeat (first | refine blk_drewN ?_ _ | refine blk_drew ?_ | refine blk_alloc ?_ _)); exact BK340.out) hb); have n1_ := Zk (below_step (by repeat (first | (with_reducible first | exact HB.out | apply below_alloc | apply pw_below_drewN | apply below_drew1 | refine below_set ?_ GE340.out) | exact HB.out)) hb); clear BK340; clear HB; have BK340 := n0_; have HB := n1_; clear n0_ n1_; (try clear hb); (try clear hb2); (try clear hk); (try clear hi); have hcz10_0 : w9.cell? ⟨gb340, 0, none⟩ = some (.slice A0_0 l0_0.length c0_0) := (blk_cell BK340.out 0).trans rfl; have hcz10_1 : w9.cell? ⟨gb340, 1, none⟩ = some (.slice A0_1 l0_1.length c0_1) := (blk_cell BK340.out 1).trans rfl; have hcz10_2 : w9.cell? ⟨gb340, 2, none⟩ = some (.slice A0_2 l0_2.length c0_2) := (blk_cell BK340.out 2).trans rfl; have hfz10_0 := blk_frozen BK340.out 0; have hfz10_1 := blk_frozen BK340.out 1; have hfz10_2 := blk_frozen BK340.out 2) | (go_at_call 18; (with_reducible refine (jobshellref25_Valid.calls k _ _ l0_0 _ _ l0_1 _ _ l0_2 t342 _ ?side1 ?side2 ?side3 ?side4 ?side5 ?side6 A7.out).mono ?_); (case side1 => repeat (first | exact (C_below HR0_0.out HB.out) | (with_reducible refine C_alloc ?_ _) | (with_reducible refine C_drewN ?_ _) | (with_reducible refine C_drew ?_))); (case side2 => exact HC0_0.out); (case side3 => repeat (first | exact (C_below HR0_1.out HB.out) | (with_reducible refine C_alloc ?_ _) | (with_reducible refine C_drewN ?_ _) | (with_reducible refine C_drew ?_))); (case side4 => exact HC0_1.out); (case side5 => repeat (first | exact (C_below HR0_2.out HB.out) | (with_reducible refine C_alloc ?_ _) | (with_reducible refine C_drewN ?_ _) | (with_reducible refine C_drew ?_))); (case side6 => exact HC0_2.out); rintro e w11 ⟨rfl, hb⟩; have n0_ := Zk (blk_below (g := gb340) (o := .cells #[.slice A0_0 l0_0.length c0_0, .slice A0_1 l0_1.length c0_1, .slice A0_2 l0_2.length c0_2] 30 (0, 0)) (by (with_reducible repeat (first | refine blk_drewN ?_ _ | refine blk_drew ?_ | refine blk_alloc ?_ _)); exact BK340.out) hb); have n1_ := Zk (below_step (by repeat (first | (with_reducible first | exact HB.out | apply below_alloc | apply pw_below_drewN | apply below_drew1 | refine below_set ?_ GE340.out) | exact HB.out)) hb); clear BK340; clear HB; have BK340 := n0_; have HB := n1_; clear n0_ n1_; (try clear hb); (try clear hb2); (try clear hk); (try clear hi)))
   go_meet
   case rel => exact ⟨_, ((t342 != 0)), (by first | rfl | (simp; done) | (simp [*]; done) | (generalize ByteArray.toList _ = l_; cases l_ <;> rfl)), H', ⟨by first | omega | exact Nat.le_refl _⟩, ⟨by (with_reducible repeat (first | refine blk_drewN ?_ _ | refine blk_drew ?_ | refine blk_alloc ?_ _)); exact BK340.out⟩, ⟨by repeat (first | (with_reducible first | exact HB.out | apply below_alloc | apply pw_below_drewN | apply below_drew1 | refine below_set ?_ GE340.out) | exact HB.out)⟩⟩
  ·replace c6 := Bool.eq_false_iff.mpr c6
   subst c6
   have H1 : (jobshelllaw25_SignalSends.j0 k a1 true l0_0 l0_1 l0_2) = some r := by rw [if_neg (show ¬ (false = true) by decide)] at H; exact H
   clear H
   have H := H1
   clear H1
   have H' := Zk H
   clear H
   have hcz12_0 : w4.cell? ⟨gb340, 0, none⟩ = some (.slice A0_0 l0_0.length c0_0) := (blk_cell BK340.out 0).trans rfl
   have hcz12_1 : w4.cell? ⟨gb340, 1, none⟩ = some (.slice A0_1 l0_1.length c0_1) := (blk_cell BK340.out 1).trans rfl
   have hcz12_2 : w4.cell? ⟨gb340, 2, none⟩ = some (.slice A0_2 l0_2.length c0_2) := (blk_cell BK340.out 2).trans rfl
   have hfz12_0 := blk_frozen BK340.out 0
   have hfz12_1 := blk_frozen BK340.out 1
   have hfz12_2 := blk_frozen BK340.out 2
   go_wp2_with (first | ((with_reducible refine gate_callee (f := 17) rfl ?_); refine goesL_ (some 12) rfl rfl Tryd.func17 (by kernel_rfl) rfl #[.agg #[.slice A0_0 l0_0.length c0_0, .slice A0_1 l0_1.length c0_1, .slice A0_2 l0_2.length c0_2]] rfl (by (try simp only [List.map_toArray, List.map_cons, List.map_nil]); first | done | rfl | (simp only [List.length_drop, List.length_take]; rfl)) ?_; (with_reducible refine (jobshelllaw25_short.calls _ _ l0_0 _ _ l0_1 _ _ l0_2 false _ ?side1 ?side2 ?side3 ?side4 ?side5 ?side6 A5.out).mono ?_); (case side1 => repeat (first | exact (C_below HR0_0.out HB.out) | (with_reducible refine C_alloc ?_ _) | (with_reducible refine C_drewN ?_ _) | (with_reducible refine C_drew ?_))); (case side2 => exact HC0_0.out); (case side3 => repeat (first | exact (C_below HR0_1.out HB.out) | (with_reducible refine C_alloc ?_ _) | (with_reducible refine C_drewN ?_ _) | (with_reducible refine C_drew ?_))); (case side4 => exact HC0_1.out); (case side5 => repeat (first | exact (C_below HR0_2.out HB.out) | (with_reducible refine C_alloc ?_ _) | (with_reducible refine C_drewN ?_ _) | (with_reducible refine C_drew ?_))); (case side6 => exact HC0_2.out); rintro e w13 ⟨rfl, hb⟩; refine ⟨_, rfl, ?_⟩; have n0_ := Zk (blk_below (g := gb340) (o := .cells #[.slice A0_0 l0_0.length c0_0, .slice A0_1 l0_1.length c0_1, .slice A0_2 l0_2.length c0_2] 30 (0, 0)) (by (with_reducible repeat (first | refine blk_drewN ?_ _ | refine blk_drew ?_ | refine blk_alloc ?_ _)); exact BK340.out) hb); have n1_ := Zk (below_step (by repeat (first | (with_reducible first | exact HB.out | apply below_alloc | apply pw_below_drewN | apply below_drew1 | refine below_set ?_ GE340.out) | exact HB.out)) hb); clear BK340; clear HB; have BK340 := n0_; have HB := n1_; clear n0_ n1_; (try clear hb); (try clear hb2); (try clear hk); (try clear hi)))
   go_meet
   case rel => exact ⟨_, (true), (by first | rfl | (simp; done) | (simp [*]; done) | (generalize ByteArray.toList _ = l_; cases l_ <;> rfl)), H', ⟨by first | omega | exact Nat.le_refl _⟩, ⟨by (with_reducible repeat (first | refine blk_drewN ?_ _ | refine blk_drew ?_ | refine blk_alloc ?_ _)); exact BK340.out⟩, ⟨by repeat (first | (with_reducible first | exact HB.out | apply below_alloc | apply pw_below_drewN | apply below_drew1 | refine below_set ?_ GE340.out) | exact HB.out)⟩⟩
 case rest =>
  clear HC3
  try clear c1
  try clear p2
  try clear c4
  try clear c6
  try clear hcz10_0
  try clear hcz10_1
  try clear hcz10_2
  try clear hcz12_0
  try clear hcz12_1
  try clear hcz12_2
  try clear hcz8_0
  try clear hcz8_1
  try clear hcz8_2
  try clear hfz10_0
  try clear hfz10_1
  try clear hfz10_2
  try clear hfz12_0
  try clear hfz12_1
  try clear hfz12_2
  try clear hfz8_0
  try clear hfz8_1
  try clear hfz8_2
  obtain ⟨kq, x18_2, rfl, HA, HJ2, BK340, HB⟩ := hcut
  cases kq with
  | zero => exact absurd HA.out (by simp [jobshelllaw25_SignalSends.j0])
  | succ kj2 =>
   have H := HA.out
   clear HA
   simp only [jobshelllaw25_SignalSends.j0] at H
   by_cases c14 : x18_2 = true
   ·subst c14
    have H1 : ((jobshelllaw25_awake.f kj2).bind fun t343 => (some t343)) = some r := by rw [if_pos rfl] at H; exact H
    clear H
    have H := H1
    clear H1
    replace H := Option.bind_eq_some_iff.mp H
    obtain ⟨t343, A150, H⟩ := H
    replace H : (some t343) = some r := H
    have A15 := Zk A150
    clear A150
    obtain rfl := Option.some.inj H
    go_wp2_with (first | ((with_reducible refine gate_callee (f := 10) rfl ?_); refine goesL_ (some 19) rfl rfl Tryd.func10 (by kernel_rfl) rfl #[] rfl (by (try simp only [List.map_toArray, List.map_cons, List.map_nil]); first | done | rfl | (simp only [List.length_drop, List.length_take]; rfl)) ?_; (with_reducible refine (jobshelllaw25_awake.calls kj2  t343 _ A15.out).mono ?_); rintro e w16 ⟨rfl, hb⟩; refine ⟨_, rfl, ?_⟩; have n0_ := Zk (blk_below (g := gb340) (o := .cells #[.slice A0_0 l0_0.length c0_0, .slice A0_1 l0_1.length c0_1, .slice A0_2 l0_2.length c0_2] 30 (0, 0)) (by (with_reducible repeat (first | refine blk_drewN ?_ _ | refine blk_drew ?_ | refine blk_alloc ?_ _)); exact BK340.out) hb); have n1_ := Zk (below_step (by repeat (first | (with_reducible first | exact HB.out | apply below_alloc | apply pw_below_drewN | apply below_drew1 | refine below_set ?_ GE340.out) | exact HB.out)) hb); clear BK340; clear HB; have BK340 := n0_; have HB := n1_; clear n0_ n1_; (try clear hb); (try clear hb2); (try clear hk); (try clear hi)))
    go_ret
    exact ⟨by first | rfl | (simp [errW_none, errW_some] <;> rfl) | (simp [*, errW_none, errW_some] <;> rfl), by repeat (first | (with_reducible first | exact HB.out | apply below_alloc | apply pw_below_drewN | apply below_drew1 | refine below_set ?_ GE340.out) | exact HB.out)⟩
   ·replace c14 := Bool.eq_false_iff.mpr c14
    subst c14
    have H1 : ((signal_Next.f kj2 l0_0 l0_1 l0_2).bind fun bt344 => ((jobshellref25_Next.f kj2 l0_0 l0_1 l0_2).bind fun bt356 => ((signal_Send.f kj2 l0_0 l0_1 l0_2 a1).bind fun bt368 => ((jobshellref25_Send.f kj2 l0_0 l0_1 l0_2 a1).bind fun bt377 => ((jobshellref25_Same.f kj2 bt368.1 bt368.2.1 bt368.2.2 bt377.1 bt377.2.1 bt377.2.2).bind fun t386 => (if t386 = true then ((jobshellref25_Same.f kj2 bt344.1 bt344.2.1 bt344.2.2.1 bt356.1 bt356.2.1 bt356.2.2.1).bind fun t387 => (if t387 = true then (if bt344.2.2.2.1 = bt356.2.2.2.1 then (if bt344.2.2.2.2 = bt356.2.2.2.2 then ((jobshelllaw25_awake.f kj2).bind fun t388 => (some t388)) else (none)) else (none)) else (none))) else (none))))))) = some r := by rw [if_neg (show ¬ (false = true) by decide)] at H; exact H
    clear H
    have H := H1
    clear H1
    replace H := Option.bind_eq_some_iff.mp H
    obtain ⟨⟨t344, t347, t350, t353, t354⟩, A170, H⟩ := H
    replace H : ((jobshellref25_Next.f kj2 l0_0 l0_1 l0_2).bind fun bt356 => ((signal_Send.f kj2 l0_0 l0_1 l0_2 a1).bind fun bt368 => ((jobshellref25_Send.f kj2 l0_0 l0_1 l0_2 a1).bind fun bt377 => ((jobshellref25_Same.f kj2 bt368.1 bt368.2.1 bt368.2.2 bt377.1 bt377.2.1 bt377.2.2).bind fun t386 => (if t386 = true then ((jobshellref25_Same.f kj2 t344 t347 t350 bt356.1 bt356.2.1 bt356.2.2.1).bind fun t387 => (if t387 = true then (if t353 = bt356.2.2.2.1 then (if t354 = bt356.2.2.2.2 then ((jobshelllaw25_awake.f kj2).bind fun t388 => (some t388)) else (none)) else (none)) else (none))) else (none)))))) = some r := H
    have A17 := Zk A170
    clear A170
    replace H := Option.bind_eq_some_iff.mp H
    obtain ⟨⟨t356, t359, t362, t365, t366⟩, A180, H⟩ := H
    replace H : ((signal_Send.f kj2 l0_0 l0_1 l0_2 a1).bind fun bt368 => ((jobshellref25_Send.f kj2 l0_0 l0_1 l0_2 a1).bind fun bt377 => ((jobshellref25_Same.f kj2 bt368.1 bt368.2.1 bt368.2.2 bt377.1 bt377.2.1 bt377.2.2).bind fun t386 => (if t386 = true then ((jobshellref25_Same.f kj2 t344 t347 t350 t356 t359 t362).bind fun t387 => (if t387 = true then (if t353 = t365 then (if t354 = t366 then ((jobshelllaw25_awake.f kj2).bind fun t388 => (some t388)) else (none)) else (none)) else (none))) else (none))))) = some r := H
    have A18 := Zk A180
    clear A180
    replace H := Option.bind_eq_some_iff.mp H
    obtain ⟨⟨t368, t371, t374⟩, A190, H⟩ := H
    replace H : ((jobshellref25_Send.f kj2 l0_0 l0_1 l0_2 a1).bind fun bt377 => ((jobshellref25_Same.f kj2 t368 t371 t374 bt377.1 bt377.2.1 bt377.2.2).bind fun t386 => (if t386 = true then ((jobshellref25_Same.f kj2 t344 t347 t350 t356 t359 t362).bind fun t387 => (if t387 = true then (if t353 = t365 then (if t354 = t366 then ((jobshelllaw25_awake.f kj2).bind fun t388 => (some t388)) else (none)) else (none)) else (none))) else (none)))) = some r := H
    have A19 := Zk A190
    clear A190
    replace H := Option.bind_eq_some_iff.mp H
    obtain ⟨⟨t377, t380, t383⟩, A200, H⟩ := H
    replace H : ((jobshellref25_Same.f kj2 t368 t371 t374 t377 t380 t383).bind fun t386 => (if t386 = true then ((jobshellref25_Same.f kj2 t344 t347 t350 t356 t359 t362).bind fun t387 => (if t387 = true then (if t353 = t365 then (if t354 = t366 then ((jobshelllaw25_awake.f kj2).bind fun t388 => (some t388)) else (none)) else (none)) else (none))) else (none))) = some r := H
    have A20 := Zk A200
    clear A200
    replace H := Option.bind_eq_some_iff.mp H
    obtain ⟨t386, A210, H⟩ := H
    replace H : (if t386 = true then ((jobshellref25_Same.f kj2 t344 t347 t350 t356 t359 t362).bind fun t387 => (if t387 = true then (if t353 = t365 then (if t354 = t366 then ((jobshelllaw25_awake.f kj2).bind fun t388 => (some t388)) else (none)) else (none)) else (none))) else (none)) = some r := H
    have A21 := Zk A210
    clear A210
    by_cases c22 : t386 = true
    ·subst c22
     have H1 : ((jobshellref25_Same.f kj2 t344 t347 t350 t356 t359 t362).bind fun t387 => (if t387 = true then (if t353 = t365 then (if t354 = t366 then ((jobshelllaw25_awake.f kj2).bind fun t388 => (some t388)) else (none)) else (none)) else (none))) = some r := by rw [if_pos rfl] at H; exact H
     clear H
     have H := H1
     clear H1
     replace H := Option.bind_eq_some_iff.mp H
     obtain ⟨t387, A230, H⟩ := H
     replace H : (if t387 = true then (if t353 = t365 then (if t354 = t366 then ((jobshelllaw25_awake.f kj2).bind fun t388 => (some t388)) else (none)) else (none)) else (none)) = some r := H
     have A23 := Zk A230
     clear A230
     by_cases c24 : t387 = true
     ·subst c24
      have H1 : (if t353 = t365 then (if t354 = t366 then ((jobshelllaw25_awake.f kj2).bind fun t388 => (some t388)) else (none)) else (none)) = some r := by rw [if_pos rfl] at H; exact H
      clear H
      have H := H1
      clear H1
      by_cases c25 : t353 = t365
      ·rw [if_pos c25] at H
       have c25b0 : (t353 == t365) = true := beq_iff_eq.mpr c25
       have c25b1 : (t353 != t365) = false := bne_eq_false_iff_eq.mpr c25
       clear c25
       by_cases c26 : t354 = t366
       ·rw [if_pos c26] at H
        have c26b0 : (t354 == t366) = true := beq_iff_eq.mpr c26
        have c26b1 : (t354 != t366) = false := bne_eq_false_iff_eq.mpr c26
        clear c26
        replace H := Option.bind_eq_some_iff.mp H
        obtain ⟨t388, A270, H⟩ := H
        replace H : (some t388) = some r := H
        have A27 := Zk A270
        clear A270
        obtain rfl := Option.some.inj H
        have hcz28_0 : wc.cell? ⟨gb340, 0, none⟩ = some (.slice A0_0 l0_0.length c0_0) := (blk_cell BK340.out 0).trans rfl
        have hcz28_1 : wc.cell? ⟨gb340, 1, none⟩ = some (.slice A0_1 l0_1.length c0_1) := (blk_cell BK340.out 1).trans rfl
        have hcz28_2 : wc.cell? ⟨gb340, 2, none⟩ = some (.slice A0_2 l0_2.length c0_2) := (blk_cell BK340.out 2).trans rfl
        have hfz28_0 := blk_frozen BK340.out 0
        have hfz28_1 := blk_frozen BK340.out 1
        have hfz28_2 := blk_frozen BK340.out 2
        try go_wp2_with (first | ((with_reducible refine gate_callee (f := 19) rfl ?_); refine goesL_ (some 22) rfl rfl Tryd.func19 (by kernel_rfl) rfl #[.agg #[.slice A0_0 l0_0.length c0_0, .slice A0_1 l0_1.length c0_1, .slice A0_2 l0_2.length c0_2]] rfl (by (try simp only [List.map_toArray, List.map_cons, List.map_nil]); first | done | rfl | (simp only [List.length_drop, List.length_take]; rfl)) ?_; (with_reducible refine (signal_Next.calls kj2 (fun k_ => k_ < w.heap.size) _ _ l0_0 (fun k_ => k_ < w.heap.size) _ _ l0_1 (fun k_ => k_ < w.heap.size) _ _ l0_2 t344 t347 t350 t353 t354 _ ?side1 ?side2 ?side3 A17.out).mono ?_); (case side1 => exact V_mk HC0_0.out (Kd.F_below (C_F (Kd.heap_int .i64) HR0_0.out) (by repeat (first | (with_reducible first | exact HB.out | apply below_alloc | apply pw_below_drewN | apply below_drew1 | refine below_set ?_ GE340.out) | exact HB.out)))); (case side2 => exact V_mk HC0_1.out (Kd.F_below (C_F (Kd.heap_int .i64) HR0_1.out) (by repeat (first | (with_reducible first | exact HB.out | apply below_alloc | apply pw_below_drewN | apply below_drew1 | refine below_set ?_ GE340.out) | exact HB.out)))); (case side3 => exact V_mk HC0_2.out (Kd.F_below (C_F (Kd.heap_int .i64) HR0_2.out) (by repeat (first | (with_reducible first | exact HB.out | apply below_alloc | apply pw_below_drewN | apply below_drew1 | refine below_set ?_ GE340.out) | exact HB.out)))); rintro e w29 ⟨v345, v348, v351, rfl, ho0, ho1, ho2, hb⟩; refine ⟨_, rfl, ?_⟩; have n0_ := Zk (V_lower (V_mono (ok' := fun k_ => k_ ≠ gb340) ho0 (fun k_ hk_ => Or.elim hk_ (fun hs_ => Or.elim hs_ (fun hs_ => fun e_ => Nat.not_le.2 hs_ (by rw [e_]; exact GW340.out)) (fun hs_ => Or.elim hs_ (fun hs_ => fun e_ => Nat.not_le.2 hs_ (by rw [e_]; exact GW340.out)) (fun hs_ => fun e_ => Nat.not_le.2 hs_ (by rw [e_]; exact GW340.out)))) (fun hn_ => (Kd.freshB (g := gb340) (o := .cells #[.slice A0_0 l0_0.length c0_0, .slice A0_1 l0_1.length c0_1, .slice A0_2 l0_2.length c0_2] 30 (0, 0)) (by (with_reducible repeat (first | refine blk_drewN ?_ _ | refine blk_drew ?_ | refine blk_alloc ?_ _)); exact BK340.out) k_ hn_)))) (below_size (by repeat (first | (with_reducible first | exact HB.out | apply below_alloc | apply pw_below_drewN | apply below_drew1 | refine below_set ?_ GE340.out) | exact HB.out)))); have n1_ := Zk (V_lower (V_mono (ok' := fun k_ => k_ ≠ gb340) ho1 (fun k_ hk_ => Or.elim hk_ (fun hs_ => Or.elim hs_ (fun hs_ => fun e_ => Nat.not_le.2 hs_ (by rw [e_]; exact GW340.out)) (fun hs_ => Or.elim hs_ (fun hs_ => fun e_ => Nat.not_le.2 hs_ (by rw [e_]; exact GW340.out)) (fun hs_ => fun e_ => Nat.not_le.2 hs_ (by rw [e_]; exact GW340.out)))) (fun hn_ => (Kd.freshB (g := gb340) (o := .cells #[.slice A0_0 l0_0.length c0_0, .slice A0_1 l0_1.length c0_1, .slice A0_2 l0_2.length c0_2] 30 (0, 0)) (by (with_reducible repeat (first | refine blk_drewN ?_ _ | refine blk_drew ?_ | refine blk_alloc ?_ _)); exact BK340.out) k_ hn_)))) (below_size (by repeat (first | (with_reducible first | exact HB.out | apply below_alloc | apply pw_below_drewN | apply below_drew1 | refine below_set ?_ GE340.out) | exact HB.out)))); have n2_ := Zk (V_lower (V_mono (ok' := fun k_ => k_ ≠ gb340) ho2 (fun k_ hk_ => Or.elim hk_ (fun hs_ => Or.elim hs_ (fun hs_ => fun e_ => Nat.not_le.2 hs_ (by rw [e_]; exact GW340.out)) (fun hs_ => Or.elim hs_ (fun hs_ => fun e_ => Nat.not_le.2 hs_ (by rw [e_]; exact GW340.out)) (fun hs_ => fun e_ => Nat.not_le.2 hs_ (by rw [e_]; exact GW340.out)))) (fun hn_ => (Kd.freshB (g := gb340) (o := .cells #[.slice A0_0 l0_0.length c0_0, .slice A0_1 l0_1.length c0_1, .slice A0_2 l0_2.length c0_2] 30 (0, 0)) (by (with_reducible repeat (first | refine blk_drewN ?_ _ | refine blk_drew ?_ | refine blk_alloc ?_ _)); exact BK340.out) k_ hn_)))) (below_size (by repeat (first | (with_reducible first | exact HB.out | apply below_alloc | apply pw_below_drewN | apply below_drew1 | refine below_set ?_ GE340.out) | exact HB.out)))); have n3_ := Zk (blk_below (g := gb340) (o := .cells #[.slice A0_0 l0_0.length c0_0, .slice A0_1 l0_1.length c0_1, .slice A0_2 l0_2.length c0_2] 30 (0, 0)) (by (with_reducible repeat (first | refine blk_drewN ?_ _ | refine blk_drew ?_ | refine blk_alloc ?_ _)); exact BK340.out) hb); have n4_ := Zk (below_step (by repeat (first | (with_reducible first | exact HB.out | apply below_alloc | apply pw_below_drewN | apply below_drew1 | refine below_set ?_ GE340.out) | exact HB.out)) hb); clear BK340; clear HB; have HO346 := n0_; have HO349 := n1_; have HO352 := n2_; have BK340 := n3_; have HB := n4_; clear n0_ n1_ n2_ n3_ n4_; (try clear hb); (try clear hb2); (try clear hk); (try clear hi); (try clear ho0); (try clear ho1); (try clear ho2)) | ((with_reducible refine gate_dst (N := 5) rfl ?_); refine box_event ?hg (N := 5) ?hd (cs := #[.slice none 0 0, .slice none 0 0, .slice none 0 0]) (t := 30) ?hr ?_; (case hd => rfl); (case hg => rfl); (case hr => first | (go_simp; done) | (go_simp; rfl)); intro gb355 hg w30 hbox hb; have n0_ := Zk (V_below (V_elderB (by (with_reducible repeat (first | apply V_alloc | apply V_drewN | apply V_drew)); exact HO346.out) gb355 (Nat.le_of_eq hg.symm)) hb); have n1_ := Zk (V_below (V_elderB (by (with_reducible repeat (first | apply V_alloc | apply V_drewN | apply V_drew)); exact HO349.out) gb355 (Nat.le_of_eq hg.symm)) hb); have n2_ := Zk (V_below (V_elderB (by (with_reducible repeat (first | apply V_alloc | apply V_drewN | apply V_drew)); exact HO352.out) gb355 (Nat.le_of_eq hg.symm)) hb); have n3_ := Zk (blk_below (g := gb340) (o := .cells #[.slice A0_0 l0_0.length c0_0, .slice A0_1 l0_1.length c0_1, .slice A0_2 l0_2.length c0_2] 30 (0, 0)) (by (with_reducible repeat (first | refine blk_drewN ?_ _ | refine blk_drew ?_ | refine blk_alloc ?_ _)); exact BK340.out) hb); have n4_ := Zk (below_step (by repeat (first | (with_reducible first | exact HB.out | apply below_alloc | apply pw_below_drewN | apply below_drew1 | refine below_set ?_ GE340.out) | exact HB.out)) hb); have n5_ := Zk (hbox); have n6_ := Zk ((by rw [hg]; exact (below_size (by repeat (first | (with_reducible first | exact HB.out | apply below_alloc | apply pw_below_drewN | apply below_drew1 | refine below_set ?_ GE340.out) | exact HB.out))) : w.heap.size ≤ gb355)); have n7_ := Zk ((by rw [hg]; exact (below_size (by repeat (first | (with_reducible first | exact HB.out | apply below_alloc | apply pw_below_drewN | apply below_drew1 | refine below_set ?_ GE340.out) | exact HB.out))) : w.heap.size ≤ gb355)); have n8_ := Zk ((by rw [hg]; exact Nat.ne_of_lt (blk_lt (g := gb340) (o := .cells #[.slice A0_0 l0_0.length c0_0, .slice A0_1 l0_1.length c0_1, .slice A0_2 l0_2.length c0_2] 30 (0, 0)) (by (with_reducible repeat (first | refine blk_drewN ?_ _ | refine blk_drew ?_ | refine blk_alloc ?_ _)); exact BK340.out)) : gb340 ≠ gb355)); have n9_ := Zk ((by rw [hg]; exact Nat.ne_of_gt (blk_lt (g := gb340) (o := .cells #[.slice A0_0 l0_0.length c0_0, .slice A0_1 l0_1.length c0_1, .slice A0_2 l0_2.length c0_2] 30 (0, 0)) (by (with_reducible repeat (first | refine blk_drewN ?_ _ | refine blk_drew ?_ | refine blk_alloc ?_ _)); exact BK340.out)) : gb355 ≠ gb340)); clear HO346; clear HO349; clear HO352; clear BK340; clear HB; have HO346 := n0_; have HO349 := n1_; have HO352 := n2_; have BK340 := n3_; have HB := n4_; have BK355 := n5_; have GW355 := n6_; have GE355 := n7_; have NB340_355 := n8_; have NB355_340 := n9_; clear n0_ n1_ n2_ n3_ n4_ n5_ n6_ n7_ n8_ n9_; clear hb hbox hg; obtain ⟨Ao31, co31, eo31⟩ := V_slice HO346.out; subst eo31; have hnb32 := NB355_340.out; have hnc32 := NB340_355.out; have hcz33_0 : w30.cell? ⟨gb355, 0, none⟩ = some (.slice none 0 0) := (blk_cell BK355.out 0).trans rfl; have hcz33_1 : w30.cell? ⟨gb355, 1, none⟩ = some (.slice none 0 0) := (blk_cell BK355.out 1).trans rfl; have hcz33_2 : w30.cell? ⟨gb355, 2, none⟩ = some (.slice none 0 0) := (blk_cell BK355.out 2).trans rfl; have hfz33_0 := blk_frozen BK355.out 0; have hfz33_1 := blk_frozen BK355.out 1; have hfz33_2 := blk_frozen BK355.out 2; obtain ⟨Ao34, co34, eo34⟩ := V_slice HO349.out; subst eo34; obtain ⟨Ao35, co35, eo35⟩ := V_slice HO352.out; subst eo35) | ((with_reducible refine gate_store (t := 30) (p := 5) rfl ?_); refine store_event (t := 30) (p := 5) (v := ?vo_w36) (w1 := (((w30.setCell ⟨gb355, 0, none⟩ (.slice Ao31 t344.length co31)).setCell ⟨gb355, 1, none⟩ (.slice Ao34 t347.length co34)).setCell ⟨gb355, 2, none⟩ (.slice Ao35 t350.length co35))) ?hg ?ho ?hn ?hr ?_; (case ho => rfl); (case hg => rfl); (case hn => rfl); (case hr => first | (go_simp; done) | (go_simp; rfl)); intro w36 hw; have n0_ : Aside0 (Kd.V (Kd.int .i64) 3 w36 w.heap.size (fun k_ => k_ ≠ gb340 ∧ k_ ≠ gb355) (.slice Ao31 t344.length co31) t344) := ⟨(by rw [hw]; exact (by (with_reducible repeat (first | apply V_alloc | apply V_drewN | apply V_drew)); exact V_mono (V_far (p := ⟨gb355, 2, none⟩) (V_far (p := ⟨gb355, 1, none⟩) (V_far (p := ⟨gb355, 0, none⟩) (V_mono HO346.out (fun k_ hk => (⟨hk, hk.2⟩ : _ ∧ k_ ≠ gb355))) (fun _ hk => hk.2) (.slice Ao31 t344.length co31)) (fun _ hk => hk.2) (.slice Ao34 t347.length co34)) (fun _ hk => hk.2) (.slice Ao35 t350.length co35)) (fun _ hk => ⟨hk.1.1, hk.1.2⟩)))⟩; have n1_ : Aside0 (Kd.V (Kd.int .i64) 3 w36 w.heap.size (fun k_ => k_ ≠ gb340 ∧ k_ ≠ gb355) (.slice Ao34 t347.length co34) t347) := ⟨(by rw [hw]; exact (by (with_reducible repeat (first | apply V_alloc | apply V_drewN | apply V_drew)); exact V_mono (V_far (p := ⟨gb355, 2, none⟩) (V_far (p := ⟨gb355, 1, none⟩) (V_far (p := ⟨gb355, 0, none⟩) (V_mono HO349.out (fun k_ hk => (⟨hk, hk.2⟩ : _ ∧ k_ ≠ gb355))) (fun _ hk => hk.2) (.slice Ao31 t344.length co31)) (fun _ hk => hk.2) (.slice Ao34 t347.length co34)) (fun _ hk => hk.2) (.slice Ao35 t350.length co35)) (fun _ hk => ⟨hk.1.1, hk.1.2⟩)))⟩; have n2_ : Aside0 (Kd.V (Kd.int .i64) 3 w36 w.heap.size (fun k_ => k_ ≠ gb340 ∧ k_ ≠ gb355) (.slice Ao35 t350.length co35) t350) := ⟨(by rw [hw]; exact (by (with_reducible repeat (first | apply V_alloc | apply V_drewN | apply V_drew)); exact V_mono (V_far (p := ⟨gb355, 2, none⟩) (V_far (p := ⟨gb355, 1, none⟩) (V_far (p := ⟨gb355, 0, none⟩) (V_mono HO352.out (fun k_ hk => (⟨hk, hk.2⟩ : _ ∧ k_ ≠ gb355))) (fun _ hk => hk.2) (.slice Ao31 t344.length co31)) (fun _ hk => hk.2) (.slice Ao34 t347.length co34)) (fun _ hk => hk.2) (.slice Ao35 t350.length co35)) (fun _ hk => ⟨hk.1.1, hk.1.2⟩)))⟩; have n3_ : Aside0 (w36.heap[gb340]? = some (.cells #[.slice A0_0 l0_0.length c0_0, .slice A0_1 l0_1.length c0_1, .slice A0_2 l0_2.length c0_2] 30 (0, 0))) := ⟨(by rw [hw]; exact (by (with_reducible repeat (first | refine blk_drewN ?_ _ | refine blk_drew ?_ | refine blk_alloc ?_ _)); refine blk_far ?_ NB340_355.out _; (with_reducible repeat (first | refine blk_drewN ?_ _ | refine blk_drew ?_ | refine blk_alloc ?_ _)); refine blk_far ?_ NB340_355.out _; (with_reducible repeat (first | refine blk_drewN ?_ _ | refine blk_drew ?_ | refine blk_alloc ?_ _)); refine blk_far ?_ NB340_355.out _; (with_reducible repeat (first | refine blk_drewN ?_ _ | refine blk_drew ?_ | refine blk_alloc ?_ _)); exact BK340.out))⟩; have n4_ : Aside0 (w36.heap[gb355]? = some (.cells #[.slice Ao31 t344.length co31, .slice Ao34 t347.length co34, .slice Ao35 t350.length co35] 30 (0, 0))) := ⟨(by rw [hw]; exact (by (with_reducible repeat (first | refine blk_drewN ?_ _ | refine blk_drew ?_ | refine blk_alloc ?_ _)); refine blk_put (cs := #[.slice Ao31 t344.length co31, .slice Ao34 t347.length co34, .slice none 0 0]) ?_ 2 _ rfl; (with_reducible repeat (first | refine blk_drewN ?_ _ | refine blk_drew ?_ | refine blk_alloc ?_ _)); refine blk_put (cs := #[.slice Ao31 t344.length co31, .slice none 0 0, .slice none 0 0]) ?_ 1 _ rfl; (with_reducible repeat (first | refine blk_drewN ?_ _ | refine blk_drew ?_ | refine blk_alloc ?_ _)); refine blk_put (cs := #[.slice none 0 0, .slice none 0 0, .slice none 0 0]) ?_ 0 _ rfl; (with_reducible repeat (first | refine blk_drewN ?_ _ | refine blk_drew ?_ | refine blk_alloc ?_ _)); exact BK355.out))⟩; have n5_ : Aside0 (Below w.heap.size w w36) := ⟨(by rw [hw]; exact (by repeat (first | (with_reducible first | exact HB.out | apply below_alloc | apply pw_below_drewN | apply below_drew1 | refine below_set ?_ GE340.out | refine below_set ?_ GE355.out) | exact HB.out)))⟩; clear hw; clear HO346; clear HO349; clear HO352; clear BK340; clear BK355; clear HB; have HO346 := n0_; have HO349 := n1_; have HO352 := n2_; have BK340 := n3_; have BK355 := n4_; have HB := n5_; clear n0_ n1_ n2_ n3_ n4_ n5_; have hcz37_0 : w36.cell? ⟨gb340, 0, none⟩ = some (.slice A0_0 l0_0.length c0_0) := (blk_cell BK340.out 0).trans rfl; have hcz37_1 : w36.cell? ⟨gb340, 1, none⟩ = some (.slice A0_1 l0_1.length c0_1) := (blk_cell BK340.out 1).trans rfl; have hcz37_2 : w36.cell? ⟨gb340, 2, none⟩ = some (.slice A0_2 l0_2.length c0_2) := (blk_cell BK340.out 2).trans rfl; have hfz37_0 := blk_frozen BK340.out 0; have hfz37_1 := blk_frozen BK340.out 1; have hfz37_2 := blk_frozen BK340.out 2) | ((with_reducible refine gate_callee (f := 20) rfl ?_); refine goesL_ (some 28) rfl rfl Tryd.func20 (by kernel_rfl) rfl #[.agg #[.slice A0_0 l0_0.length c0_0, .slice A0_1 l0_1.length c0_1, .slice A0_2 l0_2.length c0_2]] rfl (by (try simp only [List.map_toArray, List.map_cons, List.map_nil]); first | done | rfl | (simp only [List.length_drop, List.length_take]; rfl)) ?_; (with_reducible refine (jobshellref25_Next.calls kj2 (fun k_ => k_ < w.heap.size) _ _ l0_0 (fun k_ => k_ < w.heap.size) _ _ l0_1 (fun k_ => k_ < w.heap.size) _ _ l0_2 t356 t359 t362 t365 t366 _ ?side1 ?side2 ?side3 A18.out).mono ?_); (case side1 => exact V_mk HC0_0.out (Kd.F_below (C_F (Kd.heap_int .i64) HR0_0.out) (by repeat (first | (with_reducible first | exact HB.out | apply below_alloc | apply pw_below_drewN | apply below_drew1 | refine below_set ?_ GE340.out | refine below_set ?_ GE355.out) | exact HB.out)))); (case side2 => exact V_mk HC0_1.out (Kd.F_below (C_F (Kd.heap_int .i64) HR0_1.out) (by repeat (first | (with_reducible first | exact HB.out | apply below_alloc | apply pw_below_drewN | apply below_drew1 | refine below_set ?_ GE340.out | refine below_set ?_ GE355.out) | exact HB.out)))); (case side3 => exact V_mk HC0_2.out (Kd.F_below (C_F (Kd.heap_int .i64) HR0_2.out) (by repeat (first | (with_reducible first | exact HB.out | apply below_alloc | apply pw_below_drewN | apply below_drew1 | refine below_set ?_ GE340.out | refine below_set ?_ GE355.out) | exact HB.out)))); rintro e w38 ⟨v357, v360, v363, rfl, ho0, ho1, ho2, hb⟩; refine ⟨_, rfl, ?_⟩; have n0_ := Zk (V_below (by (with_reducible repeat (first | apply V_alloc | apply V_drewN | apply V_drew)); exact HO346.out) hb); have n1_ := Zk (V_below (by (with_reducible repeat (first | apply V_alloc | apply V_drewN | apply V_drew)); exact HO349.out) hb); have n2_ := Zk (V_below (by (with_reducible repeat (first | apply V_alloc | apply V_drewN | apply V_drew)); exact HO352.out) hb); have n3_ := Zk (V_lower (V_mono (ok' := fun k_ => k_ ≠ gb340 ∧ k_ ≠ gb355) ho0 (fun k_ hk_ => ⟨Or.elim hk_ (fun hs_ => Or.elim hs_ (fun hs_ => fun e_ => Nat.not_le.2 hs_ (by rw [e_]; exact GW340.out)) (fun hs_ => Or.elim hs_ (fun hs_ => fun e_ => Nat.not_le.2 hs_ (by rw [e_]; exact GW340.out)) (fun hs_ => fun e_ => Nat.not_le.2 hs_ (by rw [e_]; exact GW340.out)))) (fun hn_ => (Kd.freshB (g := gb340) (o := .cells #[.slice A0_0 l0_0.length c0_0, .slice A0_1 l0_1.length c0_1, .slice A0_2 l0_2.length c0_2] 30 (0, 0)) (by (with_reducible repeat (first | refine blk_drewN ?_ _ | refine blk_drew ?_ | refine blk_alloc ?_ _)); exact BK340.out) k_ hn_)), Or.elim hk_ (fun hs_ => Or.elim hs_ (fun hs_ => fun e_ => Nat.not_le.2 hs_ (by rw [e_]; exact GW355.out)) (fun hs_ => Or.elim hs_ (fun hs_ => fun e_ => Nat.not_le.2 hs_ (by rw [e_]; exact GW355.out)) (fun hs_ => fun e_ => Nat.not_le.2 hs_ (by rw [e_]; exact GW355.out)))) (fun hn_ => (Kd.freshB (g := gb355) (o := .cells #[.slice Ao31 t344.length co31, .slice Ao34 t347.length co34, .slice Ao35 t350.length co35] 30 (0, 0)) (by (with_reducible repeat (first | refine blk_drewN ?_ _ | refine blk_drew ?_ | refine blk_alloc ?_ _)); exact BK355.out) k_ hn_))⟩)) (below_size (by repeat (first | (with_reducible first | exact HB.out | apply below_alloc | apply pw_below_drewN | apply below_drew1 | refine below_set ?_ GE340.out | refine below_set ?_ GE355.out) | exact HB.out)))); have n4_ := Zk (V_lower (V_mono (ok' := fun k_ => k_ ≠ gb340 ∧ k_ ≠ gb355) ho1 (fun k_ hk_ => ⟨Or.elim hk_ (fun hs_ => Or.elim hs_ (fun hs_ => fun e_ => Nat.not_le.2 hs_ (by rw [e_]; exact GW340.out)) (fun hs_ => Or.elim hs_ (fun hs_ => fun e_ => Nat.not_le.2 hs_ (by rw [e_]; exact GW340.out)) (fun hs_ => fun e_ => Nat.not_le.2 hs_ (by rw [e_]; exact GW340.out)))) (fun hn_ => (Kd.freshB (g := gb340) (o := .cells #[.slice A0_0 l0_0.length c0_0, .slice A0_1 l0_1.length c0_1, .slice A0_2 l0_2.length c0_2] 30 (0, 0)) (by (with_reducible repeat (first | refine blk_drewN ?_ _ | refine blk_drew ?_ | refine blk_alloc ?_ _)); exact BK340.out) k_ hn_)), Or.elim hk_ (fun hs_ => Or.elim hs_ (fun hs_ => fun e_ => Nat.not_le.2 hs_ (by rw [e_]; exact GW355.out)) (fun hs_ => Or.elim hs_ (fun hs_ => fun e_ => Nat.not_le.2 hs_ (by rw [e_]; exact GW355.out)) (fun hs_ => fun e_ => Nat.not_le.2 hs_ (by rw [e_]; exact GW355.out)))) (fun hn_ => (Kd.freshB (g := gb355) (o := .cells #[.slice Ao31 t344.length co31, .slice Ao34 t347.length co34, .slice Ao35 t350.length co35] 30 (0, 0)) (by (with_reducible repeat (first | refine blk_drewN ?_ _ | refine blk_drew ?_ | refine blk_alloc ?_ _)); exact BK355.out) k_ hn_))⟩)) (below_size (by repeat (first | (with_reducible first | exact HB.out | apply below_alloc | apply pw_below_drewN | apply below_drew1 | refine below_set ?_ GE340.out | refine below_set ?_ GE355.out) | exact HB.out)))); have n5_ := Zk (V_lower (V_mono (ok' := fun k_ => k_ ≠ gb340 ∧ k_ ≠ gb355) ho2 (fun k_ hk_ => ⟨Or.elim hk_ (fun hs_ => Or.elim hs_ (fun hs_ => fun e_ => Nat.not_le.2 hs_ (by rw [e_]; exact GW340.out)) (fun hs_ => Or.elim hs_ (fun hs_ => fun e_ => Nat.not_le.2 hs_ (by rw [e_]; exact GW340.out)) (fun hs_ => fun e_ => Nat.not_le.2 hs_ (by rw [e_]; exact GW340.out)))) (fun hn_ => (Kd.freshB (g := gb340) (o := .cells #[.slice A0_0 l0_0.length c0_0, .slice A0_1 l0_1.length c0_1, .slice A0_2 l0_2.length c0_2] 30 (0, 0)) (by (with_reducible repeat (first | refine blk_drewN ?_ _ | refine blk_drew ?_ | refine blk_alloc ?_ _)); exact BK340.out) k_ hn_)), Or.elim hk_ (fun hs_ => Or.elim hs_ (fun hs_ => fun e_ => Nat.not_le.2 hs_ (by rw [e_]; exact GW355.out)) (fun hs_ => Or.elim hs_ (fun hs_ => fun e_ => Nat.not_le.2 hs_ (by rw [e_]; exact GW355.out)) (fun hs_ => fun e_ => Nat.not_le.2 hs_ (by rw [e_]; exact GW355.out)))) (fun hn_ => (Kd.freshB (g := gb355) (o := .cells #[.slice Ao31 t344.length co31, .slice Ao34 t347.length co34, .slice Ao35 t350.length co35] 30 (0, 0)) (by (with_reducible repeat (first | refine blk_drewN ?_ _ | refine blk_drew ?_ | refine blk_alloc ?_ _)); exact BK355.out) k_ hn_))⟩)) (below_size (by repeat (first | (with_reducible first | exact HB.out | apply below_alloc | apply pw_below_drewN | apply below_drew1 | refine below_set ?_ GE340.out | refine below_set ?_ GE355.out) | exact HB.out)))); have n6_ := Zk (blk_below (g := gb340) (o := .cells #[.slice A0_0 l0_0.length c0_0, .slice A0_1 l0_1.length c0_1, .slice A0_2 l0_2.length c0_2] 30 (0, 0)) (by (with_reducible repeat (first | refine blk_drewN ?_ _ | refine blk_drew ?_ | refine blk_alloc ?_ _)); exact BK340.out) hb); have n7_ := Zk (blk_below (g := gb355) (o := .cells #[.slice Ao31 t344.length co31, .slice Ao34 t347.length co34, .slice Ao35 t350.length co35] 30 (0, 0)) (by (with_reducible repeat (first | refine blk_drewN ?_ _ | refine blk_drew ?_ | refine blk_alloc ?_ _)); exact BK355.out) hb); have n8_ := Zk (below_step (by repeat (first | (with_reducible first | exact HB.out | apply below_alloc | apply pw_below_drewN | apply below_drew1 | refine below_set ?_ GE340.out | refine below_set ?_ GE355.out) | exact HB.out)) hb); clear HO346; clear HO349; clear HO352; clear BK340; clear BK355; clear HB; have HO346 := n0_; have HO349 := n1_; have HO352 := n2_; have HO358 := n3_; have HO361 := n4_; have HO364 := n5_; have BK340 := n6_; have BK355 := n7_; have HB := n8_; clear n0_ n1_ n2_ n3_ n4_ n5_ n6_ n7_ n8_; (try clear hb); (try clear hb2); (try clear hk); (try clear hi); (try clear ho0); (try clear ho1); (try clear ho2)) | ((with_reducible refine gate_dst (N := 8) rfl ?_); refine box_event ?hg (N := 8) ?hd (cs := #[.slice none 0 0, .slice none 0 0, .slice none 0 0]) (t := 30) ?hr ?_; (case hd => rfl); (case hg => rfl); (case hr => first | (go_simp; done) | (go_simp; rfl)); intro gb367 hg w39 hbox hb; have n0_ := Zk (V_below (V_elderB (by (with_reducible repeat (first | apply V_alloc | apply V_drewN | apply V_drew)); exact HO346.out) gb367 (Nat.le_of_eq hg.symm)) hb); have n1_ := Zk (V_below (V_elderB (by (with_reducible repeat (first | apply V_alloc | apply V_drewN | apply V_drew)); exact HO349.out) gb367 (Nat.le_of_eq hg.symm)) hb); have n2_ := Zk (V_below (V_elderB (by (with_reducible repeat (first | apply V_alloc | apply V_drewN | apply V_drew)); exact HO352.out) gb367 (Nat.le_of_eq hg.symm)) hb); have n3_ := Zk (V_below (V_elderB (by (with_reducible repeat (first | apply V_alloc | apply V_drewN | apply V_drew)); exact HO358.out) gb367 (Nat.le_of_eq hg.symm)) hb); have n4_ := Zk (V_below (V_elderB (by (with_reducible repeat (first | apply V_alloc | apply V_drewN | apply V_drew)); exact HO361.out) gb367 (Nat.le_of_eq hg.symm)) hb); have n5_ := Zk (V_below (V_elderB (by (with_reducible repeat (first | apply V_alloc | apply V_drewN | apply V_drew)); exact HO364.out) gb367 (Nat.le_of_eq hg.symm)) hb); have n6_ := Zk (blk_below (g := gb340) (o := .cells #[.slice A0_0 l0_0.length c0_0, .slice A0_1 l0_1.length c0_1, .slice A0_2 l0_2.length c0_2] 30 (0, 0)) (by (with_reducible repeat (first | refine blk_drewN ?_ _ | refine blk_drew ?_ | refine blk_alloc ?_ _)); exact BK340.out) hb); have n7_ := Zk (blk_below (g := gb355) (o := .cells #[.slice Ao31 t344.length co31, .slice Ao34 t347.length co34, .slice Ao35 t350.length co35] 30 (0, 0)) (by (with_reducible repeat (first | refine blk_drewN ?_ _ | refine blk_drew ?_ | refine blk_alloc ?_ _)); exact BK355.out) hb); have n8_ := Zk (below_step (by repeat (first | (with_reducible first | exact HB.out | apply below_alloc | apply pw_below_drewN | apply below_drew1 | refine below_set ?_ GE340.out | refine below_set ?_ GE355.out) | exact HB.out)) hb); have n9_ := Zk (hbox); have n10_ := Zk ((by rw [hg]; exact (below_size (by repeat (first | (with_reducible first | exact HB.out | apply below_alloc | apply pw_below_drewN | apply below_drew1 | refine below_set ?_ GE340.out | refine below_set ?_ GE355.out) | exact HB.out))) : w.heap.size ≤ gb367)); have n11_ := Zk ((by rw [hg]; exact (below_size (by repeat (first | (with_reducible first | exact HB.out | apply below_alloc | apply pw_below_drewN | apply below_drew1 | refine below_set ?_ GE340.out | refine below_set ?_ GE355.out) | exact HB.out))) : w.heap.size ≤ gb367)); have n12_ := Zk ((by rw [hg]; exact Nat.ne_of_lt (blk_lt (g := gb340) (o := .cells #[.slice A0_0 l0_0.length c0_0, .slice A0_1 l0_1.length c0_1, .slice A0_2 l0_2.length c0_2] 30 (0, 0)) (by (with_reducible repeat (first | refine blk_drewN ?_ _ | refine blk_drew ?_ | refine blk_alloc ?_ _)); exact BK340.out)) : gb340 ≠ gb367)); have n13_ := Zk ((by rw [hg]; exact Nat.ne_of_gt (blk_lt (g := gb340) (o := .cells #[.slice A0_0 l0_0.length c0_0, .slice A0_1 l0_1.length c0_1, .slice A0_2 l0_2.length c0_2] 30 (0, 0)) (by (with_reducible repeat (first | refine blk_drewN ?_ _ | refine blk_drew ?_ | refine blk_alloc ?_ _)); exact BK340.out)) : gb367 ≠ gb340)); have n14_ := Zk ((by rw [hg]; exact Nat.ne_of_lt (blk_lt (g := gb355) (o := .cells #[.slice Ao31 t344.length co31, .slice Ao34 t347.length co34, .slice Ao35 t350.length co35] 30 (0, 0)) (by (with_reducible repeat (first | refine blk_drewN ?_ _ | refine blk_drew ?_ | refine blk_alloc ?_ _)); exact BK355.out)) : gb355 ≠ gb367)); have n15_ := Zk ((by rw [hg]; exact Nat.ne_of_gt (blk_lt (g := gb355) (o := .cells #[.slice Ao31 t344.length co31, .slice Ao34 t347.length co34, .slice Ao35 t350.length co35] 30 (0, 0)) (by (with_reducible repeat (first | refine blk_drewN ?_ _ | refine blk_drew ?_ | refine blk_alloc ?_ _)); exact BK355.out)) : gb367 ≠ gb355)); clear HO346; clear HO349; clear HO352; clear HO358; clear HO361; clear HO364; clear BK340; clear BK355; clear HB; have HO346 := n0_; have HO349 := n1_; have HO352 := n2_; have HO358 := n3_; have HO361 := n4_; have HO364 := n5_; have BK340 := n6_; have BK355 := n7_; have HB := n8_; have BK367 := n9_; have GW367 := n10_; have GE367 := n11_; have NB340_367 := n12_; have NB367_340 := n13_; have NB355_367 := n14_; have NB367_355 := n15_; clear n0_ n1_ n2_ n3_ n4_ n5_ n6_ n7_ n8_ n9_ n10_ n11_ n12_ n13_ n14_ n15_; clear hb hbox hg; obtain ⟨Ao40, co40, eo40⟩ := V_slice HO358.out; subst eo40; have hnb41 := NB367_340.out; have hnc41 := NB340_367.out; have hnb42 := NB367_355.out; have hnc42 := NB355_367.out; have hcz43_0 : w39.cell? ⟨gb367, 0, none⟩ = some (.slice none 0 0) := (blk_cell BK367.out 0).trans rfl; have hcz43_1 : w39.cell? ⟨gb367, 1, none⟩ = some (.slice none 0 0) := (blk_cell BK367.out 1).trans rfl; have hcz43_2 : w39.cell? ⟨gb367, 2, none⟩ = some (.slice none 0 0) := (blk_cell BK367.out 2).trans rfl; have hfz43_0 := blk_frozen BK367.out 0; have hfz43_1 := blk_frozen BK367.out 1; have hfz43_2 := blk_frozen BK367.out 2; obtain ⟨Ao44, co44, eo44⟩ := V_slice HO361.out; subst eo44; obtain ⟨Ao45, co45, eo45⟩ := V_slice HO364.out; subst eo45) | ((with_reducible refine gate_store (t := 30) (p := 8) rfl ?_); refine store_event (t := 30) (p := 8) (v := ?vo_w46) (w1 := (((w39.setCell ⟨gb367, 0, none⟩ (.slice Ao40 t356.length co40)).setCell ⟨gb367, 1, none⟩ (.slice Ao44 t359.length co44)).setCell ⟨gb367, 2, none⟩ (.slice Ao45 t362.length co45))) ?hg ?ho ?hn ?hr ?_; (case ho => rfl); (case hg => rfl); (case hn => rfl); (case hr => first | (go_simp; done) | (go_simp; rfl)); intro w46 hw; have n0_ : Aside0 (Kd.V (Kd.int .i64) 3 w46 w.heap.size (fun k_ => k_ ≠ gb340 ∧ k_ ≠ gb355 ∧ k_ ≠ gb367) (.slice Ao31 t344.length co31) t344) := ⟨(by rw [hw]; exact (by (with_reducible repeat (first | apply V_alloc | apply V_drewN | apply V_drew)); exact V_mono (V_far (p := ⟨gb367, 2, none⟩) (V_far (p := ⟨gb367, 1, none⟩) (V_far (p := ⟨gb367, 0, none⟩) (V_mono HO346.out (fun k_ hk => (⟨hk, hk.2⟩ : _ ∧ k_ ≠ gb367))) (fun _ hk => hk.2) (.slice Ao40 t356.length co40)) (fun _ hk => hk.2) (.slice Ao44 t359.length co44)) (fun _ hk => hk.2) (.slice Ao45 t362.length co45)) (fun _ hk => ⟨hk.1.1.1, ⟨hk.1.1.2, hk.1.2⟩⟩)))⟩; have n1_ : Aside0 (Kd.V (Kd.int .i64) 3 w46 w.heap.size (fun k_ => k_ ≠ gb340 ∧ k_ ≠ gb355 ∧ k_ ≠ gb367) (.slice Ao34 t347.length co34) t347) := ⟨(by rw [hw]; exact (by (with_reducible repeat (first | apply V_alloc | apply V_drewN | apply V_drew)); exact V_mono (V_far (p := ⟨gb367, 2, none⟩) (V_far (p := ⟨gb367, 1, none⟩) (V_far (p := ⟨gb367, 0, none⟩) (V_mono HO349.out (fun k_ hk => (⟨hk, hk.2⟩ : _ ∧ k_ ≠ gb367))) (fun _ hk => hk.2) (.slice Ao40 t356.length co40)) (fun _ hk => hk.2) (.slice Ao44 t359.length co44)) (fun _ hk => hk.2) (.slice Ao45 t362.length co45)) (fun _ hk => ⟨hk.1.1.1, ⟨hk.1.1.2, hk.1.2⟩⟩)))⟩; have n2_ : Aside0 (Kd.V (Kd.int .i64) 3 w46 w.heap.size (fun k_ => k_ ≠ gb340 ∧ k_ ≠ gb355 ∧ k_ ≠ gb367) (.slice Ao35 t350.length co35) t350) := ⟨(by rw [hw]; exact (by (with_reducible repeat (first | apply V_alloc | apply V_drewN | apply V_drew)); exact V_mono (V_far (p := ⟨gb367, 2, none⟩) (V_far (p := ⟨gb367, 1, none⟩) (V_far (p := ⟨gb367, 0, none⟩) (V_mono HO352.out (fun k_ hk => (⟨hk, hk.2⟩ : _ ∧ k_ ≠ gb367))) (fun _ hk => hk.2) (.slice Ao40 t356.length co40)) (fun _ hk => hk.2) (.slice Ao44 t359.length co44)) (fun _ hk => hk.2) (.slice Ao45 t362.length co45)) (fun _ hk => ⟨hk.1.1.1, ⟨hk.1.1.2, hk.1.2⟩⟩)))⟩; have n3_ : Aside0 (Kd.V (Kd.int .i64) 3 w46 w.heap.size (fun k_ => k_ ≠ gb340 ∧ k_ ≠ gb355 ∧ k_ ≠ gb367) (.slice Ao40 t356.length co40) t356) := ⟨(by rw [hw]; exact (by (with_reducible repeat (first | apply V_alloc | apply V_drewN | apply V_drew)); exact V_mono (V_far (p := ⟨gb367, 2, none⟩) (V_far (p := ⟨gb367, 1, none⟩) (V_far (p := ⟨gb367, 0, none⟩) (V_mono HO358.out (fun k_ hk => (⟨hk, hk.2⟩ : _ ∧ k_ ≠ gb367))) (fun _ hk => hk.2) (.slice Ao40 t356.length co40)) (fun _ hk => hk.2) (.slice Ao44 t359.length co44)) (fun _ hk => hk.2) (.slice Ao45 t362.length co45)) (fun _ hk => ⟨hk.1.1.1, ⟨hk.1.1.2, hk.1.2⟩⟩)))⟩; have n4_ : Aside0 (Kd.V (Kd.int .i64) 3 w46 w.heap.size (fun k_ => k_ ≠ gb340 ∧ k_ ≠ gb355 ∧ k_ ≠ gb367) (.slice Ao44 t359.length co44) t359) := ⟨(by rw [hw]; exact (by (with_reducible repeat (first | apply V_alloc | apply V_drewN | apply V_drew)); exact V_mono (V_far (p := ⟨gb367, 2, none⟩) (V_far (p := ⟨gb367, 1, none⟩) (V_far (p := ⟨gb367, 0, none⟩) (V_mono HO361.out (fun k_ hk => (⟨hk, hk.2⟩ : _ ∧ k_ ≠ gb367))) (fun _ hk => hk.2) (.slice Ao40 t356.length co40)) (fun _ hk => hk.2) (.slice Ao44 t359.length co44)) (fun _ hk => hk.2) (.slice Ao45 t362.length co45)) (fun _ hk => ⟨hk.1.1.1, ⟨hk.1.1.2, hk.1.2⟩⟩)))⟩; have n5_ : Aside0 (Kd.V (Kd.int .i64) 3 w46 w.heap.size (fun k_ => k_ ≠ gb340 ∧ k_ ≠ gb355 ∧ k_ ≠ gb367) (.slice Ao45 t362.length co45) t362) := ⟨(by rw [hw]; exact (by (with_reducible repeat (first | apply V_alloc | apply V_drewN | apply V_drew)); exact V_mono (V_far (p := ⟨gb367, 2, none⟩) (V_far (p := ⟨gb367, 1, none⟩) (V_far (p := ⟨gb367, 0, none⟩) (V_mono HO364.out (fun k_ hk => (⟨hk, hk.2⟩ : _ ∧ k_ ≠ gb367))) (fun _ hk => hk.2) (.slice Ao40 t356.length co40)) (fun _ hk => hk.2) (.slice Ao44 t359.length co44)) (fun _ hk => hk.2) (.slice Ao45 t362.length co45)) (fun _ hk => ⟨hk.1.1.1, ⟨hk.1.1.2, hk.1.2⟩⟩)))⟩; have n6_ : Aside0 (w46.heap[gb340]? = some (.cells #[.slice A0_0 l0_0.length c0_0, .slice A0_1 l0_1.length c0_1, .slice A0_2 l0_2.length c0_2] 30 (0, 0))) := ⟨(by rw [hw]; exact (by (with_reducible repeat (first | refine blk_drewN ?_ _ | refine blk_drew ?_ | refine blk_alloc ?_ _)); refine blk_far ?_ NB340_367.out _; (with_reducible repeat (first | refine blk_drewN ?_ _ | refine blk_drew ?_ | refine blk_alloc ?_ _)); refine blk_far ?_ NB340_367.out _; (with_reducible repeat (first | refine blk_drewN ?_ _ | refine blk_drew ?_ | refine blk_alloc ?_ _)); refine blk_far ?_ NB340_367.out _; (with_reducible repeat (first | refine blk_drewN ?_ _ | refine blk_drew ?_ | refine blk_alloc ?_ _)); exact BK340.out))⟩; have n7_ : Aside0 (w46.heap[gb355]? = some (.cells #[.slice Ao31 t344.length co31, .slice Ao34 t347.length co34, .slice Ao35 t350.length co35] 30 (0, 0))) := ⟨(by rw [hw]; exact (by (with_reducible repeat (first | refine blk_drewN ?_ _ | refine blk_drew ?_ | refine blk_alloc ?_ _)); refine blk_far ?_ NB355_367.out _; (with_reducible repeat (first | refine blk_drewN ?_ _ | refine blk_drew ?_ | refine blk_alloc ?_ _)); refine blk_far ?_ NB355_367.out _; (with_reducible repeat (first | refine blk_drewN ?_ _ | refine blk_drew ?_ | refine blk_alloc ?_ _)); refine blk_far ?_ NB355_367.out _; (with_reducible repeat (first | refine blk_drewN ?_ _ | refine blk_drew ?_ | refine blk_alloc ?_ _)); exact BK355.out))⟩; have n8_ : Aside0 (w46.heap[gb367]? = some (.cells #[.slice Ao40 t356.length co40, .slice Ao44 t359.length co44, .slice Ao45 t362.length co45] 30 (0, 0))) := ⟨(by rw [hw]; exact (by (with_reducible repeat (first | refine blk_drewN ?_ _ | refine blk_drew ?_ | refine blk_alloc ?_ _)); refine blk_put (cs := #[.slice Ao40 t356.length co40, .slice Ao44 t359.length co44, .slice none 0 0]) ?_ 2 _ rfl; (with_reducible repeat (first | refine blk_drewN ?_ _ | refine blk_drew ?_ | refine blk_alloc ?_ _)); refine blk_put (cs := #[.slice Ao40 t356.length co40, .slice none 0 0, .slice none 0 0]) ?_ 1 _ rfl; (with_reducible repeat (first | refine blk_drewN ?_ _ | refine blk_drew ?_ | refine blk_alloc ?_ _)); refine blk_put (cs := #[.slice none 0 0, .slice none 0 0, .slice none 0 0]) ?_ 0 _ rfl; (with_reducible repeat (first | refine blk_drewN ?_ _ | refine blk_drew ?_ | refine blk_alloc ?_ _)); exact BK367.out))⟩; have n9_ : Aside0 (Below w.heap.size w w46) := ⟨(by rw [hw]; exact (by repeat (first | (with_reducible first | exact HB.out | apply below_alloc | apply pw_below_drewN | apply below_drew1 | refine below_set ?_ GE340.out | refine below_set ?_ GE355.out | refine below_set ?_ GE367.out) | exact HB.out)))⟩; clear hw; clear HO346; clear HO349; clear HO352; clear HO358; clear HO361; clear HO364; clear BK340; clear BK355; clear BK367; clear HB; have HO346 := n0_; have HO349 := n1_; have HO352 := n2_; have HO358 := n3_; have HO361 := n4_; have HO364 := n5_; have BK340 := n6_; have BK355 := n7_; have BK367 := n8_; have HB := n9_; clear n0_ n1_ n2_ n3_ n4_ n5_ n6_ n7_ n8_ n9_))
        have n0_ := Zk (V_drew HO346.out)
        have n1_ := Zk (V_drew HO349.out)
        have n2_ := Zk (V_drew HO352.out)
        have n3_ := Zk (V_drew HO358.out)
        have n4_ := Zk (V_drew HO361.out)
        have n5_ := Zk (V_drew HO364.out)
        have n6_ := Zk (blk_drew BK340.out)
        have n7_ := Zk (blk_drew BK355.out)
        have n8_ := Zk (blk_drew BK367.out)
        have n9_ := Zk (below_drew1 HB.out)
        clear HO346
        clear HO349
        clear HO352
        clear HO358
        clear HO361
        clear HO364
        clear BK340
        clear BK355
        clear BK367
        clear HB
        have HO346 := n0_
        have HO349 := n1_
        have HO352 := n2_
        have HO358 := n3_
        have HO361 := n4_
        have HO364 := n5_
        have BK340 := n6_
        have BK355 := n7_
        have BK367 := n8_
        have HB := n9_
        clear n0_ n1_ n2_ n3_ n4_ n5_ n6_ n7_ n8_ n9_
        refine start_ (n := 26) (S := fun w' => w'.cell? ⟨gb340, 0, none⟩ = some (.slice A0_0 l0_0.length c0_0) ∧ w'.cell? ⟨gb340, 1, none⟩ = some (.slice A0_1 l0_1.length c0_1) ∧ w'.cell? ⟨gb340, 2, none⟩ = some (.slice A0_2 l0_2.length c0_2) ∧ w'.cell? ⟨gb355, 0, none⟩ = some (.slice Ao31 t344.length co31) ∧ w'.cell? ⟨gb355, 1, none⟩ = some (.slice Ao34 t347.length co34) ∧ w'.cell? ⟨gb355, 2, none⟩ = some (.slice Ao35 t350.length co35) ∧ w'.cell? ⟨gb367, 0, none⟩ = some (.slice Ao40 t356.length co40) ∧ w'.cell? ⟨gb367, 1, none⟩ = some (.slice Ao44 t359.length co44) ∧ w'.cell? ⟨gb367, 2, none⟩ = some (.slice Ao45 t362.length co45)) (ds := []) #[false, false, false, false, false, false, false, false, false, false, false, false, false, false, false, false, false, false, false, false, false, false, false, false, false, false] (by kernel_rfl) rfl rfl ⟨(blk_cell BK340.out 0).trans rfl, (blk_cell BK340.out 1).trans rfl, (blk_cell BK340.out 2).trans rfl, (blk_cell BK355.out 0).trans rfl, (blk_cell BK355.out 1).trans rfl, (blk_cell BK355.out 2).trans rfl, (blk_cell BK367.out 0).trans rfl, (blk_cell BK367.out 1).trans rfl, (blk_cell BK367.out 2).trans rfl⟩ (fun hHeld => ?_); refine with_tabW jobshelllaw25_SignalSends.tab5 jobshelllaw25_SignalSends.bits5 (fun HT_ HW_ => ?_)
        generalize w46.drew = w47 at HO346 HO349 HO352 HO358 HO361 HO364 BK340 BK355 BK367 HB hHeld ⊢
        refine pure_ (i := 1) (N := some 33) (v := ?_) (a' := ?_) #[false, true, false, false, false, false, false, false, false, false, false, false, false, false, false, false, false, false, false, false, false, false, false, false, false, false] rfl rfl (any_of HT_.out (by kernel_rfl)) (fun _ _ _ h => h) (Or.inl ⟨by rfl, ?_⟩) ?_ ?_
        rotate_left
        ·intro w'
         go_simp
         with_reducible rfl
        rotate_left
        ·simp only [Act.put, List.setIfInBounds_toArray, List.set_cons_zero, List.set_cons_succ, i64_w, i32_w]
         rfl
        refine pure_ (i := 4) (N := some 36) (v := ?_) (a' := ?_) #[false, true, false, false, true, false, false, false, false, false, false, false, false, false, false, false, false, false, false, false, false, false, false, false, false, false] rfl rfl (any_of HT_.out (by kernel_rfl)) (fun _ _ _ h => h) (Or.inl ⟨by rfl, ?_⟩) ?_ ?_
        rotate_left
        ·intro w'
         go_simp
         with_reducible rfl
        rotate_left
        ·simp only [Act.put, List.setIfInBounds_toArray, List.set_cons_zero, List.set_cons_succ, i64_w, i32_w]
         rfl
        refine take_ (i := 0) (N := some 32) (v := ?_) (a' := ?_) #[true, true, false, false, true, false, false, false, false, false, false, false, false, false, false, false, false, false, false, false, false, false, false, false, false, false] rfl rfl (take_ofW HT_.out HW_.out (by kernel_rfl)) (fun _ _ _ h => h) (Or.inl ⟨by rfl, ?_⟩) hHeld ?_ ?_
        rotate_left
        ·rintro w' ⟨s0, s1, s2, s3, s4, s5, s6, s7, s8⟩
         go_simp
         with_reducible rfl
        rotate_left
        ·simp only [Act.put, List.setIfInBounds_toArray, List.set_cons_zero, List.set_cons_succ, i64_w, i32_w]
         rfl
        refine take_ (i := 3) (N := some 35) (v := ?_) (a' := ?_) #[true, true, false, true, true, false, false, false, false, false, false, false, false, false, false, false, false, false, false, false, false, false, false, false, false, false] rfl rfl (take_ofW HT_.out HW_.out (by kernel_rfl)) (fun _ _ _ h => h) (Or.inl ⟨by rfl, ?_⟩) hHeld ?_ ?_
        rotate_left
        ·rintro w' ⟨s0, s1, s2, s3, s4, s5, s6, s7, s8⟩
         go_simp
         with_reducible rfl
        rotate_left
        ·simp only [Act.put, List.setIfInBounds_toArray, List.set_cons_zero, List.set_cons_succ, i64_w, i32_w]
         rfl
        refine one_ (i := 2) (N := some 34) #[true, true, true, true, true, false, false, false, false, false, false, false, false, false, false, false, false, false, false, false, false, false, false, false, false, false] rfl rfl (one_of HT_.out (by kernel_rfl)) (by decide) (fun K hK => ?_)
        refine goes_ Tryd.func22 (by kernel_rfl) rfl #[.agg #[.slice A0_0 l0_0.length c0_0, .slice A0_1 l0_1.length c0_1, .slice A0_2 l0_2.length c0_2], .int .i64 a1] (by rfl) rfl rfl (by (try simp only [List.map_toArray, List.map_cons, List.map_nil]); first | done | rfl | (simp only [List.length_drop, List.length_take]; rfl)) ?_
        with_reducible refine (signal_Send.calls kj2 (fun k_ => k_ < w.heap.size) _ _ l0_0 (fun k_ => k_ < w.heap.size) _ _ l0_1 (fun k_ => k_ < w.heap.size) _ _ l0_2 a1 t368 t371 t374 _ ?side1 ?side2 ?side3 A19.out).mono ?_
        (case side1 => exact V_mk HC0_0.out (Kd.F_below (C_F (Kd.heap_int .i64) HR0_0.out) (by repeat (first | (with_reducible first | exact HB.out | apply below_alloc | apply pw_below_drewN | apply below_drew1 | refine below_set ?_ GE340.out | refine below_set ?_ GE355.out | refine below_set ?_ GE367.out) | exact HB.out))))
        (case side2 => exact V_mk HC0_1.out (Kd.F_below (C_F (Kd.heap_int .i64) HR0_1.out) (by repeat (first | (with_reducible first | exact HB.out | apply below_alloc | apply pw_below_drewN | apply below_drew1 | refine below_set ?_ GE340.out | refine below_set ?_ GE355.out | refine below_set ?_ GE367.out) | exact HB.out))))
        (case side3 => exact V_mk HC0_2.out (Kd.F_below (C_F (Kd.heap_int .i64) HR0_2.out) (by repeat (first | (with_reducible first | exact HB.out | apply below_alloc | apply pw_below_drewN | apply below_drew1 | refine below_set ?_ GE340.out | refine below_set ?_ GE355.out | refine below_set ?_ GE367.out) | exact HB.out))))
        rintro e w48 ⟨v369, v372, v375, rfl, ho0, ho1, ho2, hb⟩
        refine ⟨_, rfl, ?_⟩
        have n0_ := Zk (V_below (by (with_reducible repeat (first | apply V_alloc | apply V_drewN | apply V_drew)); exact HO346.out) hb)
        have n1_ := Zk (V_below (by (with_reducible repeat (first | apply V_alloc | apply V_drewN | apply V_drew)); exact HO349.out) hb)
        have n2_ := Zk (V_below (by (with_reducible repeat (first | apply V_alloc | apply V_drewN | apply V_drew)); exact HO352.out) hb)
        have n3_ := Zk (V_below (by (with_reducible repeat (first | apply V_alloc | apply V_drewN | apply V_drew)); exact HO358.out) hb)
        have n4_ := Zk (V_below (by (with_reducible repeat (first | apply V_alloc | apply V_drewN | apply V_drew)); exact HO361.out) hb)
        have n5_ := Zk (V_below (by (with_reducible repeat (first | apply V_alloc | apply V_drewN | apply V_drew)); exact HO364.out) hb)
        have n6_ := Zk (V_lower (V_mono (ok' := fun k_ => k_ ≠ gb340 ∧ k_ ≠ gb355 ∧ k_ ≠ gb367) ho0 (fun k_ hk_ => ⟨Or.elim hk_ (fun hs_ => Or.elim hs_ (fun hs_ => fun e_ => Nat.not_le.2 hs_ (by rw [e_]; exact GW340.out)) (fun hs_ => Or.elim hs_ (fun hs_ => fun e_ => Nat.not_le.2 hs_ (by rw [e_]; exact GW340.out)) (fun hs_ => fun e_ => Nat.not_le.2 hs_ (by rw [e_]; exact GW340.out)))) (fun hn_ => (Kd.freshB (g := gb340) (o := .cells #[.slice A0_0 l0_0.length c0_0, .slice A0_1 l0_1.length c0_1, .slice A0_2 l0_2.length c0_2] 30 (0, 0)) (by (with_reducible repeat (first | refine blk_drewN ?_ _ | refine blk_drew ?_ | refine blk_alloc ?_ _)); exact BK340.out) k_ hn_)), Or.elim hk_ (fun hs_ => Or.elim hs_ (fun hs_ => fun e_ => Nat.not_le.2 hs_ (by rw [e_]; exact GW355.out)) (fun hs_ => Or.elim hs_ (fun hs_ => fun e_ => Nat.not_le.2 hs_ (by rw [e_]; exact GW355.out)) (fun hs_ => fun e_ => Nat.not_le.2 hs_ (by rw [e_]; exact GW355.out)))) (fun hn_ => (Kd.freshB (g := gb355) (o := .cells #[.slice Ao31 t344.length co31, .slice Ao34 t347.length co34, .slice Ao35 t350.length co35] 30 (0, 0)) (by (with_reducible repeat (first | refine blk_drewN ?_ _ | refine blk_drew ?_ | refine blk_alloc ?_ _)); exact BK355.out) k_ hn_)), Or.elim hk_ (fun hs_ => Or.elim hs_ (fun hs_ => fun e_ => Nat.not_le.2 hs_ (by rw [e_]; exact GW367.out)) (fun hs_ => Or.elim hs_ (fun hs_ => fun e_ => Nat.not_le.2 hs_ (by rw [e_]; exact GW367.out)) (fun hs_ => fun e_ => Nat.not_le.2 hs_ (by rw [e_]; exact GW367.out)))) (fun hn_ => (Kd.freshB (g := gb367) (o := .cells #[.slice Ao40 t356.length co40, .slice Ao44 t359.length co44, .slice Ao45 t362.length co45] 30 (0, 0)) (by (with_reducible repeat (first | refine blk_drewN ?_ _ | refine blk_drew ?_ | refine blk_alloc ?_ _)); exact BK367.out) k_ hn_))⟩)) (below_size (by repeat (first | (with_reducible first | exact HB.out | apply below_alloc | apply pw_below_drewN | apply below_drew1 | refine below_set ?_ GE340.out | refine below_set ?_ GE355.out | refine below_set ?_ GE367.out) | exact HB.out))))
        have n7_ := Zk (V_lower (V_mono (ok' := fun k_ => k_ ≠ gb340 ∧ k_ ≠ gb355 ∧ k_ ≠ gb367) ho1 (fun k_ hk_ => ⟨Or.elim hk_ (fun hs_ => Or.elim hs_ (fun hs_ => fun e_ => Nat.not_le.2 hs_ (by rw [e_]; exact GW340.out)) (fun hs_ => Or.elim hs_ (fun hs_ => fun e_ => Nat.not_le.2 hs_ (by rw [e_]; exact GW340.out)) (fun hs_ => fun e_ => Nat.not_le.2 hs_ (by rw [e_]; exact GW340.out)))) (fun hn_ => (Kd.freshB (g := gb340) (o := .cells #[.slice A0_0 l0_0.length c0_0, .slice A0_1 l0_1.length c0_1, .slice A0_2 l0_2.length c0_2] 30 (0, 0)) (by (with_reducible repeat (first | refine blk_drewN ?_ _ | refine blk_drew ?_ | refine blk_alloc ?_ _)); exact BK340.out) k_ hn_)), Or.elim hk_ (fun hs_ => Or.elim hs_ (fun hs_ => fun e_ => Nat.not_le.2 hs_ (by rw [e_]; exact GW355.out)) (fun hs_ => Or.elim hs_ (fun hs_ => fun e_ => Nat.not_le.2 hs_ (by rw [e_]; exact GW355.out)) (fun hs_ => fun e_ => Nat.not_le.2 hs_ (by rw [e_]; exact GW355.out)))) (fun hn_ => (Kd.freshB (g := gb355) (o := .cells #[.slice Ao31 t344.length co31, .slice Ao34 t347.length co34, .slice Ao35 t350.length co35] 30 (0, 0)) (by (with_reducible repeat (first | refine blk_drewN ?_ _ | refine blk_drew ?_ | refine blk_alloc ?_ _)); exact BK355.out) k_ hn_)), Or.elim hk_ (fun hs_ => Or.elim hs_ (fun hs_ => fun e_ => Nat.not_le.2 hs_ (by rw [e_]; exact GW367.out)) (fun hs_ => Or.elim hs_ (fun hs_ => fun e_ => Nat.not_le.2 hs_ (by rw [e_]; exact GW367.out)) (fun hs_ => fun e_ => Nat.not_le.2 hs_ (by rw [e_]; exact GW367.out)))) (fun hn_ => (Kd.freshB (g := gb367) (o := .cells #[.slice Ao40 t356.length co40, .slice Ao44 t359.length co44, .slice Ao45 t362.length co45] 30 (0, 0)) (by (with_reducible repeat (first | refine blk_drewN ?_ _ | refine blk_drew ?_ | refine blk_alloc ?_ _)); exact BK367.out) k_ hn_))⟩)) (below_size (by repeat (first | (with_reducible first | exact HB.out | apply below_alloc | apply pw_below_drewN | apply below_drew1 | refine below_set ?_ GE340.out | refine below_set ?_ GE355.out | refine below_set ?_ GE367.out) | exact HB.out))))
        have n8_ := Zk (V_lower (V_mono (ok' := fun k_ => k_ ≠ gb340 ∧ k_ ≠ gb355 ∧ k_ ≠ gb367) ho2 (fun k_ hk_ => ⟨Or.elim hk_ (fun hs_ => Or.elim hs_ (fun hs_ => fun e_ => Nat.not_le.2 hs_ (by rw [e_]; exact GW340.out)) (fun hs_ => Or.elim hs_ (fun hs_ => fun e_ => Nat.not_le.2 hs_ (by rw [e_]; exact GW340.out)) (fun hs_ => fun e_ => Nat.not_le.2 hs_ (by rw [e_]; exact GW340.out)))) (fun hn_ => (Kd.freshB (g := gb340) (o := .cells #[.slice A0_0 l0_0.length c0_0, .slice A0_1 l0_1.length c0_1, .slice A0_2 l0_2.length c0_2] 30 (0, 0)) (by (with_reducible repeat (first | refine blk_drewN ?_ _ | refine blk_drew ?_ | refine blk_alloc ?_ _)); exact BK340.out) k_ hn_)), Or.elim hk_ (fun hs_ => Or.elim hs_ (fun hs_ => fun e_ => Nat.not_le.2 hs_ (by rw [e_]; exact GW355.out)) (fun hs_ => Or.elim hs_ (fun hs_ => fun e_ => Nat.not_le.2 hs_ (by rw [e_]; exact GW355.out)) (fun hs_ => fun e_ => Nat.not_le.2 hs_ (by rw [e_]; exact GW355.out)))) (fun hn_ => (Kd.freshB (g := gb355) (o := .cells #[.slice Ao31 t344.length co31, .slice Ao34 t347.length co34, .slice Ao35 t350.length co35] 30 (0, 0)) (by (with_reducible repeat (first | refine blk_drewN ?_ _ | refine blk_drew ?_ | refine blk_alloc ?_ _)); exact BK355.out) k_ hn_)), Or.elim hk_ (fun hs_ => Or.elim hs_ (fun hs_ => fun e_ => Nat.not_le.2 hs_ (by rw [e_]; exact GW367.out)) (fun hs_ => Or.elim hs_ (fun hs_ => fun e_ => Nat.not_le.2 hs_ (by rw [e_]; exact GW367.out)) (fun hs_ => fun e_ => Nat.not_le.2 hs_ (by rw [e_]; exact GW367.out)))) (fun hn_ => (Kd.freshB (g := gb367) (o := .cells #[.slice Ao40 t356.length co40, .slice Ao44 t359.length co44, .slice Ao45 t362.length co45] 30 (0, 0)) (by (with_reducible repeat (first | refine blk_drewN ?_ _ | refine blk_drew ?_ | refine blk_alloc ?_ _)); exact BK367.out) k_ hn_))⟩)) (below_size (by repeat (first | (with_reducible first | exact HB.out | apply below_alloc | apply pw_below_drewN | apply below_drew1 | refine below_set ?_ GE340.out | refine below_set ?_ GE355.out | refine below_set ?_ GE367.out) | exact HB.out))))
        have n9_ := Zk (blk_below (g := gb340) (o := .cells #[.slice A0_0 l0_0.length c0_0, .slice A0_1 l0_1.length c0_1, .slice A0_2 l0_2.length c0_2] 30 (0, 0)) (by (with_reducible repeat (first | refine blk_drewN ?_ _ | refine blk_drew ?_ | refine blk_alloc ?_ _)); exact BK340.out) hb)
        have n10_ := Zk (blk_below (g := gb355) (o := .cells #[.slice Ao31 t344.length co31, .slice Ao34 t347.length co34, .slice Ao35 t350.length co35] 30 (0, 0)) (by (with_reducible repeat (first | refine blk_drewN ?_ _ | refine blk_drew ?_ | refine blk_alloc ?_ _)); exact BK355.out) hb)
        have n11_ := Zk (blk_below (g := gb367) (o := .cells #[.slice Ao40 t356.length co40, .slice Ao44 t359.length co44, .slice Ao45 t362.length co45] 30 (0, 0)) (by (with_reducible repeat (first | refine blk_drewN ?_ _ | refine blk_drew ?_ | refine blk_alloc ?_ _)); exact BK367.out) hb)
        have n12_ := Zk (below_step (by repeat (first | (with_reducible first | exact HB.out | apply below_alloc | apply pw_below_drewN | apply below_drew1 | refine below_set ?_ GE340.out | refine below_set ?_ GE355.out | refine below_set ?_ GE367.out) | exact HB.out)) hb)
        clear HO346
        clear HO349
        clear HO352
        clear HO358
        clear HO361
        clear HO364
        clear BK340
        clear BK355
        clear BK367
        clear HB
        have HO346 := n0_
        have HO349 := n1_
        have HO352 := n2_
        have HO358 := n3_
        have HO361 := n4_
        have HO364 := n5_
        have HO370 := n6_
        have HO373 := n7_
        have HO376 := n8_
        have BK340 := n9_
        have BK355 := n10_
        have BK367 := n11_
        have HB := n12_
        clear n0_ n1_ n2_ n3_ n4_ n5_ n6_ n7_ n8_ n9_ n10_ n11_ n12_
        (try clear hb)
        (try clear hb2)
        (try clear hk)
        (try clear hi)
        (try clear ho0)
        (try clear ho1)
        (try clear ho2)
        refine hK.out _ _ ⟨(blk_cell BK340.out 0).trans rfl, (blk_cell BK340.out 1).trans rfl, (blk_cell BK340.out 2).trans rfl, (blk_cell BK355.out 0).trans rfl, (blk_cell BK355.out 1).trans rfl, (blk_cell BK355.out 2).trans rfl, (blk_cell BK367.out 0).trans rfl, (blk_cell BK367.out 1).trans rfl, (blk_cell BK367.out 2).trans rfl⟩ (fun hHeld => ?_)
        clear hK K
        refine norm_ (a' := ?_) ?_ ?_
        rotate_left
        ·show Act.put _ (some 34) _ = _
         simp only [Act.put, List.setIfInBounds_toArray, List.set_cons_zero, List.set_cons_succ, i64_w, i32_w]
         rfl
        refine one_ (i := 5) (N := some 37) #[true, true, true, true, true, true, false, false, false, false, false, false, false, false, false, false, false, false, false, false, false, false, false, false, false, false] rfl rfl (one_of HT_.out (by kernel_rfl)) (by decide) (fun K hK => ?_)
        refine goes_ Tryd.func23 (by kernel_rfl) rfl #[.agg #[.slice A0_0 l0_0.length c0_0, .slice A0_1 l0_1.length c0_1, .slice A0_2 l0_2.length c0_2], .int .i64 a1] (by rfl) rfl rfl (by (try simp only [List.map_toArray, List.map_cons, List.map_nil]); first | done | rfl | (simp only [List.length_drop, List.length_take]; rfl)) ?_
        with_reducible refine (jobshellref25_Send.calls kj2 (fun k_ => k_ < w.heap.size) _ _ l0_0 (fun k_ => k_ < w.heap.size) _ _ l0_1 (fun k_ => k_ < w.heap.size) _ _ l0_2 a1 t377 t380 t383 _ ?side1 ?side2 ?side3 A20.out).mono ?_
        (case side1 => exact V_mk HC0_0.out (Kd.F_below (C_F (Kd.heap_int .i64) HR0_0.out) (by repeat (first | (with_reducible first | exact HB.out | apply below_alloc | apply pw_below_drewN | apply below_drew1 | refine below_set ?_ GE340.out | refine below_set ?_ GE355.out | refine below_set ?_ GE367.out) | exact HB.out))))
        (case side2 => exact V_mk HC0_1.out (Kd.F_below (C_F (Kd.heap_int .i64) HR0_1.out) (by repeat (first | (with_reducible first | exact HB.out | apply below_alloc | apply pw_below_drewN | apply below_drew1 | refine below_set ?_ GE340.out | refine below_set ?_ GE355.out | refine below_set ?_ GE367.out) | exact HB.out))))
        (case side3 => exact V_mk HC0_2.out (Kd.F_below (C_F (Kd.heap_int .i64) HR0_2.out) (by repeat (first | (with_reducible first | exact HB.out | apply below_alloc | apply pw_below_drewN | apply below_drew1 | refine below_set ?_ GE340.out | refine below_set ?_ GE355.out | refine below_set ?_ GE367.out) | exact HB.out))))
        rintro e w49 ⟨v378, v381, v384, rfl, ho0, ho1, ho2, hb⟩
        refine ⟨_, rfl, ?_⟩
        have n0_ := Zk (V_below (by (with_reducible repeat (first | apply V_alloc | apply V_drewN | apply V_drew)); exact HO346.out) hb)
        have n1_ := Zk (V_below (by (with_reducible repeat (first | apply V_alloc | apply V_drewN | apply V_drew)); exact HO349.out) hb)
        have n2_ := Zk (V_below (by (with_reducible repeat (first | apply V_alloc | apply V_drewN | apply V_drew)); exact HO352.out) hb)
        have n3_ := Zk (V_below (by (with_reducible repeat (first | apply V_alloc | apply V_drewN | apply V_drew)); exact HO358.out) hb)
        have n4_ := Zk (V_below (by (with_reducible repeat (first | apply V_alloc | apply V_drewN | apply V_drew)); exact HO361.out) hb)
        have n5_ := Zk (V_below (by (with_reducible repeat (first | apply V_alloc | apply V_drewN | apply V_drew)); exact HO364.out) hb)
        have n6_ := Zk (V_below (by (with_reducible repeat (first | apply V_alloc | apply V_drewN | apply V_drew)); exact HO370.out) hb)
        have n7_ := Zk (V_below (by (with_reducible repeat (first | apply V_alloc | apply V_drewN | apply V_drew)); exact HO373.out) hb)
        have n8_ := Zk (V_below (by (with_reducible repeat (first | apply V_alloc | apply V_drewN | apply V_drew)); exact HO376.out) hb)
        have n9_ := Zk (V_lower (V_mono (ok' := fun k_ => k_ ≠ gb340 ∧ k_ ≠ gb355 ∧ k_ ≠ gb367) ho0 (fun k_ hk_ => ⟨Or.elim hk_ (fun hs_ => Or.elim hs_ (fun hs_ => fun e_ => Nat.not_le.2 hs_ (by rw [e_]; exact GW340.out)) (fun hs_ => Or.elim hs_ (fun hs_ => fun e_ => Nat.not_le.2 hs_ (by rw [e_]; exact GW340.out)) (fun hs_ => fun e_ => Nat.not_le.2 hs_ (by rw [e_]; exact GW340.out)))) (fun hn_ => (Kd.freshB (g := gb340) (o := .cells #[.slice A0_0 l0_0.length c0_0, .slice A0_1 l0_1.length c0_1, .slice A0_2 l0_2.length c0_2] 30 (0, 0)) (by (with_reducible repeat (first | refine blk_drewN ?_ _ | refine blk_drew ?_ | refine blk_alloc ?_ _)); exact BK340.out) k_ hn_)), Or.elim hk_ (fun hs_ => Or.elim hs_ (fun hs_ => fun e_ => Nat.not_le.2 hs_ (by rw [e_]; exact GW355.out)) (fun hs_ => Or.elim hs_ (fun hs_ => fun e_ => Nat.not_le.2 hs_ (by rw [e_]; exact GW355.out)) (fun hs_ => fun e_ => Nat.not_le.2 hs_ (by rw [e_]; exact GW355.out)))) (fun hn_ => (Kd.freshB (g := gb355) (o := .cells #[.slice Ao31 t344.length co31, .slice Ao34 t347.length co34, .slice Ao35 t350.length co35] 30 (0, 0)) (by (with_reducible repeat (first | refine blk_drewN ?_ _ | refine blk_drew ?_ | refine blk_alloc ?_ _)); exact BK355.out) k_ hn_)), Or.elim hk_ (fun hs_ => Or.elim hs_ (fun hs_ => fun e_ => Nat.not_le.2 hs_ (by rw [e_]; exact GW367.out)) (fun hs_ => Or.elim hs_ (fun hs_ => fun e_ => Nat.not_le.2 hs_ (by rw [e_]; exact GW367.out)) (fun hs_ => fun e_ => Nat.not_le.2 hs_ (by rw [e_]; exact GW367.out)))) (fun hn_ => (Kd.freshB (g := gb367) (o := .cells #[.slice Ao40 t356.length co40, .slice Ao44 t359.length co44, .slice Ao45 t362.length co45] 30 (0, 0)) (by (with_reducible repeat (first | refine blk_drewN ?_ _ | refine blk_drew ?_ | refine blk_alloc ?_ _)); exact BK367.out) k_ hn_))⟩)) (below_size (by repeat (first | (with_reducible first | exact HB.out | apply below_alloc | apply pw_below_drewN | apply below_drew1 | refine below_set ?_ GE340.out | refine below_set ?_ GE355.out | refine below_set ?_ GE367.out) | exact HB.out))))
        have n10_ := Zk (V_lower (V_mono (ok' := fun k_ => k_ ≠ gb340 ∧ k_ ≠ gb355 ∧ k_ ≠ gb367) ho1 (fun k_ hk_ => ⟨Or.elim hk_ (fun hs_ => Or.elim hs_ (fun hs_ => fun e_ => Nat.not_le.2 hs_ (by rw [e_]; exact GW340.out)) (fun hs_ => Or.elim hs_ (fun hs_ => fun e_ => Nat.not_le.2 hs_ (by rw [e_]; exact GW340.out)) (fun hs_ => fun e_ => Nat.not_le.2 hs_ (by rw [e_]; exact GW340.out)))) (fun hn_ => (Kd.freshB (g := gb340) (o := .cells #[.slice A0_0 l0_0.length c0_0, .slice A0_1 l0_1.length c0_1, .slice A0_2 l0_2.length c0_2] 30 (0, 0)) (by (with_reducible repeat (first | refine blk_drewN ?_ _ | refine blk_drew ?_ | refine blk_alloc ?_ _)); exact BK340.out) k_ hn_)), Or.elim hk_ (fun hs_ => Or.elim hs_ (fun hs_ => fun e_ => Nat.not_le.2 hs_ (by rw [e_]; exact GW355.out)) (fun hs_ => Or.elim hs_ (fun hs_ => fun e_ => Nat.not_le.2 hs_ (by rw [e_]; exact GW355.out)) (fun hs_ => fun e_ => Nat.not_le.2 hs_ (by rw [e_]; exact GW355.out)))) (fun hn_ => (Kd.freshB (g := gb355) (o := .cells #[.slice Ao31 t344.length co31, .slice Ao34 t347.length co34, .slice Ao35 t350.length co35] 30 (0, 0)) (by (with_reducible repeat (first | refine blk_drewN ?_ _ | refine blk_drew ?_ | refine blk_alloc ?_ _)); exact BK355.out) k_ hn_)), Or.elim hk_ (fun hs_ => Or.elim hs_ (fun hs_ => fun e_ => Nat.not_le.2 hs_ (by rw [e_]; exact GW367.out)) (fun hs_ => Or.elim hs_ (fun hs_ => fun e_ => Nat.not_le.2 hs_ (by rw [e_]; exact GW367.out)) (fun hs_ => fun e_ => Nat.not_le.2 hs_ (by rw [e_]; exact GW367.out)))) (fun hn_ => (Kd.freshB (g := gb367) (o := .cells #[.slice Ao40 t356.length co40, .slice Ao44 t359.length co44, .slice Ao45 t362.length co45] 30 (0, 0)) (by (with_reducible repeat (first | refine blk_drewN ?_ _ | refine blk_drew ?_ | refine blk_alloc ?_ _)); exact BK367.out) k_ hn_))⟩)) (below_size (by repeat (first | (with_reducible first | exact HB.out | apply below_alloc | apply pw_below_drewN | apply below_drew1 | refine below_set ?_ GE340.out | refine below_set ?_ GE355.out | refine below_set ?_ GE367.out) | exact HB.out))))
        have n11_ := Zk (V_lower (V_mono (ok' := fun k_ => k_ ≠ gb340 ∧ k_ ≠ gb355 ∧ k_ ≠ gb367) ho2 (fun k_ hk_ => ⟨Or.elim hk_ (fun hs_ => Or.elim hs_ (fun hs_ => fun e_ => Nat.not_le.2 hs_ (by rw [e_]; exact GW340.out)) (fun hs_ => Or.elim hs_ (fun hs_ => fun e_ => Nat.not_le.2 hs_ (by rw [e_]; exact GW340.out)) (fun hs_ => fun e_ => Nat.not_le.2 hs_ (by rw [e_]; exact GW340.out)))) (fun hn_ => (Kd.freshB (g := gb340) (o := .cells #[.slice A0_0 l0_0.length c0_0, .slice A0_1 l0_1.length c0_1, .slice A0_2 l0_2.length c0_2] 30 (0, 0)) (by (with_reducible repeat (first | refine blk_drewN ?_ _ | refine blk_drew ?_ | refine blk_alloc ?_ _)); exact BK340.out) k_ hn_)), Or.elim hk_ (fun hs_ => Or.elim hs_ (fun hs_ => fun e_ => Nat.not_le.2 hs_ (by rw [e_]; exact GW355.out)) (fun hs_ => Or.elim hs_ (fun hs_ => fun e_ => Nat.not_le.2 hs_ (by rw [e_]; exact GW355.out)) (fun hs_ => fun e_ => Nat.not_le.2 hs_ (by rw [e_]; exact GW355.out)))) (fun hn_ => (Kd.freshB (g := gb355) (o := .cells #[.slice Ao31 t344.length co31, .slice Ao34 t347.length co34, .slice Ao35 t350.length co35] 30 (0, 0)) (by (with_reducible repeat (first | refine blk_drewN ?_ _ | refine blk_drew ?_ | refine blk_alloc ?_ _)); exact BK355.out) k_ hn_)), Or.elim hk_ (fun hs_ => Or.elim hs_ (fun hs_ => fun e_ => Nat.not_le.2 hs_ (by rw [e_]; exact GW367.out)) (fun hs_ => Or.elim hs_ (fun hs_ => fun e_ => Nat.not_le.2 hs_ (by rw [e_]; exact GW367.out)) (fun hs_ => fun e_ => Nat.not_le.2 hs_ (by rw [e_]; exact GW367.out)))) (fun hn_ => (Kd.freshB (g := gb367) (o := .cells #[.slice Ao40 t356.length co40, .slice Ao44 t359.length co44, .slice Ao45 t362.length co45] 30 (0, 0)) (by (with_reducible repeat (first | refine blk_drewN ?_ _ | refine blk_drew ?_ | refine blk_alloc ?_ _)); exact BK367.out) k_ hn_))⟩)) (below_size (by repeat (first | (with_reducible first | exact HB.out | apply below_alloc | apply pw_below_drewN | apply below_drew1 | refine below_set ?_ GE340.out | refine below_set ?_ GE355.out | refine below_set ?_ GE367.out) | exact HB.out))))
        have n12_ := Zk (blk_below (g := gb340) (o := .cells #[.slice A0_0 l0_0.length c0_0, .slice A0_1 l0_1.length c0_1, .slice A0_2 l0_2.length c0_2] 30 (0, 0)) (by (with_reducible repeat (first | refine blk_drewN ?_ _ | refine blk_drew ?_ | refine blk_alloc ?_ _)); exact BK340.out) hb)
        have n13_ := Zk (blk_below (g := gb355) (o := .cells #[.slice Ao31 t344.length co31, .slice Ao34 t347.length co34, .slice Ao35 t350.length co35] 30 (0, 0)) (by (with_reducible repeat (first | refine blk_drewN ?_ _ | refine blk_drew ?_ | refine blk_alloc ?_ _)); exact BK355.out) hb)
        have n14_ := Zk (blk_below (g := gb367) (o := .cells #[.slice Ao40 t356.length co40, .slice Ao44 t359.length co44, .slice Ao45 t362.length co45] 30 (0, 0)) (by (with_reducible repeat (first | refine blk_drewN ?_ _ | refine blk_drew ?_ | refine blk_alloc ?_ _)); exact BK367.out) hb)
        have n15_ := Zk (below_step (by repeat (first | (with_reducible first | exact HB.out | apply below_alloc | apply pw_below_drewN | apply below_drew1 | refine below_set ?_ GE340.out | refine below_set ?_ GE355.out | refine below_set ?_ GE367.out) | exact HB.out)) hb)
        clear HO346
        clear HO349
        clear HO352
        clear HO358
        clear HO361
        clear HO364
        clear HO370
        clear HO373
        clear HO376
        clear BK340
        clear BK355
        clear BK367
        clear HB
        have HO346 := n0_
        have HO349 := n1_
        have HO352 := n2_
        have HO358 := n3_
        have HO361 := n4_
        have HO364 := n5_
        have HO370 := n6_
        have HO373 := n7_
        have HO376 := n8_
        have HO379 := n9_
        have HO382 := n10_
        have HO385 := n11_
        have BK340 := n12_
        have BK355 := n13_
        have BK367 := n14_
        have HB := n15_
        clear n0_ n1_ n2_ n3_ n4_ n5_ n6_ n7_ n8_ n9_ n10_ n11_ n12_ n13_ n14_ n15_
        (try clear hb)
        (try clear hb2)
        (try clear hk)
        (try clear hi)
        (try clear ho0)
        (try clear ho1)
        (try clear ho2)
        obtain ⟨Ao50, co50, eo50⟩ := V_slice HO370.out
        (first | subst eo50 | (injection eo50 with f1_ f2_ f3_; have f4_ := f1_.symm; have f5_ := f3_.symm; clear f1_ f2_ f3_; subst f4_; subst f5_))
        obtain ⟨Ao51, co51, eo51⟩ := V_slice HO373.out
        (first | subst eo51 | (injection eo51 with f1_ f2_ f3_; have f4_ := f1_.symm; have f5_ := f3_.symm; clear f1_ f2_ f3_; subst f4_; subst f5_))
        obtain ⟨Ao52, co52, eo52⟩ := V_slice HO376.out
        (first | subst eo52 | (injection eo52 with f1_ f2_ f3_; have f4_ := f1_.symm; have f5_ := f3_.symm; clear f1_ f2_ f3_; subst f4_; subst f5_))
        obtain ⟨Ao53, co53, eo53⟩ := V_slice HO379.out
        (first | subst eo53 | (injection eo53 with f1_ f2_ f3_; have f4_ := f1_.symm; have f5_ := f3_.symm; clear f1_ f2_ f3_; subst f4_; subst f5_))
        obtain ⟨Ao54, co54, eo54⟩ := V_slice HO382.out
        (first | subst eo54 | (injection eo54 with f1_ f2_ f3_; have f4_ := f1_.symm; have f5_ := f3_.symm; clear f1_ f2_ f3_; subst f4_; subst f5_))
        obtain ⟨Ao55, co55, eo55⟩ := V_slice HO385.out
        (first | subst eo55 | (injection eo55 with f1_ f2_ f3_; have f4_ := f1_.symm; have f5_ := f3_.symm; clear f1_ f2_ f3_; subst f4_; subst f5_))
        refine hK.out _ _ ⟨(blk_cell BK340.out 0).trans rfl, (blk_cell BK340.out 1).trans rfl, (blk_cell BK340.out 2).trans rfl, (blk_cell BK355.out 0).trans rfl, (blk_cell BK355.out 1).trans rfl, (blk_cell BK355.out 2).trans rfl, (blk_cell BK367.out 0).trans rfl, (blk_cell BK367.out 1).trans rfl, (blk_cell BK367.out 2).trans rfl⟩ (fun hHeld => ?_)
        clear hK K
        refine norm_ (a' := ?_) ?_ ?_
        rotate_left
        ·show Act.put _ (some 37) _ = _
         simp only [Act.put, List.setIfInBounds_toArray, List.set_cons_zero, List.set_cons_succ, i64_w, i32_w]
         rfl
        refine one_ (i := 6) (N := some 38) #[true, true, true, true, true, true, true, false, false, false, false, false, false, false, false, false, false, false, false, false, false, false, false, false, false, false] rfl rfl (one_of HT_.out (by kernel_rfl)) (by decide) (fun K hK => ?_)
        refine goes_ Tryd.func21 (by kernel_rfl) rfl #[.agg #[.slice Ao50 t368.length co50, .slice Ao51 t371.length co51, .slice Ao52 t374.length co52], .agg #[.slice Ao53 t377.length co53, .slice Ao54 t380.length co54, .slice Ao55 t383.length co55]] (by rfl) rfl rfl (by (try simp only [List.map_toArray, List.map_cons, List.map_nil]); first | done | rfl | (simp only [List.length_drop, List.length_take]; rfl)) ?_
        with_reducible refine (jobshellref25_Same.calls kj2 _ _ t368 _ _ t371 _ _ t374 _ _ t377 _ _ t380 _ _ t383 true _ ?side1 ?side2 ?side3 ?side4 ?side5 ?side6 ?side7 ?side8 ?side9 ?side10 ?side11 ?side12 A21.out).mono ?_
        (case side1 => repeat (first | exact (V_reads' HO370.out).2.2 | (with_reducible refine C_alloc ?_ _) | (with_reducible refine C_drewN ?_ _) | (with_reducible refine C_drew ?_)))
        (case side2 => exact (V_reads' HO370.out).2.1)
        (case side3 => repeat (first | exact (V_reads' HO373.out).2.2 | (with_reducible refine C_alloc ?_ _) | (with_reducible refine C_drewN ?_ _) | (with_reducible refine C_drew ?_)))
        (case side4 => exact (V_reads' HO373.out).2.1)
        (case side5 => repeat (first | exact (V_reads' HO376.out).2.2 | (with_reducible refine C_alloc ?_ _) | (with_reducible refine C_drewN ?_ _) | (with_reducible refine C_drew ?_)))
        (case side6 => exact (V_reads' HO376.out).2.1)
        (case side7 => repeat (first | exact (V_reads' HO379.out).2.2 | (with_reducible refine C_alloc ?_ _) | (with_reducible refine C_drewN ?_ _) | (with_reducible refine C_drew ?_)))
        (case side8 => exact (V_reads' HO379.out).2.1)
        (case side9 => repeat (first | exact (V_reads' HO382.out).2.2 | (with_reducible refine C_alloc ?_ _) | (with_reducible refine C_drewN ?_ _) | (with_reducible refine C_drew ?_)))
        (case side10 => exact (V_reads' HO382.out).2.1)
        (case side11 => repeat (first | exact (V_reads' HO385.out).2.2 | (with_reducible refine C_alloc ?_ _) | (with_reducible refine C_drewN ?_ _) | (with_reducible refine C_drew ?_)))
        (case side12 => exact (V_reads' HO385.out).2.1)
        rintro e w56 ⟨rfl, hb⟩
        refine ⟨_, rfl, ?_⟩
        have n0_ := Zk (V_below (by (with_reducible repeat (first | apply V_alloc | apply V_drewN | apply V_drew)); exact HO346.out) hb)
        have n1_ := Zk (V_below (by (with_reducible repeat (first | apply V_alloc | apply V_drewN | apply V_drew)); exact HO349.out) hb)
        have n2_ := Zk (V_below (by (with_reducible repeat (first | apply V_alloc | apply V_drewN | apply V_drew)); exact HO352.out) hb)
        have n3_ := Zk (V_below (by (with_reducible repeat (first | apply V_alloc | apply V_drewN | apply V_drew)); exact HO358.out) hb)
        have n4_ := Zk (V_below (by (with_reducible repeat (first | apply V_alloc | apply V_drewN | apply V_drew)); exact HO361.out) hb)
        have n5_ := Zk (V_below (by (with_reducible repeat (first | apply V_alloc | apply V_drewN | apply V_drew)); exact HO364.out) hb)
        have n6_ := Zk (V_below (by (with_reducible repeat (first | apply V_alloc | apply V_drewN | apply V_drew)); exact HO370.out) hb)
        have n7_ := Zk (V_below (by (with_reducible repeat (first | apply V_alloc | apply V_drewN | apply V_drew)); exact HO373.out) hb)
        have n8_ := Zk (V_below (by (with_reducible repeat (first | apply V_alloc | apply V_drewN | apply V_drew)); exact HO376.out) hb)
        have n9_ := Zk (V_below (by (with_reducible repeat (first | apply V_alloc | apply V_drewN | apply V_drew)); exact HO379.out) hb)
        have n10_ := Zk (V_below (by (with_reducible repeat (first | apply V_alloc | apply V_drewN | apply V_drew)); exact HO382.out) hb)
        have n11_ := Zk (V_below (by (with_reducible repeat (first | apply V_alloc | apply V_drewN | apply V_drew)); exact HO385.out) hb)
        have n12_ := Zk (blk_below (g := gb340) (o := .cells #[.slice A0_0 l0_0.length c0_0, .slice A0_1 l0_1.length c0_1, .slice A0_2 l0_2.length c0_2] 30 (0, 0)) (by (with_reducible repeat (first | refine blk_drewN ?_ _ | refine blk_drew ?_ | refine blk_alloc ?_ _)); exact BK340.out) hb)
        have n13_ := Zk (blk_below (g := gb355) (o := .cells #[.slice Ao31 t344.length co31, .slice Ao34 t347.length co34, .slice Ao35 t350.length co35] 30 (0, 0)) (by (with_reducible repeat (first | refine blk_drewN ?_ _ | refine blk_drew ?_ | refine blk_alloc ?_ _)); exact BK355.out) hb)
        have n14_ := Zk (blk_below (g := gb367) (o := .cells #[.slice Ao40 t356.length co40, .slice Ao44 t359.length co44, .slice Ao45 t362.length co45] 30 (0, 0)) (by (with_reducible repeat (first | refine blk_drewN ?_ _ | refine blk_drew ?_ | refine blk_alloc ?_ _)); exact BK367.out) hb)
        have n15_ := Zk (below_step (by repeat (first | (with_reducible first | exact HB.out | apply below_alloc | apply pw_below_drewN | apply below_drew1 | refine below_set ?_ GE340.out | refine below_set ?_ GE355.out | refine below_set ?_ GE367.out) | exact HB.out)) hb)
        clear HO346
        clear HO349
        clear HO352
        clear HO358
        clear HO361
        clear HO364
        clear HO370
        clear HO373
        clear HO376
        clear HO379
        clear HO382
        clear HO385
        clear BK340
        clear BK355
        clear BK367
        clear HB
        have HO346 := n0_
        have HO349 := n1_
        have HO352 := n2_
        have HO358 := n3_
        have HO361 := n4_
        have HO364 := n5_
        have HO370 := n6_
        have HO373 := n7_
        have HO376 := n8_
        have HO379 := n9_
        have HO382 := n10_
        have HO385 := n11_
        have BK340 := n12_
        have BK355 := n13_
        have BK367 := n14_
        have HB := n15_
        clear n0_ n1_ n2_ n3_ n4_ n5_ n6_ n7_ n8_ n9_ n10_ n11_ n12_ n13_ n14_ n15_
        (try clear hb)
        (try clear hb2)
        (try clear hk)
        (try clear hi)
        refine hK.out _ _ ⟨(blk_cell BK340.out 0).trans rfl, (blk_cell BK340.out 1).trans rfl, (blk_cell BK340.out 2).trans rfl, (blk_cell BK355.out 0).trans rfl, (blk_cell BK355.out 1).trans rfl, (blk_cell BK355.out 2).trans rfl, (blk_cell BK367.out 0).trans rfl, (blk_cell BK367.out 1).trans rfl, (blk_cell BK367.out 2).trans rfl⟩ (fun hHeld => ?_)
        clear hK K
        refine norm_ (a' := ?_) ?_ ?_
        rotate_left
        ·show Act.put _ (some 38) _ = _
         simp only [Act.put, List.setIfInBounds_toArray, List.set_cons_zero, List.set_cons_succ, i64_w, i32_w]
         rfl
        refine pure_ (i := 7) (N := some 39) (v := ?_) (a' := ?_) #[true, true, true, true, true, true, true, true, false, false, false, false, false, false, false, false, false, false, false, false, false, false, false, false, false, false] rfl rfl (any_of HT_.out (by kernel_rfl)) (fun _ _ _ h => h) (Or.inl ⟨by rfl, ?_⟩) ?_ ?_
        rotate_left
        ·intro w'
         go_simp
         with_reducible rfl
        rotate_left
        ·simp only [Act.put, List.setIfInBounds_toArray, List.set_cons_zero, List.set_cons_succ, i64_w, i32_w]
         rfl
        refine take_ (i := 8) (N := some 40) (v := ?_) (a' := ?_) #[true, true, true, true, true, true, true, true, true, false, false, false, false, false, false, false, false, false, false, false, false, false, false, false, false, false] rfl rfl (take_ofW HT_.out HW_.out (by kernel_rfl)) (fun _ _ _ h => h) (Or.inl ⟨by rfl, ?_⟩) hHeld ?_ ?_
        rotate_left
        ·rintro w' ⟨s0, s1, s2, s3, s4, s5, s6, s7, s8⟩
         go_simp
         with_reducible rfl
        rotate_left
        ·simp only [Act.put, List.setIfInBounds_toArray, List.set_cons_zero, List.set_cons_succ, i64_w, i32_w]
         rfl
        refine take_ (i := 9) (N := some 41) (v := ?_) (a' := ?_) #[true, true, true, true, true, true, true, true, true, true, false, false, false, false, false, false, false, false, false, false, false, false, false, false, false, false] rfl rfl (take_ofW HT_.out HW_.out (by kernel_rfl)) (fun _ _ _ h => h) (Or.inl ⟨by rfl, ?_⟩) hHeld ?_ ?_
        rotate_left
        ·rintro w' ⟨s0, s1, s2, s3, s4, s5, s6, s7, s8⟩
         go_simp
         with_reducible rfl
        rotate_left
        ·simp only [Act.put, List.setIfInBounds_toArray, List.set_cons_zero, List.set_cons_succ, i64_w, i32_w]
         rfl
        refine one_ (i := 10) (N := some 42) #[true, true, true, true, true, true, true, true, true, true, true, false, false, false, false, false, false, false, false, false, false, false, false, false, false, false] rfl rfl (one_of HT_.out (by kernel_rfl)) (by decide) (fun K hK => ?_)
        refine goes_ Tryd.func21 (by kernel_rfl) rfl #[.agg #[.slice Ao31 t344.length co31, .slice Ao34 t347.length co34, .slice Ao35 t350.length co35], .agg #[.slice Ao40 t356.length co40, .slice Ao44 t359.length co44, .slice Ao45 t362.length co45]] (by rfl) rfl rfl (by (try simp only [List.map_toArray, List.map_cons, List.map_nil]); first | done | rfl | (simp only [List.length_drop, List.length_take]; rfl)) ?_
        with_reducible refine (jobshellref25_Same.calls kj2 _ _ t344 _ _ t347 _ _ t350 _ _ t356 _ _ t359 _ _ t362 true _ ?side1 ?side2 ?side3 ?side4 ?side5 ?side6 ?side7 ?side8 ?side9 ?side10 ?side11 ?side12 A23.out).mono ?_
        (case side1 => repeat (first | exact (V_reads' HO346.out).2.2 | (with_reducible refine C_alloc ?_ _) | (with_reducible refine C_drewN ?_ _) | (with_reducible refine C_drew ?_)))
        (case side2 => exact (V_reads' HO346.out).2.1)
        (case side3 => repeat (first | exact (V_reads' HO349.out).2.2 | (with_reducible refine C_alloc ?_ _) | (with_reducible refine C_drewN ?_ _) | (with_reducible refine C_drew ?_)))
        (case side4 => exact (V_reads' HO349.out).2.1)
        (case side5 => repeat (first | exact (V_reads' HO352.out).2.2 | (with_reducible refine C_alloc ?_ _) | (with_reducible refine C_drewN ?_ _) | (with_reducible refine C_drew ?_)))
        (case side6 => exact (V_reads' HO352.out).2.1)
        (case side7 => repeat (first | exact (V_reads' HO358.out).2.2 | (with_reducible refine C_alloc ?_ _) | (with_reducible refine C_drewN ?_ _) | (with_reducible refine C_drew ?_)))
        (case side8 => exact (V_reads' HO358.out).2.1)
        (case side9 => repeat (first | exact (V_reads' HO361.out).2.2 | (with_reducible refine C_alloc ?_ _) | (with_reducible refine C_drewN ?_ _) | (with_reducible refine C_drew ?_)))
        (case side10 => exact (V_reads' HO361.out).2.1)
        (case side11 => repeat (first | exact (V_reads' HO364.out).2.2 | (with_reducible refine C_alloc ?_ _) | (with_reducible refine C_drewN ?_ _) | (with_reducible refine C_drew ?_)))
        (case side12 => exact (V_reads' HO364.out).2.1)
        rintro e w57 ⟨rfl, hb⟩
        refine ⟨_, rfl, ?_⟩
        have n0_ := Zk (V_below (by (with_reducible repeat (first | apply V_alloc | apply V_drewN | apply V_drew)); exact HO346.out) hb)
        have n1_ := Zk (V_below (by (with_reducible repeat (first | apply V_alloc | apply V_drewN | apply V_drew)); exact HO349.out) hb)
        have n2_ := Zk (V_below (by (with_reducible repeat (first | apply V_alloc | apply V_drewN | apply V_drew)); exact HO352.out) hb)
        have n3_ := Zk (V_below (by (with_reducible repeat (first | apply V_alloc | apply V_drewN | apply V_drew)); exact HO358.out) hb)
        have n4_ := Zk (V_below (by (with_reducible repeat (first | apply V_alloc | apply V_drewN | apply V_drew)); exact HO361.out) hb)
        have n5_ := Zk (V_below (by (with_reducible repeat (first | apply V_alloc | apply V_drewN | apply V_drew)); exact HO364.out) hb)
        have n6_ := Zk (V_below (by (with_reducible repeat (first | apply V_alloc | apply V_drewN | apply V_drew)); exact HO370.out) hb)
        have n7_ := Zk (V_below (by (with_reducible repeat (first | apply V_alloc | apply V_drewN | apply V_drew)); exact HO373.out) hb)
        have n8_ := Zk (V_below (by (with_reducible repeat (first | apply V_alloc | apply V_drewN | apply V_drew)); exact HO376.out) hb)
        have n9_ := Zk (V_below (by (with_reducible repeat (first | apply V_alloc | apply V_drewN | apply V_drew)); exact HO379.out) hb)
        have n10_ := Zk (V_below (by (with_reducible repeat (first | apply V_alloc | apply V_drewN | apply V_drew)); exact HO382.out) hb)
        have n11_ := Zk (V_below (by (with_reducible repeat (first | apply V_alloc | apply V_drewN | apply V_drew)); exact HO385.out) hb)
        have n12_ := Zk (blk_below (g := gb340) (o := .cells #[.slice A0_0 l0_0.length c0_0, .slice A0_1 l0_1.length c0_1, .slice A0_2 l0_2.length c0_2] 30 (0, 0)) (by (with_reducible repeat (first | refine blk_drewN ?_ _ | refine blk_drew ?_ | refine blk_alloc ?_ _)); exact BK340.out) hb)
        have n13_ := Zk (blk_below (g := gb355) (o := .cells #[.slice Ao31 t344.length co31, .slice Ao34 t347.length co34, .slice Ao35 t350.length co35] 30 (0, 0)) (by (with_reducible repeat (first | refine blk_drewN ?_ _ | refine blk_drew ?_ | refine blk_alloc ?_ _)); exact BK355.out) hb)
        have n14_ := Zk (blk_below (g := gb367) (o := .cells #[.slice Ao40 t356.length co40, .slice Ao44 t359.length co44, .slice Ao45 t362.length co45] 30 (0, 0)) (by (with_reducible repeat (first | refine blk_drewN ?_ _ | refine blk_drew ?_ | refine blk_alloc ?_ _)); exact BK367.out) hb)
        have n15_ := Zk (below_step (by repeat (first | (with_reducible first | exact HB.out | apply below_alloc | apply pw_below_drewN | apply below_drew1 | refine below_set ?_ GE340.out | refine below_set ?_ GE355.out | refine below_set ?_ GE367.out) | exact HB.out)) hb)
        clear HO346
        clear HO349
        clear HO352
        clear HO358
        clear HO361
        clear HO364
        clear HO370
        clear HO373
        clear HO376
        clear HO379
        clear HO382
        clear HO385
        clear BK340
        clear BK355
        clear BK367
        clear HB
        have HO346 := n0_
        have HO349 := n1_
        have HO352 := n2_
        have HO358 := n3_
        have HO361 := n4_
        have HO364 := n5_
        have HO370 := n6_
        have HO373 := n7_
        have HO376 := n8_
        have HO379 := n9_
        have HO382 := n10_
        have HO385 := n11_
        have BK340 := n12_
        have BK355 := n13_
        have BK367 := n14_
        have HB := n15_
        clear n0_ n1_ n2_ n3_ n4_ n5_ n6_ n7_ n8_ n9_ n10_ n11_ n12_ n13_ n14_ n15_
        (try clear hb)
        (try clear hb2)
        (try clear hk)
        (try clear hi)
        refine hK.out _ _ ⟨(blk_cell BK340.out 0).trans rfl, (blk_cell BK340.out 1).trans rfl, (blk_cell BK340.out 2).trans rfl, (blk_cell BK355.out 0).trans rfl, (blk_cell BK355.out 1).trans rfl, (blk_cell BK355.out 2).trans rfl, (blk_cell BK367.out 0).trans rfl, (blk_cell BK367.out 1).trans rfl, (blk_cell BK367.out 2).trans rfl⟩ (fun hHeld => ?_)
        clear hK K
        refine norm_ (a' := ?_) ?_ ?_
        rotate_left
        ·show Act.put _ (some 42) _ = _
         simp only [Act.put, List.setIfInBounds_toArray, List.set_cons_zero, List.set_cons_succ, i64_w, i32_w]
         rfl
        refine pure_ (i := 11) (N := some 43) (v := ?_) (a' := ?_) #[true, true, true, true, true, true, true, true, true, true, true, true, false, false, false, false, false, false, false, false, false, false, false, false, false, false] rfl rfl (any_of HT_.out (by kernel_rfl)) (fun _ _ _ h => h) (Or.inl ⟨by rfl, ?_⟩) ?_ ?_
        rotate_left
        ·intro w'
         go_simp
         with_reducible rfl
        rotate_left
        ·simp only [Act.put, List.setIfInBounds_toArray, List.set_cons_zero, List.set_cons_succ, i64_w, i32_w]
         rfl
        refine pure_ (i := 12) (N := some 44) (v := ?_) (a' := ?_) #[true, true, true, true, true, true, true, true, true, true, true, true, true, false, false, false, false, false, false, false, false, false, false, false, false, false] rfl rfl (any_of HT_.out (by kernel_rfl)) (fun _ _ _ h => h) (Or.inl ⟨by rfl, ?_⟩) ?_ ?_
        rotate_left
        ·intro w'
         go_simp
         with_reducible rfl
        rotate_left
        ·simp only [Act.put, List.setIfInBounds_toArray, List.set_cons_zero, List.set_cons_succ, i64_w, i32_w]
         rfl
        refine pure_ (i := 13) (N := some 45) (v := ?_) (a' := ?_) #[true, true, true, true, true, true, true, true, true, true, true, true, true, true, false, false, false, false, false, false, false, false, false, false, false, false] rfl rfl (any_of HT_.out (by kernel_rfl)) (fun _ _ _ h => h) (Or.inl ⟨by rfl, ?_⟩) ?_ ?_
        rotate_left
        ·intro w'
         go_simp
         with_reducible rfl
        rotate_left
        ·simp only [Act.put, List.setIfInBounds_toArray, List.set_cons_zero, List.set_cons_succ, i64_w, i32_w]
         rfl
        refine pure_ (i := 14) (N := some 46) (v := ?_) (a' := ?_) #[true, true, true, true, true, true, true, true, true, true, true, true, true, true, true, false, false, false, false, false, false, false, false, false, false, false] rfl rfl (any_of HT_.out (by kernel_rfl)) (fun _ _ _ h => h) (Or.inl ⟨by rfl, ?_⟩) ?_ ?_
        rotate_left
        ·intro w'
         go_simp
         with_reducible rfl
        rotate_left
        ·simp only [Act.put, List.setIfInBounds_toArray, List.set_cons_zero, List.set_cons_succ, i64_w, i32_w]
         rfl
        refine pure_ (i := 15) (N := some 47) (v := ?_) (a' := ?_) #[true, true, true, true, true, true, true, true, true, true, true, true, true, true, true, true, false, false, false, false, false, false, false, false, false, false] rfl rfl (any_of HT_.out (by kernel_rfl)) (fun _ _ _ h => h) (Or.inl ⟨by rfl, ?_⟩) ?_ ?_
        rotate_left
        ·intro w'
         go_simp
         with_reducible rfl
        rotate_left
        ·simp only [Act.put, List.setIfInBounds_toArray, List.set_cons_zero, List.set_cons_succ, i64_w, i32_w]
         rfl
        refine pure_ (i := 16) (N := some 48) (v := ?_) (a' := ?_) #[true, true, true, true, true, true, true, true, true, true, true, true, true, true, true, true, true, false, false, false, false, false, false, false, false, false] rfl rfl (any_of HT_.out (by kernel_rfl)) (fun _ _ _ h => h) (Or.inl ⟨by rfl, ?_⟩) ?_ ?_
        rotate_left
        ·intro w'
         go_simp
         with_reducible rfl
        rotate_left
        ·simp only [Act.put, List.setIfInBounds_toArray, List.set_cons_zero, List.set_cons_succ, i64_w, i32_w]
         rfl
        refine pure_ (i := 17) (N := some 49) (v := ?_) (a' := ?_) #[true, true, true, true, true, true, true, true, true, true, true, true, true, true, true, true, true, true, false, false, false, false, false, false, false, false] rfl rfl (any_of HT_.out (by kernel_rfl)) (fun _ _ _ h => h) (Or.inl ⟨by rfl, ?_⟩) ?_ ?_
        rotate_left
        ·intro w'
         go_simp
         with_reducible rfl
        rotate_left
        ·simp only [Act.put, List.setIfInBounds_toArray, List.set_cons_zero, List.set_cons_succ, i64_w, i32_w]
         rfl
        refine pure_ (i := 18) (N := some 50) (v := ?_) (a' := ?_) #[true, true, true, true, true, true, true, true, true, true, true, true, true, true, true, true, true, true, true, false, false, false, false, false, false, false] rfl rfl (any_of HT_.out (by kernel_rfl)) (fun _ _ _ h => h) (Or.inl ⟨by rfl, ?_⟩) ?_ ?_
        rotate_left
        ·intro w'
         go_simp
         with_reducible rfl
        rotate_left
        ·simp only [Act.put, List.setIfInBounds_toArray, List.set_cons_zero, List.set_cons_succ, i64_w, i32_w]
         rfl
        refine pure_ (i := 19) (N := some 51) (v := ?_) (a' := ?_) #[true, true, true, true, true, true, true, true, true, true, true, true, true, true, true, true, true, true, true, true, false, false, false, false, false, false] rfl rfl (any_of HT_.out (by kernel_rfl)) (fun _ _ _ h => h) (Or.inl ⟨by rfl, ?_⟩) ?_ ?_
        rotate_left
        ·intro w'
         go_simp
         with_reducible rfl
        rotate_left
        ·simp only [Act.put, List.setIfInBounds_toArray, List.set_cons_zero, List.set_cons_succ, i64_w, i32_w]
         rfl
        refine pure_ (i := 20) (N := some 52) (v := ?_) (a' := ?_) #[true, true, true, true, true, true, true, true, true, true, true, true, true, true, true, true, true, true, true, true, true, false, false, false, false, false] rfl rfl (any_of HT_.out (by kernel_rfl)) (fun _ _ _ h => h) (Or.inl ⟨by rfl, ?_⟩) ?_ ?_
        rotate_left
        ·intro w'
         go_simp
         with_reducible rfl
        rotate_left
        ·simp only [Act.put, List.setIfInBounds_toArray, List.set_cons_zero, List.set_cons_succ, i64_w, i32_w]
         rfl
        refine pure_ (i := 21) (N := some 53) (v := ?_) (a' := ?_) #[true, true, true, true, true, true, true, true, true, true, true, true, true, true, true, true, true, true, true, true, true, true, false, false, false, false] rfl rfl (any_of HT_.out (by kernel_rfl)) (fun _ _ _ h => h) (Or.inl ⟨by rfl, ?_⟩) ?_ ?_
        rotate_left
        ·intro w'
         go_simp
         with_reducible rfl
        rotate_left
        ·simp only [Act.put, List.setIfInBounds_toArray, List.set_cons_zero, List.set_cons_succ, i64_w, i32_w]
         rfl
        refine pure_ (i := 22) (N := some 54) (v := ?_) (a' := ?_) #[true, true, true, true, true, true, true, true, true, true, true, true, true, true, true, true, true, true, true, true, true, true, true, false, false, false] rfl rfl (any_of HT_.out (by kernel_rfl)) (fun _ _ _ h => h) (Or.inl ⟨by rfl, ?_⟩) ?_ ?_
        rotate_left
        ·intro w'
         go_simp
         with_reducible rfl
        rotate_left
        ·simp only [Act.put, List.setIfInBounds_toArray, List.set_cons_zero, List.set_cons_succ, i64_w, i32_w]
         rfl
        refine one_ (i := 23) (N := some 55) #[true, true, true, true, true, true, true, true, true, true, true, true, true, true, true, true, true, true, true, true, true, true, true, true, false, false] rfl rfl (one_of HT_.out (by kernel_rfl)) (by decide) (fun K hK => ?_)
        refine goes_ Tryd.func10 (by kernel_rfl) rfl #[] (by rfl) rfl rfl (by (try simp only [List.map_toArray, List.map_cons, List.map_nil]); first | done | rfl | (simp only [List.length_drop, List.length_take]; rfl)) ?_
        with_reducible refine (jobshelllaw25_awake.calls kj2  t388 _ A27.out).mono ?_
        rintro e w58 ⟨rfl, hb⟩
        refine ⟨_, rfl, ?_⟩
        have n0_ := Zk (V_below (by (with_reducible repeat (first | apply V_alloc | apply V_drewN | apply V_drew)); exact HO346.out) hb)
        have n1_ := Zk (V_below (by (with_reducible repeat (first | apply V_alloc | apply V_drewN | apply V_drew)); exact HO349.out) hb)
        have n2_ := Zk (V_below (by (with_reducible repeat (first | apply V_alloc | apply V_drewN | apply V_drew)); exact HO352.out) hb)
        have n3_ := Zk (V_below (by (with_reducible repeat (first | apply V_alloc | apply V_drewN | apply V_drew)); exact HO358.out) hb)
        have n4_ := Zk (V_below (by (with_reducible repeat (first | apply V_alloc | apply V_drewN | apply V_drew)); exact HO361.out) hb)
        have n5_ := Zk (V_below (by (with_reducible repeat (first | apply V_alloc | apply V_drewN | apply V_drew)); exact HO364.out) hb)
        have n6_ := Zk (V_below (by (with_reducible repeat (first | apply V_alloc | apply V_drewN | apply V_drew)); exact HO370.out) hb)
        have n7_ := Zk (V_below (by (with_reducible repeat (first | apply V_alloc | apply V_drewN | apply V_drew)); exact HO373.out) hb)
        have n8_ := Zk (V_below (by (with_reducible repeat (first | apply V_alloc | apply V_drewN | apply V_drew)); exact HO376.out) hb)
        have n9_ := Zk (V_below (by (with_reducible repeat (first | apply V_alloc | apply V_drewN | apply V_drew)); exact HO379.out) hb)
        have n10_ := Zk (V_below (by (with_reducible repeat (first | apply V_alloc | apply V_drewN | apply V_drew)); exact HO382.out) hb)
        have n11_ := Zk (V_below (by (with_reducible repeat (first | apply V_alloc | apply V_drewN | apply V_drew)); exact HO385.out) hb)
        have n12_ := Zk (blk_below (g := gb340) (o := .cells #[.slice A0_0 l0_0.length c0_0, .slice A0_1 l0_1.length c0_1, .slice A0_2 l0_2.length c0_2] 30 (0, 0)) (by (with_reducible repeat (first | refine blk_drewN ?_ _ | refine blk_drew ?_ | refine blk_alloc ?_ _)); exact BK340.out) hb)
        have n13_ := Zk (blk_below (g := gb355) (o := .cells #[.slice Ao31 t344.length co31, .slice Ao34 t347.length co34, .slice Ao35 t350.length co35] 30 (0, 0)) (by (with_reducible repeat (first | refine blk_drewN ?_ _ | refine blk_drew ?_ | refine blk_alloc ?_ _)); exact BK355.out) hb)
        have n14_ := Zk (blk_below (g := gb367) (o := .cells #[.slice Ao40 t356.length co40, .slice Ao44 t359.length co44, .slice Ao45 t362.length co45] 30 (0, 0)) (by (with_reducible repeat (first | refine blk_drewN ?_ _ | refine blk_drew ?_ | refine blk_alloc ?_ _)); exact BK367.out) hb)
        have n15_ := Zk (below_step (by repeat (first | (with_reducible first | exact HB.out | apply below_alloc | apply pw_below_drewN | apply below_drew1 | refine below_set ?_ GE340.out | refine below_set ?_ GE355.out | refine below_set ?_ GE367.out) | exact HB.out)) hb)
        clear HO346
        clear HO349
        clear HO352
        clear HO358
        clear HO361
        clear HO364
        clear HO370
        clear HO373
        clear HO376
        clear HO379
        clear HO382
        clear HO385
        clear BK340
        clear BK355
        clear BK367
        clear HB
        have HO346 := n0_
        have HO349 := n1_
        have HO352 := n2_
        have HO358 := n3_
        have HO361 := n4_
        have HO364 := n5_
        have HO370 := n6_
        have HO373 := n7_
        have HO376 := n8_
        have HO379 := n9_
        have HO382 := n10_
        have HO385 := n11_
        have BK340 := n12_
        have BK355 := n13_
        have BK367 := n14_
        have HB := n15_
        clear n0_ n1_ n2_ n3_ n4_ n5_ n6_ n7_ n8_ n9_ n10_ n11_ n12_ n13_ n14_ n15_
        (try clear hb)
        (try clear hb2)
        (try clear hk)
        (try clear hi)
        refine hK.out _ _ ⟨(blk_cell BK340.out 0).trans rfl, (blk_cell BK340.out 1).trans rfl, (blk_cell BK340.out 2).trans rfl, (blk_cell BK355.out 0).trans rfl, (blk_cell BK355.out 1).trans rfl, (blk_cell BK355.out 2).trans rfl, (blk_cell BK367.out 0).trans rfl, (blk_cell BK367.out 1).trans rfl, (blk_cell BK367.out 2).trans rfl⟩ (fun hHeld => ?_)
        clear hK K
        refine norm_ (a' := ?_) ?_ ?_
        rotate_left
        ·show Act.put _ (some 55) _ = _
         simp only [Act.put, List.setIfInBounds_toArray, List.set_cons_zero, List.set_cons_succ, i64_w, i32_w]
         rfl
        refine pure_ (i := 24) (N := some 56) (v := ?_) (a' := ?_) #[true, true, true, true, true, true, true, true, true, true, true, true, true, true, true, true, true, true, true, true, true, true, true, true, true, false] rfl rfl (any_of HT_.out (by kernel_rfl)) (fun _ _ _ h => h) (Or.inl ⟨by rfl, ?_⟩) ?_ ?_
        rotate_left
        ·intro w'
         go_simp
         with_reducible rfl
        rotate_left
        ·simp only [Act.put, List.setIfInBounds_toArray, List.set_cons_zero, List.set_cons_succ, i64_w, i32_w]
         rfl
        refine pure_ (i := 25) (N := some 4) (v := ?_) (a' := ?_) #[true, true, true, true, true, true, true, true, true, true, true, true, true, true, true, true, true, true, true, true, true, true, true, true, true, true] rfl rfl (any_of HT_.out (by kernel_rfl)) (fun _ _ _ h => h) (Or.inl ⟨by rfl, ?_⟩) ?_ ?_
        rotate_left
        ·intro w'
         go_simp
         with_reducible rfl
        rotate_left
        ·simp only [Act.put, List.setIfInBounds_toArray, List.set_cons_zero, List.set_cons_succ, i64_w, i32_w]
         rfl
        refine done_ (done_of HT_.out (by kernel_rfl)) ?_
        try go_wp2
        go_ret
        exact ⟨by first | rfl | (simp [errW_none, errW_some] <;> rfl) | (simp [*, errW_none, errW_some] <;> rfl), by repeat (first | (with_reducible first | exact HB.out | apply below_alloc | apply pw_below_drewN | apply below_drew1 | refine below_set ?_ GE340.out | refine below_set ?_ GE355.out | refine below_set ?_ GE367.out) | exact HB.out)⟩
       ·rw [if_neg c26] at H
        exact absurd H (by simp)
      ·rw [if_neg c25] at H
       exact absurd H (by simp)
     ·replace c24 := Bool.eq_false_iff.mpr c24
      subst c24
      have H1 : (none) = some r := by rw [if_neg (show ¬ (false = true) by decide)] at H; exact H
      clear H
      have H := H1
      clear H1
      exact absurd H (by simp)
    ·replace c22 := Bool.eq_false_iff.mpr c22
     subst c22
     have H1 : (none) = some r := by rw [if_neg (show ¬ (false = true) by decide)] at H; exact H
     clear H
     have H := H1
     clear H1
     exact absurd H (by simp)
end Go.Proofs.YtnkkdpjipfjdaaaDoor.Q
end
section
-- Written by wip/tool/myprint.py, a program of this repo that drives the kit's print over hand-written contracts; Lean checks it.
namespace Go.Proofs.YtnkkdpjipfjdaaaDoor.StSignalSends
open Go.RowKit Go.Proofs.YtnkkdpjipfjdaaaDoor.Q Go.Proofs.YtnkkdpjipfjdaaaDoorW.PrintWords Go.Proofs.YtnkkdpjipfjdaaaDoorW.PrintLast
/-- THE ONE PURE STATEMENT of jobshelllaw25_SignalSends. -/
def Pure : Prop := ∀ (l0_0 : List Int) (l0_1 : List Int) (l0_2 : List Int) (a1 : Int), l0_0.length ≤ maxLen → l0_0.length * 8 ≤ 140737488351232 → (∀ x ∈ l0_0, (Lit.int .i64 x).wf = true) → l0_1.length ≤ maxLen → l0_1.length * 8 ≤ 140737488351232 → (∀ x ∈ l0_1, (Lit.int .i64 x).wf = true) → l0_2.length ≤ maxLen → l0_2.length * 8 ≤ 140737488351232 → (∀ x ∈ l0_2, (Lit.int .i64 x).wf = true) → (Lit.int .i64 a1).wf = true → ∃ k, jobshelllaw25_SignalSends.f k l0_0 l0_1 l0_2 a1 = some true
end Go.Proofs.YtnkkdpjipfjdaaaDoor.StSignalSends

end
section
-- Written by wip/tool/myprint.py, a program of this repo that drives the kit's print over hand-written contracts; Lean checks it.
namespace Go.Proofs.YtnkkdpjipfjdaaaDoor.Q
open Go.RowKit Go.Proofs.YtnkkdpjipfjdaaaDoorW.PrintWords Go.Proofs.YtnkkdpjipfjdaaaDoorW.PrintLast Go.Proofs.YtnkkdpjipfjdaaaDoorW.PrintMore Go.Proofs.YtnkkdpjipfjdaaaDoorM
open Kd
attribute [local go_sem] max2_int min2_int max_two min_two max_three min_three max_four min_four   -- for this text's walks alone
set_option linter.unusedVariables false
set_option linter.unusedSimpArgs false
def signal_ascending.l0 : Nat → List Int → List Int → Int → Int → Option (Bool)
 | 0, _, _, _, _ => none
 | k + 1, x0, x5, x6, x7 => if x7 < x6 then (if 0 ≤ x7 then (if x7 < (x5.length : Int) then ((signal_Name.f (rd x5 x7)).bind fun t641 => (if t641.toList = ([] : List UInt8) then (some false) else (if x7 > 0 then (if 0 ≤ (wrap64 (x7 - 1)) then (if (wrap64 (x7 - 1)) < (x0.length : Int) then (if (rd x5 x7) ≤ (rd x0 (wrap64 (x7 - 1))) then (some false) else (signal_ascending.l0 k x0 x5 x6 (wrap64 (x7 + 1)))) else (none)) else (none)) else (signal_ascending.l0 k x0 x5 x6 (wrap64 (x7 + 1)))))) else (none)) else (none)) else (some true)
def signal_ascending.f (k : Nat) (l0 : List Int) : Option (Bool) := signal_ascending.l0 k l0 l0 (l0.length : Int) 0
theorem signal_ascending.mono_l : ∀ k, (∀ y0 y1 y2 y3, LeO (signal_ascending.l0 k y0 y1 y2 y3) (signal_ascending.l0 (k + 1) y0 y1 y2 y3))
 | 0 => fun _ _ _ _ r h => by simp [signal_ascending.l0] at h
 | k + 1 => by
  have ih0 := signal_ascending.mono_l k
  ·intro y0 y1 y2 y3
   unfold signal_ascending.l0
   repeat' first
   | (with_reducible exact ih0 _ _ _ _)
   | (with_reducible exact LeO.refl _)
   | (with_reducible exact LeO.none _)
   | (with_reducible refine LeO.ite ?_ ?_)
   | (with_reducible refine LeO.bind ?_ (fun _ => ?_))
   | exact ih0 _ _ _ _
   | exact LeO.none _
   | refine LeO.ite ?_ ?_
   | refine LeO.bind ?_ (fun _ => ?_)
theorem signal_ascending.mono : ∀ a0 k, LeO (signal_ascending.f k a0) (signal_ascending.f (k + 1) a0) := by
 intro a0 k
 have ih0 := signal_ascending.mono_l k
 unfold signal_ascending.f
 repeat' first
   | (with_reducible exact ih0 _ _ _ _)
   | (with_reducible exact LeO.refl _)
   | (with_reducible exact LeO.none _)
   | (with_reducible refine LeO.ite ?_ ?_)
   | (with_reducible refine LeO.bind ?_ (fun _ => ?_))
   | exact ih0 _ _ _ _
   | exact LeO.none _
   | refine LeO.ite ?_ ?_
   | refine LeO.bind ?_ (fun _ => ?_)
set_option maxHeartbeats 8000000 in
set_option maxRecDepth 10000000 in
theorem signal_ascending.calls (k : Nat) (A0 : Option Addr) (c0 : Nat) (l0 : List Int) (r : Bool) (w : World) (hr0 : Kd.C (Kd.int .i64) w A0 l0.length l0) (hc0 : l0.length ≤ c0) (h : signal_ascending.f k l0 = some r) :
  Calls Tryd.prog 49 #[.slice A0 l0.length c0] w fun e w' => e = .returned (.bool r) ∧ Below w.heap.size w w' := by
 have HR0 := Zk hr0
 have HC0 := Zk hc0
 clear hr0 hc0
 have HB := Zk (Below.refl w.heap.size w)
 have H : (signal_ascending.l0 k l0 l0 (l0.length : Int) 0) = some r := h
 clear h
 have H' := Zk H
 clear H
 go_enter Tryd.func49, Tryd.ntmps49
 go_wp2
 go_loopg [7] k (fun kq v7 w' => ∃ (x7_1 : Int), v7 = .int .i64 x7_1 ∧ Aside0 (signal_ascending.l0 kq l0 l0 (l0.length : Int) x7_1 = some r) ∧ Aside0 (kq ≤ k) ∧ Aside0 (Below w.heap.size w w'))
 case atStart => exact ⟨(0), (by first | rfl | (simp; done) | (simp [*]; done) | (generalize ByteArray.toList _ = l_; cases l_ <;> rfl)), H', ⟨Nat.le_refl _⟩, ⟨by repeat (first | (with_reducible first | exact HB.out | apply below_alloc | apply pw_below_drewN | apply below_drew1) | exact HB.out)⟩⟩
 case round =>
  clear H'
  obtain ⟨x7_1, rfl, HA, HK1, HB⟩ := hrel
  cases gk with
  | zero => exact absurd HA.out (by simp [signal_ascending.l0])
  | succ k1 =>
   have H := HA.out
   clear HA
   simp only [signal_ascending.l0] at H
   by_cases c2 : x7_1 < (l0.length : Int)
   ·rw [if_pos c2] at H
    have c2b0 : decide (x7_1 < (l0.length : Int)) = true := decide_eq_true c2
    clear c2
    by_cases c3 : 0 ≤ x7_1
    ·rw [if_pos c3] at H
     have c3b0 : decide (0 ≤ x7_1) = true := decide_eq_true c3
     clear c3
     by_cases c4 : x7_1 < (l0.length : Int)
     ·rw [if_pos c4] at H
      have c4b0 : decide (x7_1 < (l0.length : Int)) = true := decide_eq_true c4
      clear c4
      replace H := Option.bind_eq_some_iff.mp H
      obtain ⟨t641, A50, H⟩ := H
      replace H : (if t641.toList = ([] : List UInt8) then (some false) else (if x7_1 > 0 then (if 0 ≤ (wrap64 (x7_1 - 1)) then (if (wrap64 (x7_1 - 1)) < (l0.length : Int) then (if (rd l0 x7_1) ≤ (rd l0 (wrap64 (x7_1 - 1))) then (some false) else (signal_ascending.l0 k1 l0 l0 (l0.length : Int) (wrap64 (x7_1 + 1)))) else (none)) else (none)) else (signal_ascending.l0 k1 l0 l0 (l0.length : Int) (wrap64 (x7_1 + 1))))) = some r := H
      have A5 := Zk A50
      clear A50
      by_cases c6 : t641.toList = ([] : List UInt8)
      ·rw [if_pos c6] at H
       have c6b0 : (t641.toList == ([] : List UInt8)) = true := beq_iff_eq.mpr c6
       have c6b1 : (t641.toList != ([] : List UInt8)) = false := bne_eq_false_iff_eq.mpr c6
       clear c6
       obtain rfl := Option.some.inj H
       have p640 : 0 ≤ (x7_1 : Int) := of_decide_eq_true (by first | (with_reducible assumption) | assumption)
       have q640 : x7_1 < (l0.length : Int) := of_decide_eq_true (by first | (with_reducible assumption) | assumption)
       obtain ⟨ad640, e640, hx640_0⟩ := Kd.at_int HR0.out x7_1 p640 q640
       cases e640
       replace hx640_0 := (HB.out.cell (World.block_lt_of_cell? w _ hx640_0)).trans hx640_0
       replace p640 := eq_true p640
       replace q640 := eq_true q640
       go_wp2_with (first | ((with_reducible refine gate_callee (f := 13) rfl ?_); refine goesL_ (some 13) rfl rfl Tryd.func13 (by kernel_rfl) rfl #[.int .i64 (rd l0 x7_1)] rfl (by (try simp only [List.map_toArray, List.map_cons, List.map_nil]); first | done | rfl | (simp only [List.length_drop, List.length_take]; rfl)) ?_; (with_reducible refine (signal_Name.calls (rd l0 x7_1) t641 _ A5.out).mono ?_); rintro e w7 ⟨rfl, hb⟩; refine ⟨_, rfl, ?_⟩; have n0_ := Zk (below_step (by repeat (first | (with_reducible first | exact HB.out | apply below_alloc | apply pw_below_drewN | apply below_drew1) | exact HB.out)) hb); clear HB; have HB := n0_; clear n0_; (try clear hb); (try clear hb2); (try clear hk); (try clear hi)))
       go_ret
       exact ⟨by first | rfl | (simp [errW_none, errW_some] <;> rfl) | (simp [*, errW_none, errW_some] <;> rfl), by repeat (first | (with_reducible first | exact HB.out | apply below_alloc | apply pw_below_drewN | apply below_drew1) | exact HB.out)⟩
      ·rw [if_neg c6] at H
       have c6b0 : (t641.toList == ([] : List UInt8)) = false := beq_eq_false_iff_ne.mpr c6
       have c6b1 : (t641.toList != ([] : List UInt8)) = true := bne_iff_ne.mpr c6
       by_cases c8 : x7_1 > 0
       ·rw [if_pos c8] at H
        have c8b0 : decide (0 < x7_1) = true := decide_eq_true c8
        clear c8
        obtain ⟨ji9, hji9⟩ : ∃ j_ : Int, (wrap64 (x7_1 - 1)) = j_ := ⟨_, rfl⟩
        replace H : (if 0 ≤ (ji9) then (if (ji9) < (l0.length : Int) then (if (rd l0 x7_1) ≤ (rd l0 (ji9)) then (some false) else (signal_ascending.l0 k1 l0 l0 (l0.length : Int) (wrap64 (x7_1 + 1)))) else (none)) else (none)) = some r := by first | (rw [hji9] at H; exact H) | (simp only [hji9] at H ⊢; exact H)
        (try rw [hji9] at A5)
        have hji9w : (IntKind.i64.wrap (x7_1 - 1)) = ji9 := (i64_w _).trans hji9
        by_cases c10 : 0 ≤ (ji9)
        ·rw [if_pos c10] at H
         have c10b0 : decide (0 ≤ (ji9)) = true := decide_eq_true c10
         clear c10
         by_cases c11 : (ji9) < (l0.length : Int)
         ·rw [if_pos c11] at H
          have c11b0 : decide ((ji9) < (l0.length : Int)) = true := decide_eq_true c11
          clear c11
          by_cases c12 : (rd l0 x7_1) ≤ (rd l0 (ji9))
          ·rw [if_pos c12] at H
           have c12b0 : decide ((rd l0 x7_1) ≤ (rd l0 (ji9))) = true := decide_eq_true c12
           clear c12
           obtain rfl := Option.some.inj H
           have p640 : 0 ≤ (x7_1 : Int) := of_decide_eq_true (by first | (with_reducible assumption) | assumption)
           have q640 : x7_1 < (l0.length : Int) := of_decide_eq_true (by first | (with_reducible assumption) | assumption)
           obtain ⟨ad640, e640, hx640_0⟩ := Kd.at_int HR0.out x7_1 p640 q640
           cases e640
           replace hx640_0 := (HB.out.cell (World.block_lt_of_cell? w _ hx640_0)).trans hx640_0
           replace p640 := eq_true p640
           replace q640 := eq_true q640
           go_wp2_with (first | ((with_reducible refine gate_callee (f := 13) rfl ?_); refine goesL_ (some 13) rfl rfl Tryd.func13 (by kernel_rfl) rfl #[.int .i64 (rd l0 x7_1)] rfl (by (try simp only [List.map_toArray, List.map_cons, List.map_nil]); first | done | rfl | (simp only [List.length_drop, List.length_take]; rfl)) ?_; (with_reducible refine (signal_Name.calls (rd l0 x7_1) t641 _ A5.out).mono ?_); rintro e w13 ⟨rfl, hb⟩; refine ⟨_, rfl, ?_⟩; have n0_ := Zk (below_step (by repeat (first | (with_reducible first | exact HB.out | apply below_alloc | apply pw_below_drewN | apply below_drew1) | exact HB.out)) hb); clear HB; have HB := n0_; clear n0_; (try clear hb); (try clear hb2); (try clear hk); (try clear hi); have p642 : 0 ≤ ((ji9) : Int) := of_decide_eq_true (by first | (with_reducible assumption) | assumption); have q642 : (ji9) < (l0.length : Int) := of_decide_eq_true (by first | (with_reducible assumption) | assumption); obtain ⟨ad642, e642, hx642_0⟩ := Kd.at_int HR0.out (ji9) p642 q642; obtain rfl : ad640 = ad642 := (by injection e642); replace hx642_0 := (HB.out.cell (World.block_lt_of_cell? w _ hx642_0)).trans hx642_0; replace p642 := eq_true p642; replace q642 := eq_true q642))
           go_ret
           exact ⟨by first | rfl | (simp [errW_none, errW_some] <;> rfl) | (simp only [← hji9]; first | rfl | (simp [errW_none, errW_some] <;> rfl)) | (simp [*, errW_none, errW_some] <;> rfl), by repeat (first | (with_reducible first | exact HB.out | apply below_alloc | apply pw_below_drewN | apply below_drew1) | exact HB.out)⟩
          ·rw [if_neg c12] at H
           have c12b0 : decide ((rd l0 x7_1) ≤ (rd l0 (ji9))) = false := decide_eq_false c12
           clear c12
           have H' := Zk H
           clear H
           have p640 : 0 ≤ (x7_1 : Int) := of_decide_eq_true (by first | (with_reducible assumption) | assumption)
           have q640 : x7_1 < (l0.length : Int) := of_decide_eq_true (by first | (with_reducible assumption) | assumption)
           obtain ⟨ad640, e640, hx640_0⟩ := Kd.at_int HR0.out x7_1 p640 q640
           cases e640
           replace hx640_0 := (HB.out.cell (World.block_lt_of_cell? w _ hx640_0)).trans hx640_0
           replace p640 := eq_true p640
           replace q640 := eq_true q640
           go_wp2_with (first | ((with_reducible refine gate_callee (f := 13) rfl ?_); refine goesL_ (some 13) rfl rfl Tryd.func13 (by kernel_rfl) rfl #[.int .i64 (rd l0 x7_1)] rfl (by (try simp only [List.map_toArray, List.map_cons, List.map_nil]); first | done | rfl | (simp only [List.length_drop, List.length_take]; rfl)) ?_; (with_reducible refine (signal_Name.calls (rd l0 x7_1) t641 _ A5.out).mono ?_); rintro e w14 ⟨rfl, hb⟩; refine ⟨_, rfl, ?_⟩; have n0_ := Zk (below_step (by repeat (first | (with_reducible first | exact HB.out | apply below_alloc | apply pw_below_drewN | apply below_drew1) | exact HB.out)) hb); clear HB; have HB := n0_; clear n0_; (try clear hb); (try clear hb2); (try clear hk); (try clear hi); have p642 : 0 ≤ ((ji9) : Int) := of_decide_eq_true (by first | (with_reducible assumption) | assumption); have q642 : (ji9) < (l0.length : Int) := of_decide_eq_true (by first | (with_reducible assumption) | assumption); obtain ⟨ad642, e642, hx642_0⟩ := Kd.at_int HR0.out (ji9) p642 q642; obtain rfl : ad640 = ad642 := (by injection e642); replace hx642_0 := (HB.out.cell (World.block_lt_of_cell? w _ hx642_0)).trans hx642_0; replace p642 := eq_true p642; replace q642 := eq_true q642))
           go_roundg k1
           case measure => have := HK1.out; omega
           case rel => exact ⟨(wrap64 (x7_1 + 1)), (by first | rfl | (simp; done) | (simp [*]; done) | (generalize ByteArray.toList _ = l_; cases l_ <;> rfl)), H', ⟨by have := HK1.out; omega⟩, ⟨by repeat (first | (with_reducible first | exact HB.out | apply below_alloc | apply pw_below_drewN | apply below_drew1) | exact HB.out)⟩⟩
         ·rw [if_neg c11] at H
          exact absurd H (by simp)
        ·rw [if_neg c10] at H
         exact absurd H (by simp)
       ·rw [if_neg c8] at H
        have c8b0 : decide (0 < x7_1) = false := decide_eq_false c8
        clear c8
        have H' := Zk H
        clear H
        have p640 : 0 ≤ (x7_1 : Int) := of_decide_eq_true (by first | (with_reducible assumption) | assumption)
        have q640 : x7_1 < (l0.length : Int) := of_decide_eq_true (by first | (with_reducible assumption) | assumption)
        obtain ⟨ad640, e640, hx640_0⟩ := Kd.at_int HR0.out x7_1 p640 q640
        cases e640
        replace hx640_0 := (HB.out.cell (World.block_lt_of_cell? w _ hx640_0)).trans hx640_0
        replace p640 := eq_true p640
        replace q640 := eq_true q640
        go_wp2_with (first | ((with_reducible refine gate_callee (f := 13) rfl ?_); refine goesL_ (some 13) rfl rfl Tryd.func13 (by kernel_rfl) rfl #[.int .i64 (rd l0 x7_1)] rfl (by (try simp only [List.map_toArray, List.map_cons, List.map_nil]); first | done | rfl | (simp only [List.length_drop, List.length_take]; rfl)) ?_; (with_reducible refine (signal_Name.calls (rd l0 x7_1) t641 _ A5.out).mono ?_); rintro e w15 ⟨rfl, hb⟩; refine ⟨_, rfl, ?_⟩; have n0_ := Zk (below_step (by repeat (first | (with_reducible first | exact HB.out | apply below_alloc | apply pw_below_drewN | apply below_drew1) | exact HB.out)) hb); clear HB; have HB := n0_; clear n0_; (try clear hb); (try clear hb2); (try clear hk); (try clear hi)))
        go_roundg k1
        case measure => have := HK1.out; omega
        case rel => exact ⟨(wrap64 (x7_1 + 1)), (by first | rfl | (simp; done) | (simp [*]; done) | (generalize ByteArray.toList _ = l_; cases l_ <;> rfl)), H', ⟨by have := HK1.out; omega⟩, ⟨by repeat (first | (with_reducible first | exact HB.out | apply below_alloc | apply pw_below_drewN | apply below_drew1) | exact HB.out)⟩⟩
     ·rw [if_neg c4] at H
      exact absurd H (by simp)
    ·rw [if_neg c3] at H
     exact absurd H (by simp)
   ·rw [if_neg c2] at H
    have c2b0 : decide (x7_1 < (l0.length : Int)) = false := decide_eq_false c2
    clear c2
    obtain rfl := Option.some.inj H
    go_wp2
    go_ret
    exact ⟨by first | rfl | (simp [errW_none, errW_some] <;> rfl) | (simp [*, errW_none, errW_some] <;> rfl), by repeat (first | (with_reducible first | exact HB.out | apply below_alloc | apply pw_below_drewN | apply below_drew1) | exact HB.out)⟩
end Go.Proofs.YtnkkdpjipfjdaaaDoor.Q
end
section
namespace Go.Proofs.YtnkkdpjipfjdaaaDoorM
open Go Go.RowKit Go.Proofs.YtnkkdpjipfjdaaaDoorW.PrintWords
section
variable {α β : Type} {A B : Nat → Option α} {r : α} {c : Prop} [Decidable c]
theorem ev_pos (h : c) (k : Ev A r) : Ev (fun n => if c then A n else B n) r := by
  obtain ⟨K, k⟩ := k
  exact ⟨K, fun n hn => (if_pos h).trans (k n hn)⟩
theorem ev_neg (h : ¬ c) (k : Ev B r) : Ev (fun n => if c then A n else B n) r := by
  obtain ⟨K, k⟩ := k
  exact ⟨K, fun n hn => (if_neg h).trans (k n hn)⟩
theorem ev_some {x : Option α} (h : x = some r) : Ev (fun _ => x) r := ⟨0, fun _ _ => h⟩
theorem ev_bindc {x : Option β} {a : β} {f : Nat → β → Option α} (h : x = some a) (k : Ev (fun n => f n a) r) : Ev (fun n => x.bind (f n)) r := by
  obtain ⟨K, k⟩ := k
  exact ⟨K, fun n hn => by show x.bind (f n) = some r; rw [h]; exact k n hn⟩
theorem ev_eq {g : Nat → Option α} {r r' : α} (h : Ev g r) (e : r = r') : Ev g r' := e ▸ h
end
theorem wrap_in {x : Int} (h0 : -9223372036854775808 ≤ x) (h1 : x ≤ 9223372036854775807) : wrap64 x = x := by
  unfold wrap64
  omega
end Go.Proofs.YtnkkdpjipfjdaaaDoorM

end
section
namespace Go.Proofs.YtnkkdpjipfjdaaaDoor.Sg
open Go.RowKit Go.Proofs.YtnkkdpjipfjdaaaDoor.Q Go.Proofs.YtnkkdpjipfjdaaaDoorW.PrintWords Go.Proofs.YtnkkdpjipfjdaaaDoorW.PrintLast Go.Proofs.YtnkkdpjipfjdaaaDoorM Go.Proofs.YtnkkdpjipfjdaaaDoor.Ix
set_option linter.unusedVariables false
theorem awake_30 : jobshelllaw25_awake.f 30 = some true := by kernel_rfl
theorem awake_ev : Ev (fun k => jobshelllaw25_awake.f k) true := by
  refine ⟨30, fun k hk => ?_⟩
  obtain ⟨d, rfl⟩ : ∃ d, k = 30 + d := ⟨k - 30, by omega⟩
  clear hk
  induction d with
  | zero => exact awake_30
  | succ d ih => exact jobshelllaw25_awake.mono (30 + d) _ ih
theorem in21 {n : Int} (h0 : 0 ≤ n) (h1 : n ≤ 20) : n = 0 ∨ n = 1 ∨ n = 2 ∨ n = 3 ∨ n = 4 ∨ n = 5 ∨ n = 6 ∨ n = 7 ∨ n = 8 ∨ n = 9 ∨ n = 10 ∨ n = 11 ∨ n = 12 ∨ n = 13 ∨ n = 14 ∨ n = 15 ∨ n = 16 ∨ n = 17 ∨ n = 18 ∨ n = 19 ∨ n = 20 := by omega
theorem name_out {n : Int} (h : ¬ (0 ≤ n ∧ n ≤ 20)) : sigName n = ⟨#[]⟩ := by
  unfold sigName
  by_cases h0 : 0 ≤ n
  · rw [if_pos h0]
    have : sigNames.length ≤ n.toNat := by show 21 ≤ _; omega
    rw [List.getD_eq_getElem?_getD, List.getElem?_eq_none this]
    rfl
  · rw [if_neg h0]
theorem name_eq (n : Int) : jobshellref25_Name.f n = some (sigName n) := by
  by_cases h : 0 ≤ n ∧ n ≤ 20
  · rcases in21 h.1 h.2 with h | h | h | h | h | h | h | h | h | h | h | h | h | h | h | h | h | h | h | h | h <;> subst h <;> rfl
  · rw [name_out h]
    unfold jobshellref25_Name.f
    repeat rw [if_neg (by omega)]
theorem name_f (n : Int) : signal_Name.f n = some (sigName n) := rfl
/-- A signal: a number with a name. -/
def named (n : Int) : Prop := ¬ (sigName n).toList = ([] : List UInt8)
instance (n : Int) : Decidable (named n) := inferInstanceAs (Decidable (¬ _))
theorem empty_toList : (⟨#[]⟩ : ByteArray).toList = ([] : List UInt8) := by kernel_rfl
theorem named_in {n : Int} (h : named n) : 1 ≤ n ∧ n ≤ 20 := by
  by_cases hr : 0 ≤ n ∧ n ≤ 20
  · by_cases h0 : n = 0
    · subst h0
      exact absurd (show (sigName 0).toList = [] by kernel_rfl) h
    · omega
  · rw [named, name_out hr] at h
    exact absurd empty_toList h
theorem drop_at (l : List Int) (i : Nat) (hi : i < l.length) : l.drop i = l.getD i 0 :: l.drop (i + 1) := by
  rw [List.drop_eq_getElem_cons hi, List.getD_eq_getElem?_getD, List.getElem?_eq_getElem hi]
  rfl
theorem has_from (l : List Int) (n : Int) (hl : l.length ≤ 1000) : ∀ (m i : Nat), i + m = l.length → Ev (fun k => jobshellref25_Has.l0 k l n (i : Int)) (decide (n ∈ l.drop i))
  | 0, i, h => Ev.step (fun k => by apply jobshellref25_Has.l0.eq_2) (ev_neg (by omega) (ev_some (by rw [List.drop_eq_nil_of_le (by omega)]; rfl)))
  | m + 1, i, h => by
    have hi : i < l.length := by omega
    have hd := drop_at l i hi
    have hr : rd l (i : Int) = l.getD i 0 := rfl
    refine Ev.step (fun k => by apply jobshellref25_Has.l0.eq_2) (ev_pos (by omega) (ev_pos (by omega) ?_))
    rw [hr]
    by_cases hq : l.getD i 0 = n
    · exact ev_pos hq (ev_some (by rw [hd, hq]; simp))
    · refine ev_neg hq ?_
      rw [wrap_in (by omega) (by omega), show (i : Int) + 1 = ((i + 1 : Nat) : Int) by omega]
      refine ev_eq (has_from l n hl m (i + 1) (by omega)) ?_
      rw [hd]
      exact decide_eq_decide.2 (by rw [List.mem_cons]; exact ⟨.inr, fun h => h.resolve_left (fun e => hq e.symm)⟩)
theorem has_ev (l : List Int) (n : Int) (hl : l.length ≤ 1000) : Ev (fun k => jobshellref25_Has.f k l n) (decide (n ∈ l)) := by
  have := has_from l n hl l.length 0 (by omega)
  rwa [List.drop_zero] at this
theorem index_from (l : List Int) (n : Int) (hl : l.length ≤ 1000) : ∀ (m i : Nat), i + m = l.length → ∃ r : Int, (r ≥ 0 ↔ n ∈ l.drop i) ∧ Ev (fun k => slices_Index_int_int.l0 k l n (l.length : Int) (i : Int)) r
  | 0, i, h => ⟨-1, by rw [List.drop_eq_nil_of_le (by omega)]; simp, Ev.step (fun k => by apply slices_Index_int_int.l0.eq_2) (ev_neg (by omega) (ev_some rfl))⟩
  | m + 1, i, h => by
    have hi : i < l.length := by omega
    have hd := drop_at l i hi
    have hr : rd l (i : Int) = l.getD i 0 := rfl
    by_cases hq : n = l.getD i 0
    · refine ⟨i, by rw [hd, ← hq]; simp, Ev.step (fun k => by apply slices_Index_int_int.l0.eq_2) (ev_pos (by omega) (ev_pos (by omega) (ev_pos (by omega) (ev_pos (by rw [hr]; exact hq) (ev_some rfl)))))⟩
    · obtain ⟨r, h1, h2⟩ := index_from l n hl m (i + 1) (by omega)
      refine ⟨r, by rw [h1, hd, List.mem_cons]; exact ⟨.inr, fun h => h.resolve_left hq⟩, Ev.step (fun k => by apply slices_Index_int_int.l0.eq_2) (ev_pos (by omega) (ev_pos (by omega) (ev_pos (by omega) (ev_neg (by rw [hr]; exact hq) ?_))))⟩
      rw [wrap_in (by omega) (by omega), show (i : Int) + 1 = ((i + 1 : Nat) : Int) by omega]
      exact h2
theorem contains_ev (l : List Int) (n : Int) (hl : l.length ≤ 1000) : Ev (fun k => slices_Contains_int_int.f k l n) (decide (n ∈ l)) := by
  obtain ⟨r, h1, h2⟩ := index_from l n hl l.length 0 (by omega)
  rw [List.drop_zero] at h1
  exact Ev.bind h2 (ev_some (congrArg some (decide_eq_decide.2 h1)))
/-- From i on, a list has signals only, each above the one ahead. -/
def okFrom (l : List Int) (i : Nat) : Prop := ∀ j, i ≤ j → j < l.length → named (l.getD j 0) ∧ (0 < j → l.getD (j - 1) 0 < l.getD j 0)
theorem ok_next {l : List Int} {i : Nat} (h : named (l.getD i 0) ∧ (0 < i → l.getD (i - 1) 0 < l.getD i 0)) : okFrom l i ↔ okFrom l (i + 1) := by
  constructor
  · exact fun k j h1 h2 => k j (by omega) h2
  · intro k j h1 h2
    by_cases e : j = i
    · subst e; exact h
    · exact k j (by omega) h2
theorem list_from (l : List Int) (hl : l.length ≤ 1000) : ∀ (m i : Nat), i + m = l.length → ∃ b : Bool, (b = true ↔ okFrom l i) ∧ Ev (fun k => jobshellref25_list.l0 k l (i : Int)) b
  | 0, i, h => ⟨true, ⟨fun _ j h1 h2 => by omega, fun _ => rfl⟩, Ev.step (fun k => by apply jobshellref25_list.l0.eq_2) (ev_neg (by omega) (ev_some rfl))⟩
  | m + 1, i, h => by
    have hi : i < l.length := by omega
    have hr : rd l (i : Int) = l.getD i 0 := rfl
    have go : ∀ {b : Bool} {g : Nat → Option Bool}, (∀ k, g k = (if ((sigName (l.getD i 0)).toList = ([] : List UInt8)) then some false else (if (i : Int) > 0 then (if 0 ≤ (wrap64 ((i : Int) - 1)) then (if (wrap64 ((i : Int) - 1)) < (l.length : Int) then (if (rd l (i : Int)) ≤ (rd l (wrap64 ((i : Int) - 1))) then (some false) else (jobshellref25_list.l0 k l (wrap64 ((i : Int) + 1)))) else (none)) else (none)) else (jobshellref25_list.l0 k l (wrap64 ((i : Int) + 1)))))) → Ev g b → Ev (fun k => jobshellref25_list.l0 k l (i : Int)) b := by
      intro b g hg hb
      refine Ev.step (fun k => by apply jobshellref25_list.l0.eq_2) (ev_pos (by omega) (ev_pos (by omega) ?_))
      refine ev_bindc (by rw [hr]; exact name_eq _) ?_
      exact Ev.congr (fun k => (hg k).symm) hb
    by_cases hn : named (l.getD i 0)
    · by_cases h0 : 0 < i
      · have hw : wrap64 ((i : Int) - 1) = ((i - 1 : Nat) : Int) := by rw [wrap_in (by omega) (by omega)]; omega
        have hr2 : rd l ((i - 1 : Nat) : Int) = l.getD (i - 1) 0 := rfl
        by_cases hle : l.getD i 0 ≤ l.getD (i - 1) 0
        · exact ⟨false, ⟨fun h => (by cases h), fun h => absurd ((h i (Nat.le_refl _) hi).2 h0) (by omega)⟩, go (fun k => rfl) (ev_neg hn (ev_pos (by omega) (by rw [hw]; exact ev_pos (by omega) (ev_pos (by omega) (ev_pos (by rw [hr, hr2]; exact hle) (ev_some rfl))))))⟩
        · obtain ⟨b, h1, h2⟩ := list_from l hl m (i + 1) (by omega)
          refine ⟨b, h1.trans (ok_next ⟨hn, fun _ => by omega⟩).symm, go (fun k => rfl) (ev_neg hn (ev_pos (by omega) (by rw [hw]; refine ev_pos (by omega) (ev_pos (by omega) (ev_neg (by rw [hr, hr2]; exact hle) ?_)); rw [wrap_in (by omega) (by omega), show (i : Int) + 1 = ((i + 1 : Nat) : Int) by omega]; exact h2)))⟩
      · obtain ⟨b, h1, h2⟩ := list_from l hl m (i + 1) (by omega)
        refine ⟨b, h1.trans (ok_next ⟨hn, fun h => absurd h h0⟩).symm, go (fun k => rfl) (ev_neg hn (ev_neg (by omega) (by rw [wrap_in (by omega) (by omega), show (i : Int) + 1 = ((i + 1 : Nat) : Int) by omega]; exact h2)))⟩
    · exact ⟨false, ⟨fun h => (by cases h), fun h => absurd (h i (Nat.le_refl _) hi).1 hn⟩, go (fun k => rfl) (ev_pos (Decidable.not_not.1 hn) (ev_some rfl))⟩
theorem asc_list (l : List Int) : ∀ (k : Nat) (i : Int), signal_ascending.l0 k l l (l.length : Int) i = jobshellref25_list.l0 k l i
  | 0, _ => rfl
  | k + 1, i => by
    unfold signal_ascending.l0 jobshellref25_list.l0
    by_cases h1 : i < (l.length : Int)
    · simp only [h1, if_true, name_f, name_eq, asc_list l k]
    · simp only [h1, if_false]
theorem list_ev (l : List Int) (hl : l.length ≤ 1000) : ∃ b : Bool, (b = true ↔ okFrom l 0) ∧ Ev (fun k => jobshellref25_list.f k l) b ∧ Ev (fun k => signal_ascending.f k l) b := by
  obtain ⟨b, h1, h2⟩ := list_from l hl l.length 0 (by omega)
  exact ⟨b, h1, h2, Ev.congr (fun k => asc_list l k 0) h2⟩
theorem ok_named {l : List Int} (h : okFrom l 0) {x : Int} (hx : x ∈ l) : named x := by
  obtain ⟨j, hj, rfl⟩ := List.getElem_of_mem hx
  have := (h j (Nat.zero_le _) hj).1
  rwa [List.getD_eq_getElem?_getD, List.getElem?_eq_getElem hj] at this
end Go.Proofs.YtnkkdpjipfjdaaaDoor.Sg

end
section
namespace Go.Proofs.YtnkkdpjipfjdaaaDoor.Sg
open Go.RowKit Go.Proofs.YtnkkdpjipfjdaaaDoor.Q Go.Proofs.YtnkkdpjipfjdaaaDoorW.PrintWords Go.Proofs.YtnkkdpjipfjdaaaDoorW.PrintLast Go.Proofs.YtnkkdpjipfjdaaaDoorM Go.Proofs.YtnkkdpjipfjdaaaDoor.Ix
set_option linter.unusedVariables false
set_option linter.unusedSectionVars false
theorem ite_iff {c d : Prop} [Decidable c] [Decidable d] {a b : Int} (h : c ↔ d) : (if c then a else b) = if d then a else b := by
  by_cases k : c
  · rw [if_pos k, if_pos (h.1 k)]
  · rw [if_neg k, if_neg (fun e => k (h.2 e))]
def stopsB (n : Int) : Bool := n == 19 || (n == 20 || (n == 4 || n == 5))
theorem stops_ref (n : Int) : jobshellref25_stops.f n = some (stopsB n) := by
  unfold jobshellref25_stops.f stopsB
  by_cases h1 : n = 19
  · subst h1; rfl
  · by_cases h2 : n = 20
    · subst h2; rfl
    · by_cases h3 : n = 4
      · subst h3; rfl
      · rw [if_neg h1, if_neg h2, if_neg h3, beq_eq_false_iff_ne.2 h1, beq_eq_false_iff_ne.2 h2, beq_eq_false_iff_ne.2 h3]; rfl
def badA (g c : List Int) (m : Int) : Prop := ((m = 9 ∨ m = 19) ∧ (m ∈ g ∨ m ∈ c)) ∨ (m ∈ g ∧ m ∈ c)
def badB (p g : List Int) (m : Int) : Prop := (m ≠ 18 ∧ m ∈ p ∧ m ∈ g) ∨ (stopsB m = true ∧ m ∈ p ∧ (18 : Int) ∈ p)
instance (g c : List Int) (m : Int) : Decidable (badA g c m) := by unfold badA; infer_instance
instance (p g : List Int) (m : Int) : Decidable (badB p g m) := by unfold badB; infer_instance
section
variable (p g c : List Int) (hp : p.length ≤ 1000) (hg : g.length ≤ 1000) (hc : c.length ≤ 1000)
include hp hg hc
theorem j4_ev (n : Int) (h0 : 1 ≤ n) (h1 : n ≤ 20) (x : Bool) (r : Int) (hr : Ev (fun k => jobshellref25_Valid.l1 k (n + 1) p g c) r) :
    Ev (fun k => jobshellref25_Valid.j4 k n x p g c) (if x = true ∨ (stopsB n = true ∧ n ∈ p ∧ (18 : Int) ∈ p) then 25 else r) := by
  refine Ev.step (fun k => by apply jobshellref25_Valid.j4.eq_2) ?_
  cases x with
  | true => rw [if_pos (.inl rfl)]; exact ev_pos rfl (ev_some rfl)
  | false =>
    refine ev_neg (by simp) (ev_bindc (stops_ref n) ?_)
    rw [wrap_in (by omega) (by omega)]
    by_cases hs : stopsB n = true
    · refine ev_pos hs (Ev.bind (has_ev p n hp) ?_)
      by_cases hn : n ∈ p
      · refine ev_pos (decide_eq_true hn) (Ev.bind (has_ev p 18 hp) ?_)
        by_cases h18 : (18 : Int) ∈ p
        · rw [if_pos (.inr ⟨hs, hn, h18⟩)]; exact ev_pos (decide_eq_true h18) (ev_some rfl)
        · rw [if_neg (fun h => h.elim (by simp) (fun h => h18 h.2.2))]; exact ev_neg (by simp [h18]) hr
      · rw [if_neg (fun h => h.elim (by simp) (fun h => hn h.2.1))]; exact ev_neg (by simp [hn]) hr
    · rw [if_neg (fun h => h.elim (by simp) (fun h => hs h.1))]; exact ev_neg hs hr
theorem l1_ev : ∀ (m : Nat) (n : Int), 1 ≤ n → n + m = 21 → ∃ r : Int, Ev (fun k => jobshellref25_Valid.l1 k n p g c) r ∧ ((r = 25 ∧ ∃ x, n ≤ x ∧ x ≤ 20 ∧ badB p g x) ∨ (r = 0 ∧ ∀ x, n ≤ x → x ≤ 20 → ¬ badB p g x))
  | 0, n, h0, h => ⟨0, Ev.step (fun k => by apply jobshellref25_Valid.l1.eq_2) (ev_neg (by omega) (ev_some rfl)), .inr ⟨rfl, fun x h1 h2 => by omega⟩⟩
  | m + 1, n, h0, h => by
    obtain ⟨r, h1, h2⟩ := l1_ev m (n + 1) (by omega) (by omega)
    refine ⟨if badB p g n then 25 else r, ?_, ?_⟩
    · refine Ev.step (fun k => by apply jobshellref25_Valid.l1.eq_2) (ev_pos (by omega) ?_)
      by_cases h18 : n = 18
      · refine ev_pos h18 (ev_eq (j4_ev p g c hp hg hc n h0 (by omega) false r h1) ?_)
        refine ite_iff ?_
        unfold badB
        constructor
        · exact fun h => h.elim (by simp) .inr
        · exact fun h => h.elim (fun h => absurd h18 h.1) .inr
      · refine ev_neg h18 (Ev.bind (has_ev p n hp) ?_)
        by_cases hn : n ∈ p
        · refine ev_pos (decide_eq_true hn) (Ev.bind (has_ev g n hg) (ev_eq (j4_ev p g c hp hg hc n h0 (by omega) _ r h1) ?_))
          refine ite_iff ?_
          unfold badB
          simp only [decide_eq_true_eq]
          constructor
          · exact fun h => h.elim (fun h => .inl ⟨h18, hn, h⟩) .inr
          · exact fun h => h.elim (fun h => .inl h.2.2) .inr
        · refine ev_neg (by simp [hn]) (ev_eq (j4_ev p g c hp hg hc n h0 (by omega) false r h1) ?_)
          refine ite_iff ?_
          unfold badB
          constructor
          · exact fun h => h.elim (by simp) .inr
          · exact fun h => h.elim (fun h => absurd h.2.1 hn) .inr
    · by_cases hb : badB p g n
      · rw [if_pos hb]; exact .inl ⟨rfl, n, Int.le_refl _, by omega, hb⟩
      · rw [if_neg hb]
        rcases h2 with ⟨e, x, x1, x2, x3⟩ | ⟨e, hx⟩
        · exact .inl ⟨e, x, by omega, x2, x3⟩
        · refine .inr ⟨e, fun x x1 x2 => ?_⟩
          by_cases hxn : x = n
          · subst hxn; exact hb
          · exact hx x (by omega) x2
theorem j2_ev (n : Int) (h0 : 1 ≤ n) (h1 : n ≤ 20) (x : Bool) (hx : x = true ↔ n = 9 ∨ n = 19) (r : Int) (hr : Ev (fun k => jobshellref25_Valid.l0 k (n + 1) p g c) r) :
    Ev (fun k => jobshellref25_Valid.j2 k n x p g c) (if badA g c n then 1 else r) := by
  refine Ev.step (fun k => by apply jobshellref25_Valid.j2.eq_2) ?_
  rw [wrap_in (by omega) (by omega)]
  by_cases h9 : n = 9 ∨ n = 19
  · refine ev_pos (hx.2 h9) (Ev.bind (has_ev g n hg) ?_)
    by_cases hn : n ∈ g
    · rw [if_pos (.inl ⟨h9, .inl hn⟩)]; exact ev_pos (decide_eq_true hn) (ev_some rfl)
    · refine ev_neg (by simp [hn]) (Ev.bind (has_ev c n hc) ?_)
      by_cases hm : n ∈ c
      · rw [if_pos (.inl ⟨h9, .inr hm⟩)]; exact ev_pos (decide_eq_true hm) (ev_some rfl)
      · rw [if_neg (fun h => h.elim (fun h => h.2.elim hn hm) (fun h => hn h.1))]; exact ev_neg (by simp [hm]) hr
  · refine ev_neg (fun h => h9 (hx.1 h)) (Ev.bind (has_ev g n hg) ?_)
    by_cases hn : n ∈ g
    · refine ev_pos (decide_eq_true hn) (Ev.bind (has_ev c n hc) ?_)
      by_cases hm : n ∈ c
      · rw [if_pos (.inr ⟨hn, hm⟩)]; exact ev_pos (decide_eq_true hm) (ev_some rfl)
      · rw [if_neg (fun h => h.elim (fun h => h9 h.1) (fun h => hm h.2))]; exact ev_neg (by simp [hm]) hr
    · rw [if_neg (fun h => h.elim (fun h => h9 h.1) (fun h => hn h.1))]; exact ev_neg (by simp [hn]) hr
theorem l0_ev (r1 : Int) (hr1 : Ev (fun k => jobshellref25_Valid.l1 k 1 p g c) r1) : ∀ (m : Nat) (n : Int), 1 ≤ n → n + m = 21 → ∃ r : Int, Ev (fun k => jobshellref25_Valid.l0 k n p g c) r ∧ ((r = 1 ∧ ∃ x, n ≤ x ∧ x ≤ 20 ∧ badA g c x) ∨ (r = r1 ∧ ∀ x, n ≤ x → x ≤ 20 → ¬ badA g c x))
  | 0, n, h0, h => ⟨r1, Ev.step (fun k => by apply jobshellref25_Valid.l0.eq_2) (ev_neg (by omega) hr1), .inr ⟨rfl, fun x h1 h2 => by omega⟩⟩
  | m + 1, n, h0, h => by
    obtain ⟨r, h1, h2⟩ := l0_ev r1 hr1 m (n + 1) (by omega) (by omega)
    refine ⟨if badA g c n then 1 else r, ?_, ?_⟩
    · refine Ev.step (fun k => by apply jobshellref25_Valid.l0.eq_2) (ev_pos (by omega) ?_)
      by_cases h9 : n = 9
      · exact ev_pos h9 (j2_ev p g c hp hg hc n h0 (by omega) true ⟨fun _ => .inl h9, fun _ => rfl⟩ r h1)
      · exact ev_neg h9 (j2_ev p g c hp hg hc n h0 (by omega) (n == 19) ⟨fun h => .inr (beq_iff_eq.1 h), fun h => beq_iff_eq.2 (h.resolve_left h9)⟩ r h1)
    · by_cases hb : badA g c n
      · rw [if_pos hb]; exact .inl ⟨rfl, n, Int.le_refl _, by omega, hb⟩
      · rw [if_neg hb]
        rcases h2 with ⟨e, x, x1, x2, x3⟩ | ⟨e, hx⟩
        · exact .inl ⟨e, x, by omega, x2, x3⟩
        · refine .inr ⟨e, fun x x1 x2 => ?_⟩
          by_cases hxn : x = n
          · subst hxn; exact hb
          · exact hx x (by omega) x2
/-- What the reference's Valid answers. -/
theorem valid_ref : ∃ r : Int, Ev (fun k => jobshellref25_Valid.f k p g c) r ∧
    ((r = 1 ∧ ¬ (okFrom p 0 ∧ okFrom g 0 ∧ okFrom c 0)) ∨
     ((okFrom p 0 ∧ okFrom g 0 ∧ okFrom c 0) ∧ ((r = 1 ∧ ∃ x, badA g c x) ∨ ((∀ x, ¬ badA g c x) ∧ ((r = 25 ∧ ∃ x, badB p g x) ∨ (r = 0 ∧ ∀ x, ¬ badB p g x)))))) := by
  obtain ⟨b1, e1, f1, _⟩ := list_ev p hp
  obtain ⟨b2, e2, f2, _⟩ := list_ev g hg
  obtain ⟨b3, e3, f3, _⟩ := list_ev c hc
  have out : Ev (fun k => jobshellref25_Valid.j0 k true p g c) 1 := Ev.step (fun k => by apply jobshellref25_Valid.j0.eq_2) (ev_pos rfl (ev_some rfl))
  cases b1 with
  | false => exact ⟨1, Ev.bind f1 (ev_neg (by simp) out), .inl ⟨rfl, fun h => by simpa using e1.2 h.1⟩⟩
  | true =>
    cases b2 with
    | false => exact ⟨1, Ev.bind f1 (ev_pos rfl (Ev.bind f2 (ev_neg (by simp) out))), .inl ⟨rfl, fun h => by simpa using e2.2 h.2.1⟩⟩
    | true =>
      cases b3 with
      | false => exact ⟨1, Ev.bind f1 (ev_pos rfl (Ev.bind f2 (ev_pos rfl (Ev.bind f3 out)))), .inl ⟨rfl, fun h => by simpa using e3.2 h.2.2⟩⟩
      | true =>
        have k1 := e1.1 rfl
        have k2 := e2.1 rfl
        have k3 := e3.1 rfl
        obtain ⟨r1, g1, s1⟩ := l1_ev p g c hp hg hc 20 1 (by omega) (by omega)
        obtain ⟨r0, g0, s0⟩ := l0_ev p g c hp hg hc r1 g1 20 1 (by omega) (by omega)
        have hA : ∀ x, badA g c x → 1 ≤ x ∧ x ≤ 20 := fun x h => h.elim (fun h => h.2.elim (fun h => named_in (ok_named k2 h)) (fun h => named_in (ok_named k3 h))) (fun h => named_in (ok_named k2 h.1))
        have hB : ∀ x, badB p g x → 1 ≤ x ∧ x ≤ 20 := fun x h => h.elim (fun h => named_in (ok_named k1 h.2.1)) (fun h => named_in (ok_named k1 h.2.1))
        refine ⟨r0, Ev.bind f1 (ev_pos rfl (Ev.bind f2 (ev_pos rfl (Ev.bind f3 (Ev.step (fun k => by apply jobshellref25_Valid.j0.eq_2) (ev_neg (by simp) g0)))))), .inr ⟨⟨k1, k2, k3⟩, ?_⟩⟩
        rcases s0 with ⟨e, x, _, _, hx⟩ | ⟨e, hx⟩
        · exact .inl ⟨e, x, hx⟩
        · refine .inr ⟨fun x h => hx x (hA x h).1 (hA x h).2 h, ?_⟩
          rcases s1 with ⟨e', y, _, _, hy⟩ | ⟨e', hy⟩
          · exact .inl ⟨e.trans e', y, hy⟩
          · exact .inr ⟨e.trans e', fun x h => hy x (hB x h).1 (hB x h).2 h⟩
end
end Go.Proofs.YtnkkdpjipfjdaaaDoor.Sg

end
section
namespace Go.Proofs.YtnkkdpjipfjdaaaDoor.Sg
open Go.RowKit Go.Proofs.YtnkkdpjipfjdaaaDoor.Q Go.Proofs.YtnkkdpjipfjdaaaDoorW.PrintWords Go.Proofs.YtnkkdpjipfjdaaaDoorW.PrintLast Go.Proofs.YtnkkdpjipfjdaaaDoorM Go.Proofs.YtnkkdpjipfjdaaaDoor.Ix
set_option linter.unusedVariables false
theorem less_f (x y : Int) : cmp_Less_int.f x y = some (decide (x < y)) := by
  have h : cmp_isNaN_int.f x = some false := by unfold cmp_isNaN_int.f; simp
  unfold cmp_Less_int.f
  rw [h, Option.bind_some, if_neg Bool.false_ne_true]
theorem nan_f (x : Int) : slices_isNaN_int.f x = some false := by unfold slices_isNaN_int.f; simp
theorem mid_eq (s : Int) (h0 : 0 ≤ s) (h1 : s ≤ 4000) : wrap64 ((IntKind.u64.wrap (wrap64 s)) / 2) = s / 2 := by
  rw [wrap_in (x := s) (by omega) (by omega), show IntKind.u64.wrap s = s by rw [IntKind.wrap_u64]; omega, wrap_in (by omega) (by omega)]
/-- Below p, a list is below x; from p on it is not. -/
def cutAt (l : List Int) (x : Int) (p : Nat) : Prop := p ≤ l.length ∧ (∀ q, q < p → l.getD q 0 < x) ∧ ∀ q, p ≤ q → q < l.length → x ≤ l.getD q 0
theorem asc_get {l : List Int} (h : okFrom l 0) : ∀ (d i : Nat), i + d < l.length → l.getD i 0 ≤ l.getD (i + d) 0
  | 0, i, _ => Int.le_refl _
  | d + 1, i, hd => by
    have h1 := asc_get h d i (by omega)
    have h2 := (h (i + d + 1) (Nat.zero_le _) (by omega)).2 (by omega)
    rw [Nat.add_sub_cancel] at h2
    rw [← Nat.add_assoc]
    omega
theorem bs_from (l : List Int) (x : Int) (hl : l.length ≤ 1000) (ha : okFrom l 0) : ∀ (d i j : Nat), j = i + d → j ≤ l.length → (∀ q, q < i → l.getD q 0 < x) → (∀ q, j ≤ q → q < l.length → x ≤ l.getD q 0) →
    ∃ p : Nat, cutAt l x p ∧ Ev (fun k => slices_BinarySearch_int_int.l0 k l x (l.length : Int) (i : Int) (j : Int)) ((p : Int), decide (p < l.length ∧ l.getD p 0 = x)) := by
  intro d
  induction d using Nat.strongRecOn with
  | ind d ih =>
    intro i j hj hjl h1 h2
    by_cases hd : d = 0
    · subst hd
      obtain rfl : i = j := by omega
      refine ⟨i, ⟨hjl, h1, h2⟩, Ev.step (fun k => by apply slices_BinarySearch_int_int.l0.eq_2) (ev_neg (by omega) ?_)⟩
      by_cases hi : i < l.length
      · refine ev_pos (by omega) (ev_pos (by omega) (ev_pos (by omega) ?_))
        have hr : rd l (i : Int) = l.getD i 0 := rfl
        rw [hr]
        by_cases hx : l.getD i 0 = x
        · exact ev_pos hx (ev_some (by rw [decide_eq_true (p := _ ∧ _) ⟨hi, hx⟩]))
        · refine ev_neg hx (ev_bindc (nan_f _) ?_)
          exact ev_neg Bool.false_ne_true (ev_some (by rw [decide_eq_false (p := _ ∧ _) (fun h => hx h.2)]))
      · exact ev_neg (by omega) (ev_some (by rw [decide_eq_false (p := _ ∧ _) (fun h => hi h.1)]))
    · have hm := mid_eq ((i : Int) + (j : Int)) (by omega) (by omega)
      obtain ⟨m, hmm⟩ : ∃ m : Nat, m = (i + j) / 2 := ⟨_, rfl⟩
      have hmi : ((i : Int) + (j : Int)) / 2 = (m : Int) := by omega
      rw [hmi] at hm
      have hr : rd l (m : Int) = l.getD m 0 := rfl
      by_cases hlt : l.getD m 0 < x
      · obtain ⟨p, hp, hev⟩ := ih (j - (m + 1)) (by omega) (m + 1) j (by omega) hjl (fun q hq => by
          have := asc_get ha (m - q) q (by omega)
          rw [show q + (m - q) = m by omega] at this
          omega) h2
        refine ⟨p, hp, Ev.step (fun k => by apply slices_BinarySearch_int_int.l0.eq_2) (ev_pos (by omega) ?_)⟩
        rw [hm]
        refine ev_pos (by omega) (ev_pos (by omega) (ev_bindc (less_f _ _) ?_))
        rw [hr]
        refine ev_pos (decide_eq_true hlt) ?_
        rw [wrap_in (by omega) (by omega), show (m : Int) + 1 = ((m + 1 : Nat) : Int) by omega]
        exact hev
      · obtain ⟨p, hp, hev⟩ := ih (m - i) (by omega) i m (by omega) (by omega) h1 (fun q hq hql => by
          have := asc_get ha (q - m) m (by omega)
          rw [show m + (q - m) = q by omega] at this
          omega)
        refine ⟨p, hp, Ev.step (fun k => by apply slices_BinarySearch_int_int.l0.eq_2) (ev_pos (by omega) ?_)⟩
        rw [hm]
        refine ev_pos (by omega) (ev_pos (by omega) (ev_bindc (less_f _ _) ?_))
        rw [hr]
        exact ev_neg (fun h => hlt (of_decide_eq_true h)) hev
/-- A list with another number. -/
theorem with_ev (l : List Int) (x : Int) (hl : l.length ≤ 1000) (ha : okFrom l 0) : ∃ p : Nat, cutAt l x p ∧ Ev (fun k => signal_with.f k l x) (if p < l.length ∧ l.getD p 0 = x then l else l.take p ++ x :: l.drop p) := by
  obtain ⟨p, hp, hev⟩ := bs_from l x hl ha l.length 0 l.length (by omega) (Nat.le_refl _) (fun q hq => absurd hq (Nat.not_lt_zero _)) (fun q hq hq2 => absurd hq2 (by omega))
  refine ⟨p, hp, Ev.bind hev (ev_pos (by omega) ?_)⟩
  by_cases h : p < l.length ∧ l.getD p 0 = x
  · rw [if_pos h]
    exact ev_pos (decide_eq_true h) (ev_some rfl)
  · rw [if_neg h]
    have := hp.1
    exact ev_neg (fun e => h (of_decide_eq_true e)) (ev_pos (by show (0 : Int) ≤ (p : Int) ∧ (p : Int) ≤ _; omega) (ev_some rfl))
end Go.Proofs.YtnkkdpjipfjdaaaDoor.Sg

end
section
namespace Go.Proofs.YtnkkdpjipfjdaaaDoor.Sg
open Go.RowKit Go.Proofs.YtnkkdpjipfjdaaaDoor.Q Go.Proofs.YtnkkdpjipfjdaaaDoorW.PrintWords Go.Proofs.YtnkkdpjipfjdaaaDoorW.PrintLast Go.Proofs.YtnkkdpjipfjdaaaDoorM Go.Proofs.YtnkkdpjipfjdaaaDoor.Ix
set_option linter.unusedVariables false
def withL (l : List Int) (x : Int) (p : Nat) : List Int := if p < l.length ∧ l.getD p 0 = x then l else l.take p ++ x :: l.drop p
theorem withL_mem (l : List Int) (x : Int) (p : Nat) (y : Int) : y ∈ withL l x p ↔ y = x ∨ y ∈ l := by
  unfold withL
  by_cases h : p < l.length ∧ l.getD p 0 = x
  · rw [if_pos h]
    have hx : x ∈ l := by
      rw [← h.2, List.getD_eq_getElem?_getD, List.getElem?_eq_getElem h.1]
      exact List.getElem_mem h.1
    exact ⟨.inr, fun k => k.elim (fun e => e ▸ hx) id⟩
  · rw [if_neg h, List.mem_append, List.mem_cons]
    have e : y ∈ l ↔ y ∈ l.take p ∨ y ∈ l.drop p := by
      rw [← List.mem_append, List.take_append_drop]
    rw [e]
    exact ⟨fun k => k.elim (fun a => .inr (.inl a)) (fun k => k.elim .inl (fun a => .inr (.inr a))), fun k => k.elim (fun a => .inr (.inl a)) (fun k => k.elim .inl (fun a => .inr (.inr a)))⟩
/-- Ascending lists of signals, told by order. -/
theorem ok_pair {l : List Int} : okFrom l 0 ↔ (∀ x ∈ l, named x) ∧ l.Pairwise (· < ·) := by
  constructor
  · intro h
    refine ⟨fun x hx => ok_named h hx, ?_⟩
    rw [List.pairwise_iff_getElem]
    intro i j hi hj hij
    have h1 := asc_get h (j - 1 - i) i (by omega)
    have h2 := (h j (Nat.zero_le _) hj).2 (by omega)
    rw [show i + (j - 1 - i) = j - 1 by omega] at h1
    have e1 : l.getD i 0 = l[i] := by rw [List.getD_eq_getElem?_getD, List.getElem?_eq_getElem hi]; rfl
    have e2 : l.getD j 0 = l[j] := by rw [List.getD_eq_getElem?_getD, List.getElem?_eq_getElem hj]; rfl
    omega
  · intro ⟨h1, h2⟩ j _ hj
    rw [List.pairwise_iff_getElem] at h2
    have e2 : l.getD j 0 = l[j] := by rw [List.getD_eq_getElem?_getD, List.getElem?_eq_getElem hj]; rfl
    refine ⟨by rw [e2]; exact h1 _ (List.getElem_mem hj), fun h0 => ?_⟩
    have hj1 : j - 1 < l.length := by omega
    have e1 : l.getD (j - 1) 0 = l[j - 1] := by rw [List.getD_eq_getElem?_getD, List.getElem?_eq_getElem hj1]; rfl
    rw [e1, e2]
    exact h2 (j - 1) j hj1 hj (by omega)
theorem ok_filter {l : List Int} (h : okFrom l 0) (f : Int → Bool) : okFrom (l.filter f) 0 := by
  rw [ok_pair] at h ⊢
  exact ⟨fun x hx => h.1 x (List.mem_filter.1 hx).1, h.2.filter f⟩
theorem withL_ok {l : List Int} {x : Int} {p : Nat} (h : okFrom l 0) (hn : named x) (hp : cutAt l x p) : okFrom (withL l x p) 0 := by
  have h' := ok_pair.1 h
  refine ok_pair.2 ⟨fun y hy => (withL_mem l x p y).1 hy |>.elim (fun e => e ▸ hn) (h'.1 y), ?_⟩
  unfold withL
  by_cases hf : p < l.length ∧ l.getD p 0 = x
  · rw [if_pos hf]; exact h'.2
  · rw [if_neg hf]
    have hlow : ∀ y ∈ l.take p, y < x := by
      intro y hy
      obtain ⟨q, hq, rfl⟩ := List.getElem_of_mem hy
      rw [List.length_take] at hq
      have := hp.2.1 q (by omega)
      rw [List.getD_eq_getElem?_getD, List.getElem?_eq_getElem (by omega)] at this
      rw [List.getElem_take]
      exact this
    have hhigh : ∀ y ∈ l.drop p, x < y := by
      intro y hy
      obtain ⟨q, hq, rfl⟩ := List.getElem_of_mem hy
      rw [List.length_drop] at hq
      have h0 := hp.2.2 (p + q) (by omega) (by omega)
      have hpl : p < l.length := by omega
      have h1 := hp.2.2 p (Nat.le_refl _) hpl
      have h2 := asc_get h q p (by omega)
      have hne : l.getD p 0 ≠ x := fun e => hf ⟨hpl, e⟩
      rw [List.getElem_drop]
      have e2 : l.getD (p + q) 0 = l[p + q] := by rw [List.getD_eq_getElem?_getD, List.getElem?_eq_getElem (by omega)]; rfl
      omega
    rw [List.pairwise_append]
    refine ⟨h'.2.sublist (List.take_sublist _ _), List.pairwise_cons.2 ⟨hhigh, h'.2.sublist (List.drop_sublist _ _)⟩, fun a ha b hb => ?_⟩
    rcases List.mem_cons.1 hb with rfl | hb
    · exact hlow a ha
    · have := hlow a ha
      have := hhigh b hb
      omega
/-- Two ascending lists of the same numbers are one. -/
theorem asc_unique : ∀ {l m : List Int}, l.Pairwise (· < ·) → m.Pairwise (· < ·) → (∀ x, x ∈ l ↔ x ∈ m) → l = m
  | [], [], _, _, _ => rfl
  | [], y :: m, _, _, h => absurd ((h y).2 (List.mem_cons_self)) (by simp)
  | x :: l, [], _, _, h => absurd ((h x).1 (List.mem_cons_self)) (by simp)
  | x :: l, y :: m, hl, hm, h => by
    rw [List.pairwise_cons] at hl hm
    have e : x = y := by
      have h1 := List.mem_cons.1 ((h x).1 List.mem_cons_self)
      have h2 := List.mem_cons.1 ((h y).2 List.mem_cons_self)
      rcases h1 with h1 | h1
      · exact h1
      · rcases h2 with h2 | h2
        · exact h2.symm
        · have := hm.1 x h1
          have := hl.1 y h2
          omega
    subst e
    congr 1
    refine asc_unique hl.2 hm.2 (fun z => ?_)
    have hz := h z
    rw [List.mem_cons, List.mem_cons] at hz
    constructor
    · intro k
      have := hl.1 z k
      exact (hz.1 (.inr k)).resolve_left (by omega)
    · intro k
      have := hm.1 z k
      exact (hz.2 (.inr k)).resolve_left (by omega)
end Go.Proofs.YtnkkdpjipfjdaaaDoor.Sg

end
section
namespace Go.Proofs.YtnkkdpjipfjdaaaDoor.Sg
open Go.RowKit Go.Proofs.YtnkkdpjipfjdaaaDoor.Q Go.Proofs.YtnkkdpjipfjdaaaDoorW.PrintWords Go.Proofs.YtnkkdpjipfjdaaaDoorW.PrintLast Go.Proofs.YtnkkdpjipfjdaaaDoorM Go.Proofs.YtnkkdpjipfjdaaaDoor.Ix
set_option linter.unusedVariables false
theorem stops_sig (n : Int) : signal_stops.f n = some (stopsB n) := stops_ref n
theorem clone_f (l : List Int) (h : l.length ≤ 1000) : slices_Clone_int_int.f l = some l := by
  unfold slices_Clone_int_int.f
  rw [if_pos (by omega)]
theorem copied_f (p g c : List Int) (hp : p.length ≤ 1000) (hg : g.length ≤ 1000) (hc : c.length ≤ 1000) : signal_copied.f p g c = some (p, g, c) := by
  unfold signal_copied.f
  rw [clone_f p hp, clone_f g hg, clone_f c hc]
  rfl
/-- What a sent signal leaves of the pending ones. -/
def cleared (p : List Int) (n : Int) : List Int := if n = 18 then p.filter (fun x => !stopsB x) else if stopsB n = true then p.filter (fun x => !(x == 18)) else p
theorem cleared_len (p : List Int) (n : Int) : (cleared p n).length ≤ p.length := by
  unfold cleared
  split
  · exact List.length_filter_le _ _
  · split
    · exact List.length_filter_le _ _
    · exact Nat.le_refl _
theorem cleared_ok {p : List Int} (h : okFrom p 0) (n : Int) : okFrom (cleared p n) 0 := by
  unfold cleared
  split
  · exact ok_filter h _
  · split
    · exact ok_filter h _
    · exact h
theorem send_ev (p g c : List Int) (n : Int) (hp : p.length ≤ 900) (hg : g.length ≤ 1000) (hc : c.length ≤ 1000) (ho : okFrom p 0) (hn : named n) :
    ∃ q, cutAt (cleared p n) n q ∧ Ev (fun k => signal_Send.f k p g c n) (if n ≠ 18 ∧ n ∈ g then cleared p n else withL (cleared p n) n q, g, c) := by
  have hcl := cleared_len p n
  obtain ⟨q, hq, hev⟩ := with_ev (cleared p n) n (by omega) (cleared_ok ho n)
  refine ⟨q, hq, ?_⟩
  have hj : Ev (fun k => signal_Send.j0 k n (cleared p n) g c) (if n ≠ 18 ∧ n ∈ g then cleared p n else withL (cleared p n) n q, g, c) := by
    refine Ev.step (fun k => by apply signal_Send.j0.eq_2) ?_
    by_cases h18 : n = 18
    · rw [if_neg (fun h => h.1 h18)]
      exact ev_pos h18 (Ev.bind hev (ev_some rfl))
    · refine ev_neg h18 (Ev.bind (contains_ev g n hg) ?_)
      by_cases hin : n ∈ g
      · rw [if_pos ⟨h18, hin⟩]
        exact ev_pos (decide_eq_true hin) (ev_some rfl)
      · rw [if_neg (fun h => hin h.2)]
        exact ev_neg (fun h => hin (of_decide_eq_true h)) (Ev.bind hev (ev_some rfl))
  refine ev_bindc (name_f n) (ev_neg hn (ev_bindc (copied_f p g c (by omega) hg hc) ?_))
  by_cases h18 : n = 18
  · have e : cleared p n = p.filter (fun x => !stopsB x) := by unfold cleared; rw [if_pos h18]
    rw [e] at hj ⊢
    refine ev_pos h18 (ev_bindc (by unfold signal_without_stops.f; rw [if_pos (by show p.length < _; omega)]) ?_)
    exact hj
  · refine ev_neg h18 (ev_bindc (stops_sig n) ?_)
    by_cases hs : stopsB n = true
    · have e : cleared p n = p.filter (fun x => !(x == 18)) := by unfold cleared; rw [if_neg h18, if_pos hs]
      rw [e] at hj ⊢
      refine ev_pos hs (ev_bindc (by unfold signal_without_1_44.f; rw [if_pos (by show p.length < _; omega)]) ?_)
      exact hj
    · have e : cleared p n = p := by unfold cleared; rw [if_neg h18, if_neg hs]
      rw [e] at hj ⊢
      exact ev_neg hs hj
end Go.Proofs.YtnkkdpjipfjdaaaDoor.Sg

end
section
namespace Go.Proofs.YtnkkdpjipfjdaaaDoor.Sg
open Go.RowKit Go.Proofs.YtnkkdpjipfjdaaaDoor.Q Go.Proofs.YtnkkdpjipfjdaaaDoorW.PrintWords Go.Proofs.YtnkkdpjipfjdaaaDoorW.PrintLast Go.Proofs.YtnkkdpjipfjdaaaDoorM Go.Proofs.YtnkkdpjipfjdaaaDoor.Ix
set_option linter.unusedVariables false
/-- A list without a number. -/
def lessL (l : List Int) (n : Int) : List Int := l.filter fun x => !(x == n)
theorem lessL_len (l : List Int) (n : Int) : (lessL l n).length ≤ l.length := List.length_filter_le _ _
end Go.Proofs.YtnkkdpjipfjdaaaDoor.Sg

end
section
namespace Go.Proofs.YtnkkdpjipfjdaaaDoor.Sg
open Go.RowKit Go.Proofs.YtnkkdpjipfjdaaaDoor.Q Go.Proofs.YtnkkdpjipfjdaaaDoorW.PrintWords Go.Proofs.YtnkkdpjipfjdaaaDoorW.PrintLast Go.Proofs.YtnkkdpjipfjdaaaDoorM Go.Proofs.YtnkkdpjipfjdaaaDoor.Ix
set_option linter.unusedVariables false
theorem drop_from (l : List Int) (n : Int) (hl : l.length ≤ 1000) : ∀ (m i : Nat) (out : List Int), i + m = l.length → out.length + m ≤ 5000 → Ev (fun k => jobshellref25_drop.l0 k l n out (i : Int)) (out ++ lessL (l.drop i) n)
  | 0, i, out, h, ho => Ev.step (fun k => by apply jobshellref25_drop.l0.eq_2) (ev_neg (by omega) (ev_some (by rw [List.drop_eq_nil_of_le (by omega)]; simp [lessL])))
  | m + 1, i, out, h, ho => by
    have hi : i < l.length := by omega
    have hd := drop_at l i hi
    have hr : rd l (i : Int) = l.getD i 0 := rfl
    refine Ev.step (fun k => by apply jobshellref25_drop.l0.eq_2) (ev_pos (by omega) (ev_pos (by omega) ?_))
    rw [hr, wrap_in (by omega) (by omega), show (i : Int) + 1 = ((i + 1 : Nat) : Int) by omega]
    by_cases hq : l.getD i 0 = n
    · refine ev_pos hq (ev_eq (drop_from l n hl m (i + 1) out (by omega) (by omega)) ?_)
      rw [hd]
      unfold lessL
      rw [List.filter_cons_of_neg (by simpa using hq)]
    · refine ev_neg hq (ev_pos (by omega) (ev_eq (drop_from l n hl m (i + 1) (out ++ [l.getD i 0]) (by omega) (by rw [List.length_append, List.length_singleton]; omega)) ?_))
      rw [hd]
      unfold lessL
      rw [List.filter_cons_of_pos (by simpa using hq), List.append_assoc]
      rfl
theorem drop_ev (l : List Int) (n : Int) (hl : l.length ≤ 1000) : Ev (fun k => jobshellref25_drop.f k l n) (lessL l n) := by
  have h := drop_from l n hl l.length 0 [] (by omega) (by simp; omega)
  rwa [List.drop_zero, List.nil_append] at h
/-- The numbers from i on. -/
def up (i : Int) : Nat → List Int
  | 0 => []
  | m + 1 => i :: up (i + 1) m
theorem up_mem : ∀ (m : Nat) (i x : Int), x ∈ up i m ↔ i ≤ x ∧ x < i + m
  | 0, i, x => by unfold up; exact ⟨fun h => (by cases h), fun h => (by omega)⟩
  | m + 1, i, x => by
    unfold up
    rw [List.mem_cons, up_mem m (i + 1) x]
    omega
theorem up_asc : ∀ (m : Nat) (i : Int), (up i m).Pairwise (· < ·)
  | 0, i => .nil
  | m + 1, i => .cons (fun x hx => by have := (up_mem m (i + 1) x).1 hx; omega) (up_asc m (i + 1))
theorem up_len : ∀ (m : Nat) (i : Int), (up i m).length = m
  | 0, i => rfl
  | m + 1, i => by unfold up; rw [List.length_cons, up_len m (i + 1)]
/-- The signals of a list and one more, ascending. -/
def addL (l : List Int) (n : Int) : List Int := (up 1 20).filter fun x => x == n || decide (x ∈ l)
theorem add_from (l : List Int) (n : Int) (hl : l.length ≤ 1000) : ∀ (m : Nat) (i : Int) (out : List Int), 1 ≤ i → i + m = 21 → out.length + m ≤ 5000 → Ev (fun k => jobshellref25_add.l0 k l n out i) (out ++ (up i m).filter fun x => x == n || decide (x ∈ l))
  | 0, i, out, h1, h, ho => Ev.step (fun k => by apply jobshellref25_add.l0.eq_2) (ev_neg (by omega) (ev_some (by simp [up])))
  | m + 1, i, out, h1, h, ho => by
    refine Ev.step (fun k => by apply jobshellref25_add.l0.eq_2) (ev_pos (by omega) ?_)
    rw [wrap_in (by omega) (by omega)]
    have ih1 := add_from l n hl m (i + 1) (out ++ [i]) (by omega) (by omega) (by rw [List.length_append, List.length_singleton]; omega)
    have ih0 := add_from l n hl m (i + 1) out (by omega) (by omega) (by omega)
    unfold up
    by_cases hq : i = n
    · refine ev_pos hq (ev_pos (by omega) (ev_eq ih1 ?_))
      rw [List.filter_cons_of_pos (by simp [hq]), List.append_assoc]
      rfl
    · refine ev_neg hq (Ev.bind (has_ev l i hl) ?_)
      by_cases hin : i ∈ l
      · refine ev_pos (decide_eq_true hin) (ev_pos (by omega) (ev_eq ih1 ?_))
        rw [List.filter_cons_of_pos (by simp [hin]), List.append_assoc]
        rfl
      · refine ev_neg (fun h => hin (of_decide_eq_true h)) (ev_eq ih0 ?_)
        rw [List.filter_cons_of_neg (by simp [hq, hin])]
theorem add_ev (l : List Int) (n : Int) (hl : l.length ≤ 1000) : Ev (fun k => jobshellref25_add.f k l n) (addL l n) := by
  have h := add_from l n hl 20 1 [] (by omega) (by omega) (by simp)
  rwa [List.nil_append] at h
theorem addL_eq {l : List Int} {n : Int} {q : Nat} (ho : okFrom l 0) (hn : named n) (hq : cutAt l n q) : addL l n = withL l n q := by
  refine asc_unique ((up_asc 20 1).filter _) (ok_pair.1 (withL_ok ho hn hq)).2 (fun x => ?_)
  rw [withL_mem]
  unfold addL
  rw [List.mem_filter, up_mem]
  have hx : x ∈ l → 1 ≤ x ∧ x ≤ 20 := fun h => named_in (ok_named ho h)
  have hn' := named_in hn
  constructor
  · intro h
    simpa using h.2
  · intro h
    refine ⟨?_, by simpa using h⟩
    rcases h with h | h
    · omega
    · have := hx h; omega
theorem ok_len {l : List Int} (ho : okFrom l 0) : l.length ≤ 20 := by
  have e : (up 1 20).filter (fun x => decide (x ∈ l)) = l := by
    refine asc_unique ((up_asc 20 1).filter _) (ok_pair.1 ho).2 (fun x => ?_)
    rw [List.mem_filter, up_mem]
    constructor
    · intro h
      simpa using h.2
    · intro h
      have := named_in (ok_named ho h)
      exact ⟨by omega, by simpa using h⟩
  have h := List.length_filter_le (fun x => decide (x ∈ l)) (up 1 20)
  rw [e, up_len] at h
  exact h
theorem numbers_from (l : List Int) (hl : l.length ≤ 1000) : ∀ (m i : Nat), i + m = l.length → Ev (fun k => jobshellref25_numbers.l0 k l l (i : Int)) true
  | 0, i, h => Ev.step (fun k => by apply jobshellref25_numbers.l0.eq_2) (ev_neg (by omega) (ev_some rfl))
  | m + 1, i, h => by
    refine Ev.step (fun k => by apply jobshellref25_numbers.l0.eq_2) (ev_pos (by omega) (ev_pos (by omega) (ev_pos (by omega) (ev_pos rfl ?_))))
    rw [wrap_in (by omega) (by omega), show (i : Int) + 1 = ((i + 1 : Nat) : Int) by omega]
    exact numbers_from l hl m (i + 1) (by omega)
theorem numbers_ev (l : List Int) (hl : l.length ≤ 1000) : Ev (fun k => jobshellref25_numbers.f k l l) true := ev_pos rfl (numbers_from l hl l.length 0 (by omega))
theorem same_ev (p g c : List Int) (hp : p.length ≤ 1000) (hg : g.length ≤ 1000) (hc : c.length ≤ 1000) : Ev (fun k => jobshellref25_Same.f k p g c p g c) true :=
  Ev.bind (numbers_ev p hp) (ev_pos rfl (Ev.bind (numbers_ev g hg) (ev_pos rfl (Ev.bind (numbers_ev c hc) (ev_some rfl)))))
end Go.Proofs.YtnkkdpjipfjdaaaDoor.Sg

end
section
namespace Go.Proofs.YtnkkdpjipfjdaaaDoor.Sg
open Go.RowKit Go.Proofs.YtnkkdpjipfjdaaaDoor.Q Go.Proofs.YtnkkdpjipfjdaaaDoorW.PrintWords Go.Proofs.YtnkkdpjipfjdaaaDoorW.PrintLast Go.Proofs.YtnkkdpjipfjdaaaDoorM Go.Proofs.YtnkkdpjipfjdaaaDoor.Ix
set_option linter.unusedVariables false
theorem min_fold : ∀ (l : List Int) (x : Int), (∀ y ∈ l, x < y) → l.foldl min x = x
  | [], x, _ => rfl
  | y :: l, x, h => by
    have hy := h y (List.mem_cons_self ..)
    rw [List.foldl_cons, show min x y = x by omega]
    exact min_fold l x (fun z hz => h z (List.mem_cons_of_mem _ hz))
theorem less41 (l : List Int) (n : Int) (h : l.length ≤ 1000) : signal_without_1_41.f l n = some (lessL l n) := by
  unfold signal_without_1_41.f lessL
  rw [if_pos (by omega)]
/-- The next signal of an ascending list that is not empty. -/
def nextN (p : List Int) : Int := if (9 : Int) ∈ p then 9 else p.headD 0
theorem next_nil (g c : List Int) : Ev (fun k => signal_Next.f k [] g c) ([], g, c, 0, 0) := ev_pos rfl (ev_some rfl)
theorem next_ev (p g c : List Int) (d : Int) (hp : p.length ≤ 1000) (hg : g.length ≤ 1000) (hc : c.length ≤ 1000) (ho : okFrom p 0) (hne : p ≠ []) (hd : signal_Default.f (nextN p) = some d) :
    Ev (fun k => signal_Next.f k p g c) (lessL p (nextN p), g, c, nextN p, if nextN p ∈ c then 4 else d) := by
  have hlen : p.length ≠ 0 := fun h => hne (List.length_eq_zero_iff.1 h)
  have hj : Ev (fun k => signal_Next.j0 k p g c (nextN p)) (lessL p (nextN p), g, c, nextN p, if nextN p ∈ c then 4 else d) := by
    refine Ev.step (fun k => by apply signal_Next.j0.eq_2) (ev_bindc hd (Ev.bind (contains_ev c (nextN p) hc) ?_))
    by_cases hin : nextN p ∈ c
    · rw [if_pos hin]
      exact ev_pos (decide_eq_true hin) (ev_bindc (copied_f p g c hp hg hc) (ev_bindc (less41 p _ hp) (ev_some rfl)))
    · rw [if_neg hin]
      exact ev_neg (fun h => hin (of_decide_eq_true h)) (ev_bindc (copied_f p g c hp hg hc) (ev_bindc (less41 p _ hp) (ev_some rfl)))
  have hm : slices_Min_int_int.f p = some (p.headD 0) := by
    cases p with
    | nil => exact absurd rfl hne
    | cons x t =>
      have h2 := (ok_pair.1 ho).2
      rw [List.pairwise_cons] at h2
      show some (t.foldl min x) = some x
      rw [min_fold t x h2.1]
  refine ev_neg (by omega) (ev_bindc hm (Ev.bind (contains_ev p 9 hp) ?_))
  by_cases h9 : (9 : Int) ∈ p
  · have e : nextN p = 9 := by unfold nextN; rw [if_pos h9]
    rw [e] at hj ⊢
    exact ev_pos (decide_eq_true h9) hj
  · have e : nextN p = p.headD 0 := by unfold nextN; rw [if_neg h9]
    rw [e] at hj ⊢
    exact ev_neg (fun h => h9 (of_decide_eq_true h)) hj
/-- What Send leaves pending. -/
def sentL (p g : List Int) (n : Int) : List Int := if named n then (if n ≠ 18 ∧ n ∈ g then cleared p n else addL (cleared p n) n) else p
instance (n : Int) : Decidable (named n) := by unfold named; infer_instance
theorem sent_ok {p : List Int} (g : List Int) {n : Int} (ho : okFrom p 0) : okFrom (sentL p g n) 0 := by
  unfold sentL
  split
  · rename_i hn
    split
    · exact cleared_ok ho n
    · refine ok_pair.2 ⟨fun x hx => ?_, (up_asc 20 1).filter _⟩
      have hx := (List.mem_filter.1 hx).2
      simp only [Bool.or_eq_true, beq_iff_eq, decide_eq_true_eq] at hx
      rcases hx with hx | hx
      · rw [hx]; exact hn
      · exact ok_named (cleared_ok ho n) hx
  · exact ho
theorem send_any (p g c : List Int) (n : Int) (ho : okFrom p 0) (hg : g.length ≤ 1000) (hc : c.length ≤ 1000) : Ev (fun k => signal_Send.f k p g c n) (sentL p g n, g, c) := by
  have lp := ok_len ho
  unfold sentL
  by_cases hn : named n
  · rw [if_pos hn]
    obtain ⟨q, hq, e⟩ := send_ev p g c n (by omega) hg hc ho hn
    rw [← addL_eq (cleared_ok ho n) hn hq] at e
    exact e
  · rw [if_neg hn]
    exact ev_bindc (name_f n) (ev_pos (Decidable.not_not.1 hn) (ev_some rfl))
end Go.Proofs.YtnkkdpjipfjdaaaDoor.Sg

end
section
namespace Go.Proofs.YtnkkdpjipfjdaaaDoor.Sg
open Go.RowKit Go.Proofs.YtnkkdpjipfjdaaaDoor.Q Go.Proofs.YtnkkdpjipfjdaaaDoorW.PrintWords Go.Proofs.YtnkkdpjipfjdaaaDoorW.PrintLast Go.Proofs.YtnkkdpjipfjdaaaDoorM Go.Proofs.YtnkkdpjipfjdaaaDoor.Ix
set_option linter.unusedVariables false
theorem def_both (n : Int) : ∃ d, signal_Default.f n = some d ∧ jobshellref25_Default.f 30 n = some d := by
  by_cases h : 0 ≤ n ∧ n ≤ 20
  · refine ⟨(signal_Default.f n).getD 0, ?_⟩
    rcases in21 h.1 h.2 with h | h | h | h | h | h | h | h | h | h | h | h | h | h | h | h | h | h | h | h | h <;> subst h <;> exact ⟨by kernel_rfl, by kernel_rfl⟩
  · refine ⟨0, ?_, ?_⟩
    · have h5 : (n == 5) = false := beq_eq_false_iff_ne.2 (by omega)
      have hs : signal_stops.f n = some false := by
        unfold signal_stops.f
        repeat rw [if_neg (by omega)]
        rw [h5]
      have hn : signal_Name.f n = some ⟨#[]⟩ := by unfold signal_Name.f; rw [name_out h]
      unfold signal_Default.f
      rw [hs, Option.bind_some, if_neg (by decide), if_neg (by omega), if_neg (by omega), hn, Option.bind_some, if_pos (by kernel_rfl)]
    · unfold jobshellref25_Default.f
      rw [name_eq, name_out h, Option.bind_some, if_pos (by kernel_rfl)]
      rfl
theorem def_ev {n d : Int} (h : jobshellref25_Default.f 30 n = some d) : Ev (fun k => jobshellref25_Default.f k n) d := by
  refine ⟨30, fun k hk => ?_⟩
  obtain ⟨m, rfl⟩ : ∃ m, k = 30 + m := ⟨k - 30, by omega⟩
  clear hk
  induction m with
  | zero => exact h
  | succ m ih => exact jobshellref25_Default.mono n (30 + m) d ih
theorem refnext_nil (g c : List Int) : Ev (fun k => jobshellref25_Next.f k [] g c) ([], g, c, 0, 0) := ev_pos rfl (ev_some rfl)
theorem refnext_ev (p g c : List Int) (d : Int) (hp : p.length ≤ 1000) (hg : g.length ≤ 1000) (hc : c.length ≤ 1000) (hne : p ≠ []) (hd : jobshellref25_Default.f 30 (nextN p) = some d) :
    Ev (fun k => jobshellref25_Next.f k p g c) (lessL p (nextN p), g, c, nextN p, if nextN p ∈ c then 4 else d) := by
  have hlen : p.length ≠ 0 := fun h => hne (List.length_eq_zero_iff.1 h)
  have hj : Ev (fun k => jobshellref25_Next.j0 k (nextN p) p g c) (lessL p (nextN p), g, c, nextN p, if nextN p ∈ c then 4 else d) := by
    refine Ev.step (fun k => by apply jobshellref25_Next.j0.eq_2) (Ev.bind (drop_ev p _ hp) (Ev.bind (has_ev c (nextN p) hc) ?_))
    by_cases hin : nextN p ∈ c
    · rw [if_pos hin]
      exact ev_pos (decide_eq_true hin) (ev_some rfl)
    · rw [if_neg hin]
      exact ev_neg (fun h => hin (of_decide_eq_true h)) (Ev.bind (def_ev hd) (ev_some rfl))
  refine ev_neg (by omega) (ev_pos (by omega) (Ev.bind (has_ev p 9 hp) ?_))
  by_cases h9 : (9 : Int) ∈ p
  · have e : nextN p = 9 := by unfold nextN; rw [if_pos h9]
    rw [e] at hj ⊢
    exact ev_pos (decide_eq_true h9) hj
  · have e : nextN p = p.headD 0 := by unfold nextN; rw [if_neg h9]
    have e2 : rd p 0 = p.headD 0 := by cases p <;> rfl
    rw [e] at hj ⊢
    rw [e2]
    exact ev_neg (fun h => h9 (of_decide_eq_true h)) hj
theorem next_both (p g c : List Int) (ho : okFrom p 0) (hg : g.length ≤ 1000) (hc : c.length ≤ 1000) : ∃ (P : List Int) (n e : Int), Ev (fun k => signal_Next.f k p g c) (P, g, c, n, e) ∧ Ev (fun k => jobshellref25_Next.f k p g c) (P, g, c, n, e) ∧ P.length ≤ 20 := by
  have lp := ok_len ho
  by_cases hne : p = []
  · subst hne
    exact ⟨_, _, _, next_nil g c, refnext_nil g c, by simp⟩
  · obtain ⟨d, h1, h2⟩ := def_both (nextN p)
    have := lessL_len p (nextN p)
    exact ⟨_, _, _, next_ev p g c d (by omega) hg hc ho hne h1, refnext_ev p g c d (by omega) hg hc hne h2, by omega⟩
theorem drop4 (p : List Int) : lessL (lessL (lessL (lessL p 19) 20) 4) 5 = p.filter (fun x => !stopsB x) := by
  unfold lessL
  rw [List.filter_filter, List.filter_filter, List.filter_filter]
  refine congrArg (fun f => List.filter f p) (funext fun x => ?_)
  unfold stopsB
  cases (x == 19) <;> cases (x == 20) <;> cases (x == 4) <;> cases (x == 5) <;> rfl
theorem refsend_j1 (q g c : List Int) (n : Int) (hq : q.length ≤ 900) (hg : g.length ≤ 1000) : Ev (fun k => jobshellref25_Send.j1 k n q g c) (if n ≠ 18 ∧ n ∈ g then q else addL q n, g, c) := by
  refine Ev.step (fun k => by apply jobshellref25_Send.j1.eq_2) ?_
  by_cases h18 : n = 18
  · rw [if_neg (fun h => h.1 h18)]
    exact ev_pos h18 (Ev.bind (add_ev q n (by omega)) (ev_some rfl))
  · refine ev_neg h18 (Ev.bind (has_ev g n hg) ?_)
    by_cases hin : n ∈ g
    · rw [if_pos ⟨h18, hin⟩]
      exact ev_pos (decide_eq_true hin) (ev_some rfl)
    · rw [if_neg (fun h => hin h.2)]
      exact ev_neg (fun h => hin (of_decide_eq_true h)) (Ev.bind (add_ev q n (by omega)) (ev_some rfl))
theorem refsend_any (p g c : List Int) (n : Int) (hp : p.length ≤ 900) (hg : g.length ≤ 1000) : Ev (fun k => jobshellref25_Send.f k p g c n) (sentL p g n, g, c) := by
  unfold sentL
  refine ev_bindc (name_eq n) ?_
  by_cases hn : named n
  · rw [if_pos hn]
    refine ev_neg hn ?_
    have hcl := cleared_len p n
    have j1 := refsend_j1 (cleared p n) g c n (by omega) hg
    by_cases h18 : n = 18
    · have e : cleared p n = lessL (lessL (lessL (lessL p 19) 20) 4) 5 := by unfold cleared; rw [if_pos h18, drop4]
      rw [e] at j1 ⊢
      have l1 := lessL_len p 19
      have l2 := lessL_len (lessL p 19) 20
      have l3 := lessL_len (lessL (lessL p 19) 20) 4
      refine ev_pos h18 (Ev.bind (drop_ev p 19 (by omega)) (Ev.bind (drop_ev _ 20 (by omega)) (Ev.bind (drop_ev _ 4 (by omega)) (Ev.bind (drop_ev _ 5 (by omega)) ?_))))
      refine Ev.step (fun k => by apply jobshellref25_Send.j0.eq_2) (ev_bindc (stops_ref n) (ev_neg ?_ j1))
      rw [h18]; decide
    · refine ev_neg h18 (Ev.step (fun k => by apply jobshellref25_Send.j0.eq_2) (ev_bindc (stops_ref n) ?_))
      by_cases hs : stopsB n = true
      · have e : cleared p n = lessL p 18 := by unfold cleared lessL; rw [if_neg h18, if_pos hs]
        rw [e] at j1 ⊢
        exact ev_pos hs (Ev.bind (drop_ev p 18 (by omega)) j1)
      · have e : cleared p n = p := by unfold cleared; rw [if_neg h18, if_neg hs]
        rw [e] at j1 ⊢
        exact ev_neg hs j1
  · rw [if_neg hn]
    exact ev_pos (Decidable.not_not.1 hn) (ev_some rfl)
end Go.Proofs.YtnkkdpjipfjdaaaDoor.Sg

end
section
namespace Go.Proofs.YtnkkdpjipfjdaaaDoor.Pure
open Go.RowKit Go.Proofs.YtnkkdpjipfjdaaaDoor.Q Go.Proofs.YtnkkdpjipfjdaaaDoorW.PrintWords Go.Proofs.YtnkkdpjipfjdaaaDoorW.PrintLast Go.Proofs.YtnkkdpjipfjdaaaDoorM Go.Proofs.YtnkkdpjipfjdaaaDoor.Ix Go.Proofs.YtnkkdpjipfjdaaaDoor.Sg
set_option linter.unusedVariables false
theorem short_f (p g c : List Int) : jobshelllaw25_short.f p g c = some (decide (p.length ≤ 30 ∧ g.length ≤ 30 ∧ c.length ≤ 30)) := by
  unfold jobshelllaw25_short.f
  by_cases h1 : p.length ≤ 30
  · rw [if_pos (by omega)]
    by_cases h2 : g.length ≤ 30
    · rw [if_pos (by omega)]
      exact congrArg some (decide_eq_decide.2 (by omega))
    · rw [if_neg (by omega)]
      exact congrArg some (by simp [h2])
  · rw [if_neg (by omega)]
    exact congrArg some (by simp [h1])
theorem SignalSends : StSignalSends.Pure := by
  intro p g c n _ _ _ _ _ _ _ _ _ _
  have h : Ev (fun k => jobshelllaw25_SignalSends.f k p g c n) true := by
    have out : Ev (fun k => jobshelllaw25_SignalSends.j0 k n true p g c) true := Ev.step (fun k => by apply jobshelllaw25_SignalSends.j0.eq_2) (ev_pos rfl (Ev.bind awake_ev (ev_some rfl)))
    by_cases hs : p.length ≤ 30 ∧ g.length ≤ 30 ∧ c.length ≤ 30
    · obtain ⟨r, h1, h2⟩ := valid_ref p g c (by omega) (by omega) (by omega)
      refine ev_bindc (short_f p g c) (ev_pos (decide_eq_true hs) (Ev.bind h1 ?_))
      by_cases hr : r = 0
      · have ok : okFrom p 0 ∧ okFrom g 0 ∧ okFrom c 0 := by
          rcases h2 with ⟨a, _⟩ | ⟨o, _⟩
          · omega
          · exact o
        obtain ⟨P, m, e, e1, e2, lP⟩ := next_both p g c ok.1 (by omega) (by omega)
        have lS := ok_len (sent_ok g ok.1 (n := n))
        rw [bne_eq_false_iff_eq.2 hr]
        refine Ev.step (fun k => by apply jobshelllaw25_SignalSends.j0.eq_2) (ev_neg Bool.false_ne_true (Ev.bind e1 (Ev.bind e2 ?_)))
        refine Ev.bind (send_any p g c n ok.1 (by omega) (by omega)) (Ev.bind (refsend_any p g c n (by omega) (by omega)) ?_)
        refine Ev.bind (same_ev (sentL p g n) g c (by omega) (by omega) (by omega)) (ev_pos rfl ?_)
        exact Ev.bind (same_ev P g c (by omega) (by omega) (by omega)) (ev_pos rfl (ev_pos rfl (ev_pos rfl (Ev.bind awake_ev (ev_some rfl)))))
      · rw [bne_iff_ne.2 hr]
        exact out
    · exact ev_bindc (short_f p g c) (ev_neg (by simpa using hs) out)
  obtain ⟨K, hK⟩ := h
  exact ⟨K, hK K (Nat.le_refl _)⟩
end Go.Proofs.YtnkkdpjipfjdaaaDoor.Pure

end
