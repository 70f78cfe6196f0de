-- Written by wip/tool/myprint.py, a program of this repo that drives the kit's print over hand-written contracts; Lean checks it. (halved)
import Derived.Test.YtoecolllimgbgaaQ0
import Derived.Test.YtoecolllimgbgaaQ1
import Derived.Test.YtoecolllimgbgaaQ4
import Derived.Test.YtoecolllimgbgaaQ9
import Derived.Test.YtoecolllimgbgaaQ13
import Derived.Test.YtoecolllimgbgaaQ17
import Derived.Test.YtoecolllimgbgaaQ18
namespace Go.Proofs.Ytoecolllimgbgaa.Q
open Go.RowKit Go.Proofs.YtoecolllimgbgaaW.PrintWords Go.Proofs.YtoecolllimgbgaaW.PrintLast Go.Proofs.YtoecolllimgbgaaW.PrintMore Go.Proofs.YtoecolllimgbgaaM
attribute [local go_sem] max2_int min2_int max_two min_two max_three min_three max_four min_four   -- for this text's walks alone
set_option linter.unusedVariables false
set_option linter.unusedSimpArgs false

/-! ### jobshelllaw26_TtyParts: function 6 -/
def jobshelllaw26_TtyParts.j0 : Nat → ByteArray → ByteArray → Bool → Int → Int → ByteArray → List ByteArray → ByteArray → Bool → Option (Bool)
 | 0, _, _, _, _, _, _, _, _, _ => none
 | k + 1, x1, x2, x30, x462000, x462001, x462002, x462003, x462004, x462005 => if x30 = true then ((jobshelllaw26_awake.f k).bind fun t464 => (some t464)) else ((tty_Feed.f k x462000 x462001 x462002 x462003 x462004 x462005 x1).bind fun bt465 => ((tty_Feed.f k bt465.1 bt465.2.1 bt465.2.2.1 bt465.2.2.2.1 bt465.2.2.2.2.1 bt465.2.2.2.2.2.1 x2).bind fun bt477 => (if x1.size + x2.size ≤ 9223372036854775807 then ((tty_Feed.f k x462000 x462001 x462002 x462003 x462004 x462005 (x1 ++ x2)).bind fun bt489 => ((jobshellref26_Same.f k bt477.1 bt477.2.1 bt477.2.2.1 bt477.2.2.2.1 bt477.2.2.2.2.1 bt477.2.2.2.2.2.1 bt489.1 bt489.2.1 bt489.2.2.1 bt489.2.2.2.1 bt489.2.2.2.2.1 bt489.2.2.2.2.2.1).bind fun t501 => (if t501 = true then (if (bt489.2.2.2.2.2.2.length : Int) = (wrap64 ((bt465.2.2.2.2.2.2.length : Int) + (bt477.2.2.2.2.2.2.length : Int))) then (if 0 ≤ (bt465.2.2.2.2.2.2.length : Int) then (if (bt465.2.2.2.2.2.2.length : Int) ≤ (bt489.2.2.2.2.2.2.length : Int) then ((jobshelllaw26_numbers.f k (bt489.2.2.2.2.2.2.take ((bt465.2.2.2.2.2.2.length : Int) : Int).toNat) bt465.2.2.2.2.2.2).bind fun t506 => (if t506 = true then ((jobshelllaw26_numbers.f k (bt489.2.2.2.2.2.2.drop ((bt465.2.2.2.2.2.2.length : Int) : Int).toNat) bt477.2.2.2.2.2.2).bind fun t511 => (if t511 = true then ((jobshelllaw26_awake.f k).bind fun t512 => (some t512)) else (none))) else (none))) else (none)) else (none)) else (none)) else (none)))) else (none))))
def jobshelllaw26_TtyParts.f (k : Nat) (a0_0 : Int) (a0_1 : Int) (a0_2 : ByteArray) (l0_3 : List ByteArray) (a0_4 : ByteArray) (a0_5 : Bool) (a1 : ByteArray) (a2 : ByteArray) : Option (Bool) := (jobshellref26_Small.f k a0_0 a0_1 a0_2 l0_3 a0_4 a0_5).bind fun t462 => (if t462 = true then ((jobshellref26_Valid.f k a0_0 a0_1 a0_2 l0_3 a0_4 a0_5).bind fun t463 => (if t463 = 0 then (if (a1.size : Int) > 200 then (jobshelllaw26_TtyParts.j0 k a1 a2 true a0_0 a0_1 a0_2 l0_3 a0_4 a0_5) else (jobshelllaw26_TtyParts.j0 k a1 a2 (decide ((a2.size : Int) > 200)) a0_0 a0_1 a0_2 l0_3 a0_4 a0_5)) else (jobshelllaw26_TtyParts.j0 k a1 a2 true a0_0 a0_1 a0_2 l0_3 a0_4 a0_5))) else (jobshelllaw26_TtyParts.j0 k a1 a2 true a0_0 a0_1 a0_2 l0_3 a0_4 a0_5))
theorem jobshelllaw26_TtyParts.mono_l : ∀ k, (∀ y0 y1 y2 y3 y4 y5 y6 y7 y8, LeO (jobshelllaw26_TtyParts.j0 k y0 y1 y2 y3 y4 y5 y6 y7 y8) (jobshelllaw26_TtyParts.j0 (k + 1) y0 y1 y2 y3 y4 y5 y6 y7 y8))
 | 0 => fun _ _ _ _ _ _ _ _ _ r h => by simp [jobshelllaw26_TtyParts.j0] at h
 | k + 1 => by
  have ih0 := jobshelllaw26_TtyParts.mono_l k
  ·intro y0 y1 y2 y3 y4 y5 y6 y7 y8
   unfold jobshelllaw26_TtyParts.j0
   repeat' first
   | (with_reducible exact ih0 _ _ _ _ _ _ _ _ _)
   | (with_reducible exact jobshelllaw26_awake.mono _)
   | (with_reducible exact jobshelllaw26_numbers.mono _ _ _)
   | (with_reducible exact jobshellref26_Same.mono _ _ _ _ _ _ _ _ _ _ _ _ _)
   | (with_reducible exact jobshellref26_Small.mono _ _ _ _ _ _ _)
   | (with_reducible exact jobshellref26_Valid.mono _ _ _ _ _ _ _)
   | (with_reducible exact tty_Feed.mono _ _ _ _ _ _ _ _)
   | (with_reducible exact LeO.refl _)
   | (with_reducible exact LeO.none _)
   | (with_reducible refine LeO.ite ?_ ?_)
   | (with_reducible refine LeO.bind ?_ (fun _ => ?_))
   | exact ih0 _ _ _ _ _ _ _ _ _
   | exact jobshelllaw26_awake.mono _
   | exact jobshelllaw26_numbers.mono _ _ _
   | exact jobshellref26_Same.mono _ _ _ _ _ _ _ _ _ _ _ _ _
   | exact jobshellref26_Small.mono _ _ _ _ _ _ _
   | exact jobshellref26_Valid.mono _ _ _ _ _ _ _
   | exact tty_Feed.mono _ _ _ _ _ _ _ _
   | exact LeO.none _
   | refine LeO.ite ?_ ?_
   | refine LeO.bind ?_ (fun _ => ?_)
theorem jobshelllaw26_TtyParts.mono : ∀ a0 a1 a2 a3 a4 a5 a6 a7 k, LeO (jobshelllaw26_TtyParts.f k a0 a1 a2 a3 a4 a5 a6 a7) (jobshelllaw26_TtyParts.f (k + 1) a0 a1 a2 a3 a4 a5 a6 a7) := by
 intro a0 a1 a2 a3 a4 a5 a6 a7 k
 have ih0 := jobshelllaw26_TtyParts.mono_l k
 unfold jobshelllaw26_TtyParts.f
 repeat' first
   | (with_reducible exact ih0 _ _ _ _ _ _ _ _ _)
   | (with_reducible exact jobshelllaw26_awake.mono _)
   | (with_reducible exact jobshelllaw26_numbers.mono _ _ _)
   | (with_reducible exact jobshellref26_Same.mono _ _ _ _ _ _ _ _ _ _ _ _ _)
   | (with_reducible exact jobshellref26_Small.mono _ _ _ _ _ _ _)
   | (with_reducible exact jobshellref26_Valid.mono _ _ _ _ _ _ _)
   | (with_reducible exact tty_Feed.mono _ _ _ _ _ _ _ _)
   | (with_reducible exact LeO.refl _)
   | (with_reducible exact LeO.none _)
   | (with_reducible refine LeO.ite ?_ ?_)
   | (with_reducible refine LeO.bind ?_ (fun _ => ?_))
   | exact ih0 _ _ _ _ _ _ _ _ _
   | exact jobshelllaw26_awake.mono _
   | exact jobshelllaw26_numbers.mono _ _ _
   | exact jobshellref26_Same.mono _ _ _ _ _ _ _ _ _ _ _ _ _
   | exact jobshellref26_Small.mono _ _ _ _ _ _ _
   | exact jobshellref26_Valid.mono _ _ _ _ _ _ _
   | exact tty_Feed.mono _ _ _ _ _ _ _ _
   | exact LeO.none _
   | refine LeO.ite ?_ ?_
   | refine LeO.bind ?_ (fun _ => ?_)
set_option maxHeartbeats 8000000 in
set_option maxRecDepth 10000000 in
theorem jobshelllaw26_TtyParts.calls (k : Nat) (a0_0 : Int) (a0_1 : Int) (a0_2 : ByteArray) (A0_3 : Option Addr) (c0_3 : Nat) (l0_3 : List ByteArray) (a0_4 : ByteArray) (a0_5 : Bool) (a1 : ByteArray) (a2 : ByteArray) (r : Bool) (w : World) (hr0_3 : Kd.C Kd.string w A0_3 l0_3.length l0_3) (hc0_3 : l0_3.length ≤ c0_3) (h : jobshelllaw26_TtyParts.f k a0_0 a0_1 a0_2 l0_3 a0_4 a0_5 a1 a2 = some r) :
  Calls Try.prog 6 #[.agg #[.int .i64 a0_0, .int .i64 a0_1, .string a0_2, .slice A0_3 l0_3.length c0_3, .string a0_4, .bool a0_5], .string a1, .string a2] w fun e w' => e = .returned (.bool r) ∧ Below w.heap.size w w' := by
 have hu24 := Try.underlying24
 have HR0_3 := Aside0.mk hr0_3
 have HC0_3 := Aside0.mk hc0_3
 clear hr0_3 hc0_3
 have HB := Aside0.mk (Below.refl w.heap.size w)
 have H : ((jobshellref26_Small.f k a0_0 a0_1 a0_2 l0_3 a0_4 a0_5).bind fun t462 => (if t462 = true then ((jobshellref26_Valid.f k a0_0 a0_1 a0_2 l0_3 a0_4 a0_5).bind fun t463 => (if t463 = 0 then (if (a1.size : Int) > 200 then (jobshelllaw26_TtyParts.j0 k a1 a2 true a0_0 a0_1 a0_2 l0_3 a0_4 a0_5) else (jobshelllaw26_TtyParts.j0 k a1 a2 (decide ((a2.size : Int) > 200)) a0_0 a0_1 a0_2 l0_3 a0_4 a0_5)) else (jobshelllaw26_TtyParts.j0 k a1 a2 true a0_0 a0_1 a0_2 l0_3 a0_4 a0_5))) else (jobshelllaw26_TtyParts.j0 k a1 a2 true a0_0 a0_1 a0_2 l0_3 a0_4 a0_5))) = some r := h
 clear h
 have HC4 := Aside0.mk H
 clear H
 go_enter Try.func6, Try.ntmps6
 go_upto_region 1 with (first | ((with_reducible refine gate_dst (N := 3) rfl ?_); (try (refine gate_guard (by rfl) ?_; dsimp only)); refine box_event ?hg (N := 3) ?hd (cs := #[.int .i64 a0_0, .int .i64 a0_1, .string a0_2, .slice A0_3 l0_3.length c0_3, .string a0_4, .bool a0_5]) (t := 24) ?hr ?_; (case hd => rfl); (case hg => rfl); (case hr => first | (go_simp; done) | (go_simp; rfl)); intro gb461 hg w5 hbox hb; have n0_ := Aside0.mk (below_step (by repeat (first | (with_reducible first | exact HB.out | apply below_alloc | apply pw_below_drewN | apply below_drew1) | exact HB.out)) hb); have n1_ := Aside0.mk (hbox); have n2_ := Aside0.mk ((by rw [hg]; exact (below_size (by repeat (first | (with_reducible first | exact HB.out | apply below_alloc | apply pw_below_drewN | apply below_drew1) | exact HB.out))) : w.heap.size ≤ gb461)); have n3_ := Aside0.mk ((by rw [hg]; exact (below_size (by repeat (first | (with_reducible first | exact HB.out | apply below_alloc | apply pw_below_drewN | apply below_drew1) | exact HB.out))) : w.heap.size ≤ gb461)); clear HB; have HB := n0_; have BK461 := n1_; have GW461 := n2_; have GE461 := n3_; clear n0_ n1_ n2_ n3_; clear hb hbox hg))
 (try simp only [Act.put, List.setIfInBounds_toArray, List.set_cons_zero, List.set_cons_succ])
 go_cut [30] (fun v30 wc => ∃ (kq : Nat) (x30_3 : Bool), v30 = .bool x30_3 ∧ Aside0 (jobshelllaw26_TtyParts.j0 kq a1 a2 x30_3 a0_0 a0_1 a0_2 l0_3 a0_4 a0_5 = some r) ∧ Aside0 (kq ≤ k) ∧ Aside0 (wc.heap[gb461]? = some (.cells #[.int .i64 a0_0, .int .i64 a0_1, .string a0_2, (.slice A0_3 l0_3.length c0_3), .string a0_4, .bool a0_5] 24 (0, 0))) ∧ Aside0 (Below w.heap.size w wc))
 case first =>
  have H := HC4.out
  clear HC4
  replace H := Option.bind_eq_some_iff.mp H
  obtain ⟨t462, A60, H⟩ := H
  replace H : (if t462 = true then ((jobshellref26_Valid.f k a0_0 a0_1 a0_2 l0_3 a0_4 a0_5).bind fun t463 => (if t463 = 0 then (if (a1.size : Int) > 200 then (jobshelllaw26_TtyParts.j0 k a1 a2 true a0_0 a0_1 a0_2 l0_3 a0_4 a0_5) else (jobshelllaw26_TtyParts.j0 k a1 a2 (decide ((a2.size : Int) > 200)) a0_0 a0_1 a0_2 l0_3 a0_4 a0_5)) else (jobshelllaw26_TtyParts.j0 k a1 a2 true a0_0 a0_1 a0_2 l0_3 a0_4 a0_5))) else (jobshelllaw26_TtyParts.j0 k a1 a2 true a0_0 a0_1 a0_2 l0_3 a0_4 a0_5)) = some r := H
  have A6 := Aside0.mk A60
  clear A60
  by_cases c7 : t462 = true
  ·subst c7
   have H1 : ((jobshellref26_Valid.f k a0_0 a0_1 a0_2 l0_3 a0_4 a0_5).bind fun t463 => (if t463 = 0 then (if (a1.size : Int) > 200 then (jobshelllaw26_TtyParts.j0 k a1 a2 true a0_0 a0_1 a0_2 l0_3 a0_4 a0_5) else (jobshelllaw26_TtyParts.j0 k a1 a2 (decide ((a2.size : Int) > 200)) a0_0 a0_1 a0_2 l0_3 a0_4 a0_5)) else (jobshelllaw26_TtyParts.j0 k a1 a2 true a0_0 a0_1 a0_2 l0_3 a0_4 a0_5))) = some r := by rw [if_pos rfl] at H; exact H
   clear H
   have H := H1
   clear H1
   replace H := Option.bind_eq_some_iff.mp H
   obtain ⟨t463, A80, H⟩ := H
   replace H : (if t463 = 0 then (if (a1.size : Int) > 200 then (jobshelllaw26_TtyParts.j0 k a1 a2 true a0_0 a0_1 a0_2 l0_3 a0_4 a0_5) else (jobshelllaw26_TtyParts.j0 k a1 a2 (decide ((a2.size : Int) > 200)) a0_0 a0_1 a0_2 l0_3 a0_4 a0_5)) else (jobshelllaw26_TtyParts.j0 k a1 a2 true a0_0 a0_1 a0_2 l0_3 a0_4 a0_5)) = some r := H
   have A8 := Aside0.mk A80
   clear A80
   by_cases c9 : t463 = 0
   ·rw [if_pos c9] at H
    have c9b0 : (t463 == 0) = true := beq_iff_eq.mpr c9
    have c9b1 : (t463 != 0) = false := bne_eq_false_iff_eq.mpr c9
    clear c9
    (first | rw [c9b0] | (simp only [i64_w, i32_w]; rw [c9b0]) | skip)
    by_cases c10 : (a1.size : Int) > 200
    ·rw [if_pos c10] at H
     have c10b0 : decide (200 < (a1.size : Int)) = true := decide_eq_true c10
     have c10b1 : decide (200 < a1.size) = true := decide_eq_true (by omega)
     clear c10
     have H' := Aside0.mk H
     clear H
     have hcz11_0 : w5.cell? ⟨gb461, 0, none⟩ = some (.int .i64 a0_0) := (blk_cell BK461.out 0).trans rfl
     have hcz11_1 : w5.cell? ⟨gb461, 1, none⟩ = some (.int .i64 a0_1) := (blk_cell BK461.out 1).trans rfl
     have hcz11_2 : w5.cell? ⟨gb461, 2, none⟩ = some (.string a0_2) := (blk_cell BK461.out 2).trans rfl
     have hcz11_3 : w5.cell? ⟨gb461, 3, none⟩ = some (.slice A0_3 l0_3.length c0_3) := (blk_cell BK461.out 3).trans rfl
     have hcz11_4 : w5.cell? ⟨gb461, 4, none⟩ = some (.string a0_4) := (blk_cell BK461.out 4).trans rfl
     have hcz11_5 : w5.cell? ⟨gb461, 5, none⟩ = some (.bool a0_5) := (blk_cell BK461.out 5).trans rfl
     have hfz11_0 := blk_frozen BK461.out 0
     have hfz11_1 := blk_frozen BK461.out 1
     have hfz11_2 := blk_frozen BK461.out 2
     have hfz11_3 := blk_frozen BK461.out 3
     have hfz11_4 := blk_frozen BK461.out 4
     have hfz11_5 := blk_frozen BK461.out 5
     go_wp2_with (first | ((with_reducible refine gate_callee (f := 9) rfl ?_); refine goesL_ (some 14) rfl rfl Try.func9 (by kernel_rfl) rfl #[.agg #[.int .i64 a0_0, .int .i64 a0_1, .string a0_2, .slice A0_3 l0_3.length c0_3, .string a0_4, .bool a0_5]] rfl (by (try simp only [List.map_toArray, List.map_cons, List.map_nil]); first | done | rfl | (simp only [List.length_drop, List.length_take]; rfl)) ?_; (with_reducible refine (jobshellref26_Small.calls k a0_0 a0_1 a0_2 _ _ l0_3 a0_4 a0_5 true _ ?side1 ?side2 A6.out).mono ?_); (case side1 => repeat (first | exact (Kd.C_below HR0_3.out HB.out) | (with_reducible refine Kd.C_alloc ?_ _) | (with_reducible refine Kd.C_drewN ?_ _) | (with_reducible refine Kd.C_drew ?_))); (case side2 => exact HC0_3.out); rintro e w12 ⟨rfl, hb⟩; refine ⟨_, rfl, ?_⟩; have n0_ := Aside0.mk (blk_below (g := gb461) (o := .cells #[.int .i64 a0_0, .int .i64 a0_1, .string a0_2, .slice A0_3 l0_3.length c0_3, .string a0_4, .bool a0_5] 24 (0, 0)) (by (with_reducible repeat (first | refine blk_drewN ?_ _ | refine blk_drew ?_ | refine blk_alloc ?_ _)); exact BK461.out) hb); have n1_ := Aside0.mk (below_step (by repeat (first | (with_reducible first | exact HB.out | apply below_alloc | apply pw_below_drewN | apply below_drew1 | refine below_set ?_ GE461.out) | exact HB.out)) hb); clear BK461; clear HB; have BK461 := n0_; have HB := n1_; clear n0_ n1_; (try clear hb); (try clear hb2); (try clear hk); (try clear hi); have hcz13_0 : w12.cell? ⟨gb461, 0, none⟩ = some (.int .i64 a0_0) := (blk_cell BK461.out 0).trans rfl; have hcz13_1 : w12.cell? ⟨gb461, 1, none⟩ = some (.int .i64 a0_1) := (blk_cell BK461.out 1).trans rfl; have hcz13_2 : w12.cell? ⟨gb461, 2, none⟩ = some (.string a0_2) := (blk_cell BK461.out 2).trans rfl; have hcz13_3 : w12.cell? ⟨gb461, 3, none⟩ = some (.slice A0_3 l0_3.length c0_3) := (blk_cell BK461.out 3).trans rfl; have hcz13_4 : w12.cell? ⟨gb461, 4, none⟩ = some (.string a0_4) := (blk_cell BK461.out 4).trans rfl; have hcz13_5 : w12.cell? ⟨gb461, 5, none⟩ = some (.bool a0_5) := (blk_cell BK461.out 5).trans rfl; have hfz13_0 := blk_frozen BK461.out 0; have hfz13_1 := blk_frozen BK461.out 1; have hfz13_2 := blk_frozen BK461.out 2; have hfz13_3 := blk_frozen BK461.out 3; have hfz13_4 := blk_frozen BK461.out 4; have hfz13_5 := blk_frozen BK461.out 5) | (go_at_call 10; (with_reducible refine (jobshellref26_Valid.calls k a0_0 a0_1 a0_2 _ _ l0_3 a0_4 a0_5 t463 _ ?side1 ?side2 A8.out).mono ?_); (case side1 => repeat (first | exact (Kd.C_below HR0_3.out HB.out) | (with_reducible refine Kd.C_alloc ?_ _) | (with_reducible refine Kd.C_drewN ?_ _) | (with_reducible refine Kd.C_drew ?_))); (case side2 => exact HC0_3.out); rintro e w14 ⟨rfl, hb⟩; have n0_ := Aside0.mk (blk_below (g := gb461) (o := .cells #[.int .i64 a0_0, .int .i64 a0_1, .string a0_2, .slice A0_3 l0_3.length c0_3, .string a0_4, .bool a0_5] 24 (0, 0)) (by (with_reducible repeat (first | refine blk_drewN ?_ _ | refine blk_drew ?_ | refine blk_alloc ?_ _)); exact BK461.out) hb); have n1_ := Aside0.mk (below_step (by repeat (first | (with_reducible first | exact HB.out | apply below_alloc | apply pw_below_drewN | apply below_drew1 | refine below_set ?_ GE461.out) | exact HB.out)) hb); clear BK461; clear HB; have BK461 := n0_; have HB := n1_; clear n0_ n1_; (try clear hb); (try clear hb2); (try clear hk); (try clear hi)))
     go_meet
     case rel => exact ⟨_, (true), (by first | rfl | (simp; done) | (simp [*]; done) | (generalize ByteArray.toList _ = l_; cases l_ <;> rfl)), H', ⟨by first | omega | exact Nat.le_refl _⟩, ⟨by (with_reducible repeat (first | refine blk_drewN ?_ _ | refine blk_drew ?_ | refine blk_alloc ?_ _)); exact BK461.out⟩, ⟨by repeat (first | (with_reducible first | exact HB.out | apply below_alloc | apply pw_below_drewN | apply below_drew1 | refine below_set ?_ GE461.out) | exact HB.out)⟩⟩
    ·rw [if_neg c10] at H
     have c10b0 : decide (200 < (a1.size : Int)) = false := decide_eq_false c10
     have c10b1 : decide (200 < a1.size) = false := decide_eq_false (by omega)
     clear c10
     have H' := Aside0.mk H
     clear H
     have hcz15_0 : w5.cell? ⟨gb461, 0, none⟩ = some (.int .i64 a0_0) := (blk_cell BK461.out 0).trans rfl
     have hcz15_1 : w5.cell? ⟨gb461, 1, none⟩ = some (.int .i64 a0_1) := (blk_cell BK461.out 1).trans rfl
     have hcz15_2 : w5.cell? ⟨gb461, 2, none⟩ = some (.string a0_2) := (blk_cell BK461.out 2).trans rfl
     have hcz15_3 : w5.cell? ⟨gb461, 3, none⟩ = some (.slice A0_3 l0_3.length c0_3) := (blk_cell BK461.out 3).trans rfl
     have hcz15_4 : w5.cell? ⟨gb461, 4, none⟩ = some (.string a0_4) := (blk_cell BK461.out 4).trans rfl
     have hcz15_5 : w5.cell? ⟨gb461, 5, none⟩ = some (.bool a0_5) := (blk_cell BK461.out 5).trans rfl
     have hfz15_0 := blk_frozen BK461.out 0
     have hfz15_1 := blk_frozen BK461.out 1
     have hfz15_2 := blk_frozen BK461.out 2
     have hfz15_3 := blk_frozen BK461.out 3
     have hfz15_4 := blk_frozen BK461.out 4
     have hfz15_5 := blk_frozen BK461.out 5
     go_wp2_with (first | ((with_reducible refine gate_callee (f := 9) rfl ?_); refine goesL_ (some 14) rfl rfl Try.func9 (by kernel_rfl) rfl #[.agg #[.int .i64 a0_0, .int .i64 a0_1, .string a0_2, .slice A0_3 l0_3.length c0_3, .string a0_4, .bool a0_5]] rfl (by (try simp only [List.map_toArray, List.map_cons, List.map_nil]); first | done | rfl | (simp only [List.length_drop, List.length_take]; rfl)) ?_; (with_reducible refine (jobshellref26_Small.calls k a0_0 a0_1 a0_2 _ _ l0_3 a0_4 a0_5 true _ ?side1 ?side2 A6.out).mono ?_); (case side1 => repeat (first | exact (Kd.C_below HR0_3.out HB.out) | (with_reducible refine Kd.C_alloc ?_ _) | (with_reducible refine Kd.C_drewN ?_ _) | (with_reducible refine Kd.C_drew ?_))); (case side2 => exact HC0_3.out); rintro e w16 ⟨rfl, hb⟩; refine ⟨_, rfl, ?_⟩; have n0_ := Aside0.mk (blk_below (g := gb461) (o := .cells #[.int .i64 a0_0, .int .i64 a0_1, .string a0_2, .slice A0_3 l0_3.length c0_3, .string a0_4, .bool a0_5] 24 (0, 0)) (by (with_reducible repeat (first | refine blk_drewN ?_ _ | refine blk_drew ?_ | refine blk_alloc ?_ _)); exact BK461.out) hb); have n1_ := Aside0.mk (below_step (by repeat (first | (with_reducible first | exact HB.out | apply below_alloc | apply pw_below_drewN | apply below_drew1 | refine below_set ?_ GE461.out) | exact HB.out)) hb); clear BK461; clear HB; have BK461 := n0_; have HB := n1_; clear n0_ n1_; (try clear hb); (try clear hb2); (try clear hk); (try clear hi); have hcz17_0 : w16.cell? ⟨gb461, 0, none⟩ = some (.int .i64 a0_0) := (blk_cell BK461.out 0).trans rfl; have hcz17_1 : w16.cell? ⟨gb461, 1, none⟩ = some (.int .i64 a0_1) := (blk_cell BK461.out 1).trans rfl; have hcz17_2 : w16.cell? ⟨gb461, 2, none⟩ = some (.string a0_2) := (blk_cell BK461.out 2).trans rfl; have hcz17_3 : w16.cell? ⟨gb461, 3, none⟩ = some (.slice A0_3 l0_3.length c0_3) := (blk_cell BK461.out 3).trans rfl; have hcz17_4 : w16.cell? ⟨gb461, 4, none⟩ = some (.string a0_4) := (blk_cell BK461.out 4).trans rfl; have hcz17_5 : w16.cell? ⟨gb461, 5, none⟩ = some (.bool a0_5) := (blk_cell BK461.out 5).trans rfl; have hfz17_0 := blk_frozen BK461.out 0; have hfz17_1 := blk_frozen BK461.out 1; have hfz17_2 := blk_frozen BK461.out 2; have hfz17_3 := blk_frozen BK461.out 3; have hfz17_4 := blk_frozen BK461.out 4; have hfz17_5 := blk_frozen BK461.out 5) | (go_at_call 10; (with_reducible refine (jobshellref26_Valid.calls k a0_0 a0_1 a0_2 _ _ l0_3 a0_4 a0_5 t463 _ ?side1 ?side2 A8.out).mono ?_); (case side1 => repeat (first | exact (Kd.C_below HR0_3.out HB.out) | (with_reducible refine Kd.C_alloc ?_ _) | (with_reducible refine Kd.C_drewN ?_ _) | (with_reducible refine Kd.C_drew ?_))); (case side2 => exact HC0_3.out); rintro e w18 ⟨rfl, hb⟩; have n0_ := Aside0.mk (blk_below (g := gb461) (o := .cells #[.int .i64 a0_0, .int .i64 a0_1, .string a0_2, .slice A0_3 l0_3.length c0_3, .string a0_4, .bool a0_5] 24 (0, 0)) (by (with_reducible repeat (first | refine blk_drewN ?_ _ | refine blk_drew ?_ | refine blk_alloc ?_ _)); exact BK461.out) hb); have n1_ := Aside0.mk (below_step (by repeat (first | (with_reducible first | exact HB.out | apply below_alloc | apply pw_below_drewN | apply below_drew1 | refine below_set ?_ GE461.out) | exact HB.out)) hb); clear BK461; clear HB; have BK461 := n0_; have HB := n1_; clear n0_ n1_; (try clear hb); (try clear hb2); (try clear hk); (try clear hi)))
     go_meet
     case rel => exact ⟨_, (decide ((a2.size : Int) > 200)), (by first | rfl | (simp; done) | (simp [*]; done) | (generalize ByteArray.toList _ = l_; cases l_ <;> rfl)), H', ⟨by first | omega | exact Nat.le_refl _⟩, ⟨by (with_reducible repeat (first | refine blk_drewN ?_ _ | refine blk_drew ?_ | refine blk_alloc ?_ _)); exact BK461.out⟩, ⟨by repeat (first | (with_reducible first | exact HB.out | apply below_alloc | apply pw_below_drewN | apply below_drew1 | refine below_set ?_ GE461.out) | exact HB.out)⟩⟩
   ·rw [if_neg c9] at H
    have c9b0 : (t463 == 0) = false := beq_eq_false_iff_ne.mpr c9
    have c9b1 : (t463 != 0) = true := bne_iff_ne.mpr c9
    (first | rw [c9b0] | (simp only [i64_w, i32_w]; rw [c9b0]) | skip)
    have H' := Aside0.mk H
    clear H
    have hcz19_0 : w5.cell? ⟨gb461, 0, none⟩ = some (.int .i64 a0_0) := (blk_cell BK461.out 0).trans rfl
    have hcz19_1 : w5.cell? ⟨gb461, 1, none⟩ = some (.int .i64 a0_1) := (blk_cell BK461.out 1).trans rfl
    have hcz19_2 : w5.cell? ⟨gb461, 2, none⟩ = some (.string a0_2) := (blk_cell BK461.out 2).trans rfl
    have hcz19_3 : w5.cell? ⟨gb461, 3, none⟩ = some (.slice A0_3 l0_3.length c0_3) := (blk_cell BK461.out 3).trans rfl
    have hcz19_4 : w5.cell? ⟨gb461, 4, none⟩ = some (.string a0_4) := (blk_cell BK461.out 4).trans rfl
    have hcz19_5 : w5.cell? ⟨gb461, 5, none⟩ = some (.bool a0_5) := (blk_cell BK461.out 5).trans rfl
    have hfz19_0 := blk_frozen BK461.out 0
    have hfz19_1 := blk_frozen BK461.out 1
    have hfz19_2 := blk_frozen BK461.out 2
    have hfz19_3 := blk_frozen BK461.out 3
    have hfz19_4 := blk_frozen BK461.out 4
    have hfz19_5 := blk_frozen BK461.out 5
    go_wp2_with (first | ((with_reducible refine gate_callee (f := 9) rfl ?_); refine goesL_ (some 14) rfl rfl Try.func9 (by kernel_rfl) rfl #[.agg #[.int .i64 a0_0, .int .i64 a0_1, .string a0_2, .slice A0_3 l0_3.length c0_3, .string a0_4, .bool a0_5]] rfl (by (try simp only [List.map_toArray, List.map_cons, List.map_nil]); first | done | rfl | (simp only [List.length_drop, List.length_take]; rfl)) ?_; (with_reducible refine (jobshellref26_Small.calls k a0_0 a0_1 a0_2 _ _ l0_3 a0_4 a0_5 true _ ?side1 ?side2 A6.out).mono ?_); (case side1 => repeat (first | exact (Kd.C_below HR0_3.out HB.out) | (with_reducible refine Kd.C_alloc ?_ _) | (with_reducible refine Kd.C_drewN ?_ _) | (with_reducible refine Kd.C_drew ?_))); (case side2 => exact HC0_3.out); rintro e w20 ⟨rfl, hb⟩; refine ⟨_, rfl, ?_⟩; have n0_ := Aside0.mk (blk_below (g := gb461) (o := .cells #[.int .i64 a0_0, .int .i64 a0_1, .string a0_2, .slice A0_3 l0_3.length c0_3, .string a0_4, .bool a0_5] 24 (0, 0)) (by (with_reducible repeat (first | refine blk_drewN ?_ _ | refine blk_drew ?_ | refine blk_alloc ?_ _)); exact BK461.out) hb); have n1_ := Aside0.mk (below_step (by repeat (first | (with_reducible first | exact HB.out | apply below_alloc | apply pw_below_drewN | apply below_drew1 | refine below_set ?_ GE461.out) | exact HB.out)) hb); clear BK461; clear HB; have BK461 := n0_; have HB := n1_; clear n0_ n1_; (try clear hb); (try clear hb2); (try clear hk); (try clear hi); have hcz21_0 : w20.cell? ⟨gb461, 0, none⟩ = some (.int .i64 a0_0) := (blk_cell BK461.out 0).trans rfl; have hcz21_1 : w20.cell? ⟨gb461, 1, none⟩ = some (.int .i64 a0_1) := (blk_cell BK461.out 1).trans rfl; have hcz21_2 : w20.cell? ⟨gb461, 2, none⟩ = some (.string a0_2) := (blk_cell BK461.out 2).trans rfl; have hcz21_3 : w20.cell? ⟨gb461, 3, none⟩ = some (.slice A0_3 l0_3.length c0_3) := (blk_cell BK461.out 3).trans rfl; have hcz21_4 : w20.cell? ⟨gb461, 4, none⟩ = some (.string a0_4) := (blk_cell BK461.out 4).trans rfl; have hcz21_5 : w20.cell? ⟨gb461, 5, none⟩ = some (.bool a0_5) := (blk_cell BK461.out 5).trans rfl; have hfz21_0 := blk_frozen BK461.out 0; have hfz21_1 := blk_frozen BK461.out 1; have hfz21_2 := blk_frozen BK461.out 2; have hfz21_3 := blk_frozen BK461.out 3; have hfz21_4 := blk_frozen BK461.out 4; have hfz21_5 := blk_frozen BK461.out 5) | (go_at_call 10; (with_reducible refine (jobshellref26_Valid.calls k a0_0 a0_1 a0_2 _ _ l0_3 a0_4 a0_5 t463 _ ?side1 ?side2 A8.out).mono ?_); (case side1 => repeat (first | exact (Kd.C_below HR0_3.out HB.out) | (with_reducible refine Kd.C_alloc ?_ _) | (with_reducible refine Kd.C_drewN ?_ _) | (with_reducible refine Kd.C_drew ?_))); (case side2 => exact HC0_3.out); rintro e w22 ⟨rfl, hb⟩; have n0_ := Aside0.mk (blk_below (g := gb461) (o := .cells #[.int .i64 a0_0, .int .i64 a0_1, .string a0_2, .slice A0_3 l0_3.length c0_3, .string a0_4, .bool a0_5] 24 (0, 0)) (by (with_reducible repeat (first | refine blk_drewN ?_ _ | refine blk_drew ?_ | refine blk_alloc ?_ _)); exact BK461.out) hb); have n1_ := Aside0.mk (below_step (by repeat (first | (with_reducible first | exact HB.out | apply below_alloc | apply pw_below_drewN | apply below_drew1 | refine below_set ?_ GE461.out) | exact HB.out)) hb); clear BK461; clear HB; have BK461 := n0_; have HB := n1_; clear n0_ n1_; (try clear hb); (try clear hb2); (try clear hk); (try clear hi)))
    go_meet
    case rel => exact ⟨_, (true), (by first | rfl | (simp; done) | (simp [*]; done) | (generalize ByteArray.toList _ = l_; cases l_ <;> rfl)), H', ⟨by first | omega | exact Nat.le_refl _⟩, ⟨by (with_reducible repeat (first | refine blk_drewN ?_ _ | refine blk_drew ?_ | refine blk_alloc ?_ _)); exact BK461.out⟩, ⟨by repeat (first | (with_reducible first | exact HB.out | apply below_alloc | apply pw_below_drewN | apply below_drew1 | refine below_set ?_ GE461.out) | exact HB.out)⟩⟩
  ·replace c7 := Bool.eq_false_iff.mpr c7
   subst c7
   have H1 : (jobshelllaw26_TtyParts.j0 k a1 a2 true a0_0 a0_1 a0_2 l0_3 a0_4 a0_5) = some r := by rw [if_neg (show ¬ (false = true) by decide)] at H; exact H
   clear H
   have H := H1
   clear H1
   have H' := Aside0.mk H
   clear H
   have hcz23_0 : w5.cell? ⟨gb461, 0, none⟩ = some (.int .i64 a0_0) := (blk_cell BK461.out 0).trans rfl
   have hcz23_1 : w5.cell? ⟨gb461, 1, none⟩ = some (.int .i64 a0_1) := (blk_cell BK461.out 1).trans rfl
   have hcz23_2 : w5.cell? ⟨gb461, 2, none⟩ = some (.string a0_2) := (blk_cell BK461.out 2).trans rfl
   have hcz23_3 : w5.cell? ⟨gb461, 3, none⟩ = some (.slice A0_3 l0_3.length c0_3) := (blk_cell BK461.out 3).trans rfl
   have hcz23_4 : w5.cell? ⟨gb461, 4, none⟩ = some (.string a0_4) := (blk_cell BK461.out 4).trans rfl
   have hcz23_5 : w5.cell? ⟨gb461, 5, none⟩ = some (.bool a0_5) := (blk_cell BK461.out 5).trans rfl
   have hfz23_0 := blk_frozen BK461.out 0
   have hfz23_1 := blk_frozen BK461.out 1
   have hfz23_2 := blk_frozen BK461.out 2
   have hfz23_3 := blk_frozen BK461.out 3
   have hfz23_4 := blk_frozen BK461.out 4
   have hfz23_5 := blk_frozen BK461.out 5
   go_wp2_with (first | ((with_reducible refine gate_callee (f := 9) rfl ?_); refine goesL_ (some 14) rfl rfl Try.func9 (by kernel_rfl) rfl #[.agg #[.int .i64 a0_0, .int .i64 a0_1, .string a0_2, .slice A0_3 l0_3.length c0_3, .string a0_4, .bool a0_5]] rfl (by (try simp only [List.map_toArray, List.map_cons, List.map_nil]); first | done | rfl | (simp only [List.length_drop, List.length_take]; rfl)) ?_; (with_reducible refine (jobshellref26_Small.calls k a0_0 a0_1 a0_2 _ _ l0_3 a0_4 a0_5 false _ ?side1 ?side2 A6.out).mono ?_); (case side1 => repeat (first | exact (Kd.C_below HR0_3.out HB.out) | (with_reducible refine Kd.C_alloc ?_ _) | (with_reducible refine Kd.C_drewN ?_ _) | (with_reducible refine Kd.C_drew ?_))); (case side2 => exact HC0_3.out); rintro e w24 ⟨rfl, hb⟩; refine ⟨_, rfl, ?_⟩; have n0_ := Aside0.mk (blk_below (g := gb461) (o := .cells #[.int .i64 a0_0, .int .i64 a0_1, .string a0_2, .slice A0_3 l0_3.length c0_3, .string a0_4, .bool a0_5] 24 (0, 0)) (by (with_reducible repeat (first | refine blk_drewN ?_ _ | refine blk_drew ?_ | refine blk_alloc ?_ _)); exact BK461.out) hb); have n1_ := Aside0.mk (below_step (by repeat (first | (with_reducible first | exact HB.out | apply below_alloc | apply pw_below_drewN | apply below_drew1 | refine below_set ?_ GE461.out) | exact HB.out)) hb); clear BK461; clear HB; have BK461 := n0_; have HB := n1_; clear n0_ n1_; (try clear hb); (try clear hb2); (try clear hk); (try clear hi)))
   go_meet
   case rel => exact ⟨_, (true), (by first | rfl | (simp; done) | (simp [*]; done) | (generalize ByteArray.toList _ = l_; cases l_ <;> rfl)), H', ⟨by first | omega | exact Nat.le_refl _⟩, ⟨by (with_reducible repeat (first | refine blk_drewN ?_ _ | refine blk_drew ?_ | refine blk_alloc ?_ _)); exact BK461.out⟩, ⟨by repeat (first | (with_reducible first | exact HB.out | apply below_alloc | apply pw_below_drewN | apply below_drew1 | refine below_set ?_ GE461.out) | exact HB.out)⟩⟩
 case rest =>
  clear HC4
  try clear c1
  try clear p2
  try clear c6
  try clear c7
  try clear c9
  try clear c9b0
  try clear c9b1
  try clear c10
  try clear c10b0
  try clear c10b1
  try clear hcz11_0
  try clear hcz11_1
  try clear hcz11_2
  try clear hcz11_3
  try clear hcz11_4
  try clear hcz11_5
  try clear hcz13_0
  try clear hcz13_1
  try clear hcz13_2
  try clear hcz13_3
  try clear hcz13_4
  try clear hcz13_5
  try clear hcz15_0
  try clear hcz15_1
  try clear hcz15_2
  try clear hcz15_3
  try clear hcz15_4
  try clear hcz15_5
  try clear hcz17_0
  try clear hcz17_1
  try clear hcz17_2
  try clear hcz17_3
  try clear hcz17_4
  try clear hcz17_5
  try clear hcz19_0
  try clear hcz19_1
  try clear hcz19_2
  try clear hcz19_3
  try clear hcz19_4
  try clear hcz19_5
  try clear hcz21_0
  try clear hcz21_1
  try clear hcz21_2
  try clear hcz21_3
  try clear hcz21_4
  try clear hcz21_5
  try clear hcz23_0
  try clear hcz23_1
  try clear hcz23_2
  try clear hcz23_3
  try clear hcz23_4
  try clear hcz23_5
  try clear hfz11_0
  try clear hfz11_1
  try clear hfz11_2
  try clear hfz11_3
  try clear hfz11_4
  try clear hfz11_5
  try clear hfz13_0
  try clear hfz13_1
  try clear hfz13_2
  try clear hfz13_3
  try clear hfz13_4
  try clear hfz13_5
  try clear hfz15_0
  try clear hfz15_1
  try clear hfz15_2
  try clear hfz15_3
  try clear hfz15_4
  try clear hfz15_5
  try clear hfz17_0
  try clear hfz17_1
  try clear hfz17_2
  try clear hfz17_3
  try clear hfz17_4
  try clear hfz17_5
  try clear hfz19_0
  try clear hfz19_1
  try clear hfz19_2
  try clear hfz19_3
  try clear hfz19_4
  try clear hfz19_5
  try clear hfz21_0
  try clear hfz21_1
  try clear hfz21_2
  try clear hfz21_3
  try clear hfz21_4
  try clear hfz21_5
  try clear hfz23_0
  try clear hfz23_1
  try clear hfz23_2
  try clear hfz23_3
  try clear hfz23_4
  try clear hfz23_5
  obtain ⟨kq, x30_3, rfl, HA, HJ3, BK461, HB⟩ := hcut
  cases kq with
  | zero => exact absurd HA.out (by simp [jobshelllaw26_TtyParts.j0])
  | succ kj3 =>
   have H := HA.out
   clear HA
   simp only [jobshelllaw26_TtyParts.j0] at H
   by_cases c25 : x30_3 = true
   ·subst c25
    have H1 : ((jobshelllaw26_awake.f kj3).bind fun t464 => (some t464)) = some r := by rw [if_pos rfl] at H; exact H
    clear H
    have H := H1
    clear H1
    replace H := Option.bind_eq_some_iff.mp H
    obtain ⟨t464, A260, H⟩ := H
    replace H : (some t464) = some r := H
    have A26 := Aside0.mk A260
    clear A260
    obtain rfl := Option.some.inj H
    go_wp2_with (first | ((with_reducible refine gate_callee (f := 11) rfl ?_); refine goesL_ (some 31) rfl rfl Try.func11 (by kernel_rfl) rfl #[] rfl (by (try simp only [List.map_toArray, List.map_cons, List.map_nil]); first | done | rfl | (simp only [List.length_drop, List.length_take]; rfl)) ?_; (with_reducible refine (jobshelllaw26_awake.calls kj3  t464 _ A26.out).mono ?_); rintro e w27 ⟨rfl, hb⟩; refine ⟨_, rfl, ?_⟩; have n0_ := Aside0.mk (blk_below (g := gb461) (o := .cells #[.int .i64 a0_0, .int .i64 a0_1, .string a0_2, .slice A0_3 l0_3.length c0_3, .string a0_4, .bool a0_5] 24 (0, 0)) (by (with_reducible repeat (first | refine blk_drewN ?_ _ | refine blk_drew ?_ | refine blk_alloc ?_ _)); exact BK461.out) hb); have n1_ := Aside0.mk (below_step (by repeat (first | (with_reducible first | exact HB.out | apply below_alloc | apply pw_below_drewN | apply below_drew1 | refine below_set ?_ GE461.out) | exact HB.out)) hb); clear BK461; clear HB; have BK461 := n0_; have HB := n1_; clear n0_ n1_; (try clear hb); (try clear hb2); (try clear hk); (try clear hi)))
    go_ret
    exact ⟨by first | rfl | (simp [errW_none, errW_some] <;> rfl) | (simp [*, errW_none, errW_some] <;> rfl), by repeat (first | (with_reducible first | exact HB.out | apply below_alloc | apply pw_below_drewN | apply below_drew1 | refine below_set ?_ GE461.out) | exact HB.out)⟩
   ·replace c25 := Bool.eq_false_iff.mpr c25
    subst c25
    have H1 : ((tty_Feed.f kj3 a0_0 a0_1 a0_2 l0_3 a0_4 a0_5 a1).bind fun bt465 => ((tty_Feed.f kj3 bt465.1 bt465.2.1 bt465.2.2.1 bt465.2.2.2.1 bt465.2.2.2.2.1 bt465.2.2.2.2.2.1 a2).bind fun bt477 => (if a1.size + a2.size ≤ 9223372036854775807 then ((tty_Feed.f kj3 a0_0 a0_1 a0_2 l0_3 a0_4 a0_5 (a1 ++ a2)).bind fun bt489 => ((jobshellref26_Same.f kj3 bt477.1 bt477.2.1 bt477.2.2.1 bt477.2.2.2.1 bt477.2.2.2.2.1 bt477.2.2.2.2.2.1 bt489.1 bt489.2.1 bt489.2.2.1 bt489.2.2.2.1 bt489.2.2.2.2.1 bt489.2.2.2.2.2.1).bind fun t501 => (if t501 = true then (if (bt489.2.2.2.2.2.2.length : Int) = (wrap64 ((bt465.2.2.2.2.2.2.length : Int) + (bt477.2.2.2.2.2.2.length : Int))) then (if 0 ≤ (bt465.2.2.2.2.2.2.length : Int) then (if (bt465.2.2.2.2.2.2.length : Int) ≤ (bt489.2.2.2.2.2.2.length : Int) then ((jobshelllaw26_numbers.f kj3 (bt489.2.2.2.2.2.2.take ((bt465.2.2.2.2.2.2.length : Int) : Int).toNat) bt465.2.2.2.2.2.2).bind fun t506 => (if t506 = true then ((jobshelllaw26_numbers.f kj3 (bt489.2.2.2.2.2.2.drop ((bt465.2.2.2.2.2.2.length : Int) : Int).toNat) bt477.2.2.2.2.2.2).bind fun t511 => (if t511 = true then ((jobshelllaw26_awake.f kj3).bind fun t512 => (some t512)) else (none))) else (none))) else (none)) else (none)) else (none)) else (none)))) else (none)))) = some r := by rw [if_neg (show ¬ (false = true) by decide)] at H; exact H
    clear H
    have H := H1
    clear H1
    replace H := Option.bind_eq_some_iff.mp H
    obtain ⟨⟨t465, t466, t467, t468, t471, t472, t473⟩, A280, H⟩ := H
    replace H : ((tty_Feed.f kj3 t465 t466 t467 t468 t471 t472 a2).bind fun bt477 => (if a1.size + a2.size ≤ 9223372036854775807 then ((tty_Feed.f kj3 a0_0 a0_1 a0_2 l0_3 a0_4 a0_5 (a1 ++ a2)).bind fun bt489 => ((jobshellref26_Same.f kj3 bt477.1 bt477.2.1 bt477.2.2.1 bt477.2.2.2.1 bt477.2.2.2.2.1 bt477.2.2.2.2.2.1 bt489.1 bt489.2.1 bt489.2.2.1 bt489.2.2.2.1 bt489.2.2.2.2.1 bt489.2.2.2.2.2.1).bind fun t501 => (if t501 = true then (if (bt489.2.2.2.2.2.2.length : Int) = (wrap64 ((t473.length : Int) + (bt477.2.2.2.2.2.2.length : Int))) then (if 0 ≤ (t473.length : Int) then (if (t473.length : Int) ≤ (bt489.2.2.2.2.2.2.length : Int) then ((jobshelllaw26_numbers.f kj3 (bt489.2.2.2.2.2.2.take ((t473.length : Int) : Int).toNat) t473).bind fun t506 => (if t506 = true then ((jobshelllaw26_numbers.f kj3 (bt489.2.2.2.2.2.2.drop ((t473.length : Int) : Int).toNat) bt477.2.2.2.2.2.2).bind fun t511 => (if t511 = true then ((jobshelllaw26_awake.f kj3).bind fun t512 => (some t512)) else (none))) else (none))) else (none)) else (none)) else (none)) else (none)))) else (none))) = some r := H
    have A28 := Aside0.mk A280
    clear A280
    replace H := Option.bind_eq_some_iff.mp H
    obtain ⟨⟨t477, t478, t479, t480, t483, t484, t485⟩, A290, H⟩ := H
    replace H : (if a1.size + a2.size ≤ 9223372036854775807 then ((tty_Feed.f kj3 a0_0 a0_1 a0_2 l0_3 a0_4 a0_5 (a1 ++ a2)).bind fun bt489 => ((jobshellref26_Same.f kj3 t477 t478 t479 t480 t483 t484 bt489.1 bt489.2.1 bt489.2.2.1 bt489.2.2.2.1 bt489.2.2.2.2.1 bt489.2.2.2.2.2.1).bind fun t501 => (if t501 = true then (if (bt489.2.2.2.2.2.2.length : Int) = (wrap64 ((t473.length : Int) + (t485.length : Int))) then (if 0 ≤ (t473.length : Int) then (if (t473.length : Int) ≤ (bt489.2.2.2.2.2.2.length : Int) then ((jobshelllaw26_numbers.f kj3 (bt489.2.2.2.2.2.2.take ((t473.length : Int) : Int).toNat) t473).bind fun t506 => (if t506 = true then ((jobshelllaw26_numbers.f kj3 (bt489.2.2.2.2.2.2.drop ((t473.length : Int) : Int).toNat) t485).bind fun t511 => (if t511 = true then ((jobshelllaw26_awake.f kj3).bind fun t512 => (some t512)) else (none))) else (none))) else (none)) else (none)) else (none)) else (none)))) else (none)) = some r := H
    have A29 := Aside0.mk A290
    clear A290
    by_cases c30 : a1.size + a2.size ≤ 9223372036854775807
    ·rw [if_pos c30] at H
     have c30b0 := eq_true c30
     have c30b1 : decide (a1.size + a2.size ≤ 9223372036854775807) = true := decide_eq_true c30
     try have c30b2 : (9223372036854775807 < a1.size + a2.size) = False := eq_false (Nat.not_lt.2 c30)
     (try (have c30b3 := c30b2; simp only [Int.toNat_natCast, ByteArray.extract_zero_size] at c30b3))
     clear c30
     replace H := Option.bind_eq_some_iff.mp H
     obtain ⟨⟨t489, t490, t491, t492, t495, t496, t497⟩, A310, H⟩ := H
     replace H : ((jobshellref26_Same.f kj3 t477 t478 t479 t480 t483 t484 t489 t490 t491 t492 t495 t496).bind fun t501 => (if t501 = true then (if (t497.length : Int) = (wrap64 ((t473.length : Int) + (t485.length : Int))) then (if 0 ≤ (t473.length : Int) then (if (t473.length : Int) ≤ (t497.length : Int) then ((jobshelllaw26_numbers.f kj3 (t497.take ((t473.length : Int) : Int).toNat) t473).bind fun t506 => (if t506 = true then ((jobshelllaw26_numbers.f kj3 (t497.drop ((t473.length : Int) : Int).toNat) t485).bind fun t511 => (if t511 = true then ((jobshelllaw26_awake.f kj3).bind fun t512 => (some t512)) else (none))) else (none))) else (none)) else (none)) else (none)) else (none))) = some r := H
     have A31 := Aside0.mk A310
     clear A310
     replace H := Option.bind_eq_some_iff.mp H
     obtain ⟨t501, A320, H⟩ := H
     replace H : (if t501 = true then (if (t497.length : Int) = (wrap64 ((t473.length : Int) + (t485.length : Int))) then (if 0 ≤ (t473.length : Int) then (if (t473.length : Int) ≤ (t497.length : Int) then ((jobshelllaw26_numbers.f kj3 (t497.take ((t473.length : Int) : Int).toNat) t473).bind fun t506 => (if t506 = true then ((jobshelllaw26_numbers.f kj3 (t497.drop ((t473.length : Int) : Int).toNat) t485).bind fun t511 => (if t511 = true then ((jobshelllaw26_awake.f kj3).bind fun t512 => (some t512)) else (none))) else (none))) else (none)) else (none)) else (none)) else (none)) = some r := H
     have A32 := Aside0.mk A320
     clear A320
     by_cases c33 : t501 = true
     ·subst c33
      have H1 : (if (t497.length : Int) = (wrap64 ((t473.length : Int) + (t485.length : Int))) then (if 0 ≤ (t473.length : Int) then (if (t473.length : Int) ≤ (t497.length : Int) then ((jobshelllaw26_numbers.f kj3 (t497.take ((t473.length : Int) : Int).toNat) t473).bind fun t506 => (if t506 = true then ((jobshelllaw26_numbers.f kj3 (t497.drop ((t473.length : Int) : Int).toNat) t485).bind fun t511 => (if t511 = true then ((jobshelllaw26_awake.f kj3).bind fun t512 => (some t512)) else (none))) else (none))) else (none)) else (none)) else (none)) = some r := by rw [if_pos rfl] at H; exact H
      clear H
      have H := H1
      clear H1
      by_cases c34 : (t497.length : Int) = (wrap64 ((t473.length : Int) + (t485.length : Int)))
      ·rw [if_pos c34] at H
       have c34b0 : ((t497.length : Int) == (wrap64 ((t473.length : Int) + (t485.length : Int)))) = true := beq_iff_eq.mpr c34
       have c34b1 : ((t497.length : Int) != (wrap64 ((t473.length : Int) + (t485.length : Int)))) = false := bne_eq_false_iff_eq.mpr c34
       clear c34
       by_cases c35 : 0 ≤ (t473.length : Int)
       ·rw [if_pos c35] at H
        have c35b0 := eq_true c35
        have c35b1 : decide (0 ≤ (t473.length : Int)) = true := decide_eq_true c35
        clear c35
        by_cases c36 : (t473.length : Int) ≤ (t497.length : Int)
        ·rw [if_pos c36] at H
         have c36b0 := eq_true c36
         have c36b1 : decide ((t473.length : Int) ≤ (t497.length : Int)) = true := decide_eq_true c36
         clear c36
         obtain ⟨y502, hy502⟩ : ∃ y_ : List Int, y_ = (t497.take ((t473.length : Int) : Int).toNat) := ⟨_, rfl⟩
         replace H : ((jobshelllaw26_numbers.f kj3 y502 t473).bind fun t506 => (if t506 = true then ((jobshelllaw26_numbers.f kj3 (t497.drop ((t473.length : Int) : Int).toNat) t485).bind fun t511 => (if t511 = true then ((jobshelllaw26_awake.f kj3).bind fun t512 => (some t512)) else (none))) else (none))) = some r := by first | (rw [hy502]; with_reducible exact H) | (have H2_ := (Option.bind_some _ _).symm.trans H; rw [hy502]; with_reducible exact H2_) | (have H2_ := (Option.bind_some _ _).symm.trans H; with_reducible exact H2_) | with_reducible exact H | (rw [hy502]; exact H) | exact H
         have Ny502 := Aside0.mk hy502
         clear hy502
         replace H := Option.bind_eq_some_iff.mp H
         obtain ⟨t506, A370, H⟩ := H
         replace H : (if t506 = true then ((jobshelllaw26_numbers.f kj3 (t497.drop ((t473.length : Int) : Int).toNat) t485).bind fun t511 => (if t511 = true then ((jobshelllaw26_awake.f kj3).bind fun t512 => (some t512)) else (none))) else (none)) = some r := H
         have A37 := Aside0.mk A370
         clear A370
         by_cases c38 : t506 = true
         ·subst c38
          have H1 : ((jobshelllaw26_numbers.f kj3 (t497.drop ((t473.length : Int) : Int).toNat) t485).bind fun t511 => (if t511 = true then ((jobshelllaw26_awake.f kj3).bind fun t512 => (some t512)) else (none))) = some r := by rw [if_pos rfl] at H; exact H
          clear H
          have H := H1
          clear H1
          have c39b0 := eq_true (of_decide_eq_true (by first | (with_reducible assumption) | assumption) : 0 ≤ (t473.length : Int))
          have c40b0 := eq_true (of_decide_eq_true (by first | (with_reducible assumption) | assumption) : (t473.length : Int) ≤ (t497.length : Int))
          obtain ⟨y507, hy507⟩ : ∃ y_ : List Int, y_ = (t497.drop ((t473.length : Int) : Int).toNat) := ⟨_, rfl⟩
          replace H : ((jobshelllaw26_numbers.f kj3 y507 t485).bind fun t511 => (if t511 = true then ((jobshelllaw26_awake.f kj3).bind fun t512 => (some t512)) else (none))) = some r := by first | (rw [hy507]; with_reducible exact H) | (have H2_ := (Option.bind_some _ _).symm.trans H; rw [hy507]; with_reducible exact H2_) | (have H2_ := (Option.bind_some _ _).symm.trans H; with_reducible exact H2_) | with_reducible exact H | (rw [hy507]; exact H) | exact H
          have Ny507 := Aside0.mk hy507
          clear hy507
          replace H := Option.bind_eq_some_iff.mp H
          obtain ⟨t511, A410, H⟩ := H
          replace H : (if t511 = true then ((jobshelllaw26_awake.f kj3).bind fun t512 => (some t512)) else (none)) = some r := H
          have A41 := Aside0.mk A410
          clear A410
          by_cases c42 : t511 = true
          ·subst c42
           have H1 : ((jobshelllaw26_awake.f kj3).bind fun t512 => (some t512)) = some r := by rw [if_pos rfl] at H; exact H
           clear H
           have H := H1
           clear H1
           replace H := Option.bind_eq_some_iff.mp H
           obtain ⟨t512, A430, H⟩ := H
           replace H : (some t512) = some r := H
           have A43 := Aside0.mk A430
           clear A430
           obtain rfl := Option.some.inj H
           have hcz44_0 : wc.cell? ⟨gb461, 0, none⟩ = some (.int .i64 a0_0) := (blk_cell BK461.out 0).trans rfl
           have hcz44_1 : wc.cell? ⟨gb461, 1, none⟩ = some (.int .i64 a0_1) := (blk_cell BK461.out 1).trans rfl
           have hcz44_2 : wc.cell? ⟨gb461, 2, none⟩ = some (.string a0_2) := (blk_cell BK461.out 2).trans rfl
           have hcz44_3 : wc.cell? ⟨gb461, 3, none⟩ = some (.slice A0_3 l0_3.length c0_3) := (blk_cell BK461.out 3).trans rfl
           have hcz44_4 : wc.cell? ⟨gb461, 4, none⟩ = some (.string a0_4) := (blk_cell BK461.out 4).trans rfl
           have hcz44_5 : wc.cell? ⟨gb461, 5, none⟩ = some (.bool a0_5) := (blk_cell BK461.out 5).trans rfl
           have hfz44_0 := blk_frozen BK461.out 0
           have hfz44_1 := blk_frozen BK461.out 1
           have hfz44_2 := blk_frozen BK461.out 2
           have hfz44_3 := blk_frozen BK461.out 3
           have hfz44_4 := blk_frozen BK461.out 4
           have hfz44_5 := blk_frozen BK461.out 5
           go_wp2_with (first | ((with_reducible refine gate_callee (f := 14) rfl ?_); refine goesL_ (some 35) rfl rfl Try.func14 (by kernel_rfl) rfl #[.agg #[.int .i64 a0_0, .int .i64 a0_1, .string a0_2, .slice A0_3 l0_3.length c0_3, .string a0_4, .bool a0_5], .string a1] rfl (by (try simp only [List.map_toArray, List.map_cons, List.map_nil]); first | done | rfl | (simp only [List.length_drop, List.length_take]; rfl)) ?_; (with_reducible refine (tty_Feed.calls kj3 a0_0 a0_1 a0_2 (fun k_ => k_ < w.heap.size) _ _ l0_3 a0_4 a0_5 a1 t465 t466 t467 t468 t471 t472 t473 _ ?side1 A28.out).mono ?_); (case side1 => exact Kd.V_mk HC0_3.out (Kd.F_below (Kd.C_F Kd.heap_string HR0_3.out) (by repeat (first | (with_reducible first | exact HB.out | apply below_alloc | apply pw_below_drewN | apply below_drew1 | refine below_set ?_ GE461.out) | exact HB.out)))); rintro e w45 ⟨v469, v474, rfl, ho0, ho1, hb⟩; refine ⟨_, rfl, ?_⟩; have n0_ := Aside0.mk (Kd.V_lower (Kd.V_mono (ok' := fun k_ => some k_ ≠ (v474 : Value).ownBlock ∧ k_ ≠ gb461) ho0 (fun k_ hk_ => ⟨hk_.2, Or.elim hk_.1 (fun hs_ => fun e_ => Nat.not_le.2 hs_ (by rw [e_]; exact GW461.out)) (fun hn_ => (Kd.freshB (g := gb461) (o := .cells #[.int .i64 a0_0, .int .i64 a0_1, .string a0_2, .slice A0_3 l0_3.length c0_3, .string a0_4, .bool a0_5] 24 (0, 0)) (by (with_reducible repeat (first | refine blk_drewN ?_ _ | refine blk_drew ?_ | refine blk_alloc ?_ _)); exact BK461.out) k_ hn_))⟩)) (below_size (by repeat (first | (with_reducible first | exact HB.out | apply below_alloc | apply pw_below_drewN | apply below_drew1 | refine below_set ?_ GE461.out) | exact HB.out)))); have n1_ := Aside0.mk (Kd.R_lower (Kd.R_mono (ok' := fun k_ => True) ho1 (fun _ hk_ => trivial)) (below_size (by repeat (first | (with_reducible first | exact HB.out | apply below_alloc | apply pw_below_drewN | apply below_drew1 | refine below_set ?_ GE461.out) | exact HB.out)))); have n2_ := Aside0.mk (blk_below (g := gb461) (o := .cells #[.int .i64 a0_0, .int .i64 a0_1, .string a0_2, .slice A0_3 l0_3.length c0_3, .string a0_4, .bool a0_5] 24 (0, 0)) (by (with_reducible repeat (first | refine blk_drewN ?_ _ | refine blk_drew ?_ | refine blk_alloc ?_ _)); exact BK461.out) hb); have n3_ := Aside0.mk (below_step (by repeat (first | (with_reducible first | exact HB.out | apply below_alloc | apply pw_below_drewN | apply below_drew1 | refine below_set ?_ GE461.out) | exact HB.out)) hb); clear BK461; clear HB; have HO470 := n0_; have HO475 := n1_; have BK461 := n2_; have HB := n3_; clear n0_ n1_ n2_ n3_; (try clear hb); (try clear hb2); (try clear hk); (try clear hi); (try clear ho0); (try clear ho1); obtain ⟨Ao46, co46, eo46⟩ := Kd.V_slice HO470.out; subst eo46) | ((with_reducible refine gate_dst (N := 7) rfl ?_); (try (refine gate_guard (by rfl) ?_; dsimp only)); refine box2_event 24 ?hg ?hg2 (N := 7) ?hd ?hd2 (.tmp 36) ?ho2 (cs0 := #[.int .i64 0, .int .i64 0, .string (⟨#[]⟩ : ByteArray), .slice none 0 0, .string (⟨#[]⟩ : ByteArray), .bool false]) (cs := #[.int .i64 t465, .int .i64 t466, .string t467, .slice Ao46 t468.length co46, .string t471, .bool t472]) ?hr ?hi ?hs ?h1 ?hp ?hv ?_; (case hd => rfl); (case hd2 => rfl); (case hg => rfl); (case hg2 => rfl); (case ho2 => rfl); (case hr => first | (go_simp; done) | (go_simp; rfl)); (case hi => kernel_rfl); (case hs => rfl); (case h1 => rfl); (case hp => intro v_; rfl); (case hv => intro v_; rfl); intro gb476 hg w47 hbox hb; have n0_ := Aside0.mk (Kd.V_below (Kd.V_elderB (by (with_reducible repeat (first | apply Kd.V_alloc | apply Kd.V_drewN | apply Kd.V_drew)); exact HO470.out) gb476 (Nat.le_of_eq hg.symm)) hb); have n1_ := Aside0.mk (Kd.R_below (by (with_reducible repeat (first | apply Kd.R_alloc | apply Kd.R_drewN | apply Kd.R_drew)); exact HO475.out) hb); have n2_ := Aside0.mk (blk_below (g := gb461) (o := .cells #[.int .i64 a0_0, .int .i64 a0_1, .string a0_2, .slice A0_3 l0_3.length c0_3, .string a0_4, .bool a0_5] 24 (0, 0)) (by (with_reducible repeat (first | refine blk_drewN ?_ _ | refine blk_drew ?_ | refine blk_alloc ?_ _)); exact BK461.out) hb); have n3_ := Aside0.mk (below_step (by repeat (first | (with_reducible first | exact HB.out | apply below_alloc | apply pw_below_drewN | apply below_drew1 | refine below_set ?_ GE461.out) | exact HB.out)) hb); have n4_ := Aside0.mk (hbox); have n5_ := Aside0.mk ((by rw [hg]; exact (below_size (by repeat (first | (with_reducible first | exact HB.out | apply below_alloc | apply pw_below_drewN | apply below_drew1 | refine below_set ?_ GE461.out) | exact HB.out))) : w.heap.size ≤ gb476)); have n6_ := Aside0.mk ((by rw [hg]; exact (below_size (by repeat (first | (with_reducible first | exact HB.out | apply below_alloc | apply pw_below_drewN | apply below_drew1 | refine below_set ?_ GE461.out) | exact HB.out))) : w.heap.size ≤ gb476)); have n7_ := Aside0.mk ((by rw [hg]; exact Nat.ne_of_lt (blk_lt (g := gb461) (o := .cells #[.int .i64 a0_0, .int .i64 a0_1, .string a0_2, .slice A0_3 l0_3.length c0_3, .string a0_4, .bool a0_5] 24 (0, 0)) (by (with_reducible repeat (first | refine blk_drewN ?_ _ | refine blk_drew ?_ | refine blk_alloc ?_ _)); exact BK461.out)) : gb461 ≠ gb476)); have n8_ := Aside0.mk ((by rw [hg]; exact Nat.ne_of_gt (blk_lt (g := gb461) (o := .cells #[.int .i64 a0_0, .int .i64 a0_1, .string a0_2, .slice A0_3 l0_3.length c0_3, .string a0_4, .bool a0_5] 24 (0, 0)) (by (with_reducible repeat (first | refine blk_drewN ?_ _ | refine blk_drew ?_ | refine blk_alloc ?_ _)); exact BK461.out)) : gb476 ≠ gb461)); clear HO470; clear HO475; clear BK461; clear HB; have HO470 := n0_; have HO475 := n1_; have BK461 := n2_; have HB := n3_; have BK476 := n4_; have GW476 := n5_; have GE476 := n6_; have NB461_476 := n7_; have NB476_461 := n8_; clear n0_ n1_ n2_ n3_ n4_ n5_ n6_ n7_ n8_; clear hb hbox hg; have hnb48 := NB476_461.out; have hnc48 := NB461_476.out; have hcz49_0 : w47.cell? ⟨gb476, 0, none⟩ = some (.int .i64 t465) := (blk_cell BK476.out 0).trans rfl; have hcz49_1 : w47.cell? ⟨gb476, 1, none⟩ = some (.int .i64 t466) := (blk_cell BK476.out 1).trans rfl; have hcz49_2 : w47.cell? ⟨gb476, 2, none⟩ = some (.string t467) := (blk_cell BK476.out 2).trans rfl; have hcz49_3 : w47.cell? ⟨gb476, 3, none⟩ = some (.slice Ao46 t468.length co46) := (blk_cell BK476.out 3).trans rfl; have hcz49_4 : w47.cell? ⟨gb476, 4, none⟩ = some (.string t471) := (blk_cell BK476.out 4).trans rfl; have hcz49_5 : w47.cell? ⟨gb476, 5, none⟩ = some (.bool t472) := (blk_cell BK476.out 5).trans rfl; have hfz49_0 := blk_frozen BK476.out 0; have hfz49_1 := blk_frozen BK476.out 1; have hfz49_2 := blk_frozen BK476.out 2; have hfz49_3 := blk_frozen BK476.out 3; have hfz49_4 := blk_frozen BK476.out 4; have hfz49_5 := blk_frozen BK476.out 5) | ((with_reducible refine gate_callee (f := 14) rfl ?_); refine goesL_ (some 41) rfl rfl Try.func14 (by kernel_rfl) rfl #[.agg #[.int .i64 t465, .int .i64 t466, .string t467, .slice Ao46 t468.length co46, .string t471, .bool t472], .string a2] rfl (by (try simp only [List.map_toArray, List.map_cons, List.map_nil]); first | done | rfl | (simp only [List.length_drop, List.length_take]; rfl)) ?_; (with_reducible refine (tty_Feed.calls kj3 t465 t466 t467 (fun k_ => ((some k_ ≠ (v474 : Value).ownBlock ∧ k_ ≠ gb461) ∧ k_ ≠ gb476)) _ _ t468 t471 t472 a2 t477 t478 t479 t480 t483 t484 t485 _ ?side1 A29.out).mono ?_); (case side1 => exact HO470.out); rintro e w50 ⟨v481, v486, rfl, ho0, ho1, hb⟩; refine ⟨_, rfl, ?_⟩; have n0_ := Aside0.mk (Kd.V_elder' (by (with_reducible repeat (first | apply Kd.V_alloc | apply Kd.V_drewN | apply Kd.V_drew)); exact HO470.out) (Kd.R_base ho1) hb); have n1_ := Aside0.mk (Kd.R_elder' (by (with_reducible repeat (first | apply Kd.R_alloc | apply Kd.R_drewN | apply Kd.R_drew)); exact HO475.out) (Kd.R_base ho1) hb); have n2_ := Aside0.mk (Kd.V_lower (Kd.V_mono (ok' := fun k_ => some k_ ≠ (v486 : Value).ownBlock ∧ some k_ ≠ (v474 : Value).ownBlock ∧ k_ ≠ gb461 ∧ k_ ≠ gb476) ho0 (fun k_ hk_ => ⟨hk_.2, Or.elim hk_.1 (fun hs_ => hs_.1.1) (fun hn_ => (Kd.fresh' (Kd.R_lt (by (with_reducible repeat (first | apply Kd.R_alloc | apply Kd.R_drewN | apply Kd.R_drew)); exact HO475.out)) k_ hn_)), Or.elim hk_.1 (fun hs_ => hs_.1.2) (fun hn_ => (Kd.freshB (g := gb461) (o := .cells #[.int .i64 a0_0, .int .i64 a0_1, .string a0_2, .slice A0_3 l0_3.length c0_3, .string a0_4, .bool a0_5] 24 (0, 0)) (by (with_reducible repeat (first | refine blk_drewN ?_ _ | refine blk_drew ?_ | refine blk_alloc ?_ _)); exact BK461.out) k_ hn_)), Or.elim hk_.1 (fun hs_ => hs_.2) (fun hn_ => (Kd.freshB (g := gb476) (o := .cells #[.int .i64 t465, .int .i64 t466, .string t467, .slice Ao46 t468.length co46, .string t471, .bool t472] 24 (0, 0)) (by (with_reducible repeat (first | refine blk_drewN ?_ _ | refine blk_drew ?_ | refine blk_alloc ?_ _)); exact BK476.out) k_ hn_))⟩)) (below_size (by repeat (first | (with_reducible first | exact HB.out | apply below_alloc | apply pw_below_drewN | apply below_drew1 | refine below_set ?_ GE461.out | refine below_set ?_ GE476.out) | exact HB.out)))); have n3_ := Aside0.mk (Kd.R_lower (Kd.R_new' (Kd.R_mono (ok' := fun k_ => True) ho1 (fun _ hk_ => trivial)) (Kd.R_lt (by (with_reducible repeat (first | apply Kd.R_alloc | apply Kd.R_drewN | apply Kd.R_drew)); exact HO475.out))) (below_size (by repeat (first | (with_reducible first | exact HB.out | apply below_alloc | apply pw_below_drewN | apply below_drew1 | refine below_set ?_ GE461.out | refine below_set ?_ GE476.out) | exact HB.out)))); have n4_ := Aside0.mk (blk_below (g := gb461) (o := .cells #[.int .i64 a0_0, .int .i64 a0_1, .string a0_2, .slice A0_3 l0_3.length c0_3, .string a0_4, .bool a0_5] 24 (0, 0)) (by (with_reducible repeat (first | refine blk_drewN ?_ _ | refine blk_drew ?_ | refine blk_alloc ?_ _)); exact BK461.out) hb); have n5_ := Aside0.mk (blk_below (g := gb476) (o := .cells #[.int .i64 t465, .int .i64 t466, .string t467, .slice Ao46 t468.length co46, .string t471, .bool t472] 24 (0, 0)) (by (with_reducible repeat (first | refine blk_drewN ?_ _ | refine blk_drew ?_ | refine blk_alloc ?_ _)); exact BK476.out) hb); have n6_ := Aside0.mk (below_step (by repeat (first | (with_reducible first | exact HB.out | apply below_alloc | apply pw_below_drewN | apply below_drew1 | refine below_set ?_ GE461.out | refine below_set ?_ GE476.out) | exact HB.out)) hb); clear HO470; clear HO475; clear BK461; clear BK476; clear HB; have HO470 := n0_; have HO475 := n1_; have HO482 := n2_; have HO487 := n3_; have BK461 := n4_; have BK476 := n5_; have HB := n6_; clear n0_ n1_ n2_ n3_ n4_ n5_ n6_; (try clear hb); (try clear hb2); (try clear hk); (try clear hi); (try clear ho0); (try clear ho1); obtain ⟨Ao51, co51, eo51⟩ := Kd.V_slice HO482.out; subst eo51) | ((with_reducible refine gate_dst (N := 9) rfl ?_); (try (refine gate_guard (by rfl) ?_; dsimp only)); refine box2_event 24 ?hg ?hg2 (N := 9) ?hd ?hd2 (.tmp 42) ?ho2 (cs0 := #[.int .i64 0, .int .i64 0, .string (⟨#[]⟩ : ByteArray), .slice none 0 0, .string (⟨#[]⟩ : ByteArray), .bool false]) (cs := #[.int .i64 t477, .int .i64 t478, .string t479, .slice Ao51 t480.length co51, .string t483, .bool t484]) ?hr ?hi ?hs ?h1 ?hp ?hv ?_; (case hd => rfl); (case hd2 => rfl); (case hg => rfl); (case hg2 => rfl); (case ho2 => rfl); (case hr => first | (go_simp; done) | (go_simp; rfl)); (case hi => kernel_rfl); (case hs => rfl); (case h1 => rfl); (case hp => intro v_; rfl); (case hv => intro v_; rfl); intro gb488 hg w52 hbox hb; have n0_ := Aside0.mk (Kd.V_below (Kd.V_elderB (by (with_reducible repeat (first | apply Kd.V_alloc | apply Kd.V_drewN | apply Kd.V_drew)); exact HO470.out) gb488 (Nat.le_of_eq hg.symm)) hb); have n1_ := Aside0.mk (Kd.R_below (by (with_reducible repeat (first | apply Kd.R_alloc | apply Kd.R_drewN | apply Kd.R_drew)); exact HO475.out) hb); have n2_ := Aside0.mk (Kd.V_below (Kd.V_elderB (by (with_reducible repeat (first | apply Kd.V_alloc | apply Kd.V_drewN | apply Kd.V_drew)); exact HO482.out) gb488 (Nat.le_of_eq hg.symm)) hb); have n3_ := Aside0.mk (Kd.R_below (by (with_reducible repeat (first | apply Kd.R_alloc | apply Kd.R_drewN | apply Kd.R_drew)); exact HO487.out) hb); have n4_ := Aside0.mk (blk_below (g := gb461) (o := .cells #[.int .i64 a0_0, .int .i64 a0_1, .string a0_2, .slice A0_3 l0_3.length c0_3, .string a0_4, .bool a0_5] 24 (0, 0)) (by (with_reducible repeat (first | refine blk_drewN ?_ _ | refine blk_drew ?_ | refine blk_alloc ?_ _)); exact BK461.out) hb); have n5_ := Aside0.mk (blk_below (g := gb476) (o := .cells #[.int .i64 t465, .int .i64 t466, .string t467, .slice Ao46 t468.length co46, .string t471, .bool t472] 24 (0, 0)) (by (with_reducible repeat (first | refine blk_drewN ?_ _ | refine blk_drew ?_ | refine blk_alloc ?_ _)); exact BK476.out) hb); have n6_ := Aside0.mk (below_step (by repeat (first | (with_reducible first | exact HB.out | apply below_alloc | apply pw_below_drewN | apply below_drew1 | refine below_set ?_ GE461.out | refine below_set ?_ GE476.out) | exact HB.out)) hb); have n7_ := Aside0.mk (hbox); have n8_ := Aside0.mk ((by rw [hg]; exact (below_size (by repeat (first | (with_reducible first | exact HB.out | apply below_alloc | apply pw_below_drewN | apply below_drew1 | refine below_set ?_ GE461.out | refine below_set ?_ GE476.out) | exact HB.out))) : w.heap.size ≤ gb488)); have n9_ := Aside0.mk ((by rw [hg]; exact (below_size (by repeat (first | (with_reducible first | exact HB.out | apply below_alloc | apply pw_below_drewN | apply below_drew1 | refine below_set ?_ GE461.out | refine below_set ?_ GE476.out) | exact HB.out))) : w.heap.size ≤ gb488)); have n10_ := Aside0.mk ((by rw [hg]; exact Nat.ne_of_lt (blk_lt (g := gb461) (o := .cells #[.int .i64 a0_0, .int .i64 a0_1, .string a0_2, .slice A0_3 l0_3.length c0_3, .string a0_4, .bool a0_5] 24 (0, 0)) (by (with_reducible repeat (first | refine blk_drewN ?_ _ | refine blk_drew ?_ | refine blk_alloc ?_ _)); exact BK461.out)) : gb461 ≠ gb488)); have n11_ := Aside0.mk ((by rw [hg]; exact Nat.ne_of_gt (blk_lt (g := gb461) (o := .cells #[.int .i64 a0_0, .int .i64 a0_1, .string a0_2, .slice A0_3 l0_3.length c0_3, .string a0_4, .bool a0_5] 24 (0, 0)) (by (with_reducible repeat (first | refine blk_drewN ?_ _ | refine blk_drew ?_ | refine blk_alloc ?_ _)); exact BK461.out)) : gb488 ≠ gb461)); have n12_ := Aside0.mk ((by rw [hg]; exact Nat.ne_of_lt (blk_lt (g := gb476) (o := .cells #[.int .i64 t465, .int .i64 t466, .string t467, .slice Ao46 t468.length co46, .string t471, .bool t472] 24 (0, 0)) (by (with_reducible repeat (first | refine blk_drewN ?_ _ | refine blk_drew ?_ | refine blk_alloc ?_ _)); exact BK476.out)) : gb476 ≠ gb488)); have n13_ := Aside0.mk ((by rw [hg]; exact Nat.ne_of_gt (blk_lt (g := gb476) (o := .cells #[.int .i64 t465, .int .i64 t466, .string t467, .slice Ao46 t468.length co46, .string t471, .bool t472] 24 (0, 0)) (by (with_reducible repeat (first | refine blk_drewN ?_ _ | refine blk_drew ?_ | refine blk_alloc ?_ _)); exact BK476.out)) : gb488 ≠ gb476)); clear HO470; clear HO475; clear HO482; clear HO487; clear BK461; clear BK476; clear HB; have HO470 := n0_; have HO475 := n1_; have HO482 := n2_; have HO487 := n3_; have BK461 := n4_; have BK476 := n5_; have HB := n6_; have BK488 := n7_; have GW488 := n8_; have GE488 := n9_; have NB461_488 := n10_; have NB488_461 := n11_; have NB476_488 := n12_; have NB488_476 := n13_; clear n0_ n1_ n2_ n3_ n4_ n5_ n6_ n7_ n8_ n9_ n10_ n11_ n12_ n13_; clear hb hbox hg; have hnb53 := NB461_488.out; have hnc53 := NB488_461.out; have hcz54_0 : w52.cell? ⟨gb461, 0, none⟩ = some (.int .i64 a0_0) := (blk_cell BK461.out 0).trans rfl; have hcz54_1 : w52.cell? ⟨gb461, 1, none⟩ = some (.int .i64 a0_1) := (blk_cell BK461.out 1).trans rfl; have hcz54_2 : w52.cell? ⟨gb461, 2, none⟩ = some (.string a0_2) := (blk_cell BK461.out 2).trans rfl; have hcz54_3 : w52.cell? ⟨gb461, 3, none⟩ = some (.slice A0_3 l0_3.length c0_3) := (blk_cell BK461.out 3).trans rfl; have hcz54_4 : w52.cell? ⟨gb461, 4, none⟩ = some (.string a0_4) := (blk_cell BK461.out 4).trans rfl; have hcz54_5 : w52.cell? ⟨gb461, 5, none⟩ = some (.bool a0_5) := (blk_cell BK461.out 5).trans rfl; have hfz54_0 := blk_frozen BK461.out 0; have hfz54_1 := blk_frozen BK461.out 1; have hfz54_2 := blk_frozen BK461.out 2; have hfz54_3 := blk_frozen BK461.out 3; have hfz54_4 := blk_frozen BK461.out 4; have hfz54_5 := blk_frozen BK461.out 5) | ((with_reducible refine gate_callee (f := 14) rfl ?_); refine goesL_ (some 49) rfl rfl Try.func14 (by kernel_rfl) rfl #[.agg #[.int .i64 a0_0, .int .i64 a0_1, .string a0_2, .slice A0_3 l0_3.length c0_3, .string a0_4, .bool a0_5], .string (a1 ++ a2)] rfl (by (try simp only [List.map_toArray, List.map_cons, List.map_nil]); first | done | rfl | (simp only [List.length_drop, List.length_take]; rfl)) ?_; (with_reducible refine (tty_Feed.calls kj3 a0_0 a0_1 a0_2 (fun k_ => k_ < w.heap.size) _ _ l0_3 a0_4 a0_5 (a1 ++ a2) t489 t490 t491 t492 t495 t496 t497 _ ?side1 A31.out).mono ?_); (case side1 => exact Kd.V_mk HC0_3.out (Kd.F_below (Kd.C_F Kd.heap_string HR0_3.out) (by repeat (first | (with_reducible first | exact HB.out | apply below_alloc | apply pw_below_drewN | apply below_drew1 | refine below_set ?_ GE461.out | refine below_set ?_ GE476.out | refine below_set ?_ GE488.out) | exact HB.out)))); rintro e w55 ⟨v493, v498, rfl, ho0, ho1, hb⟩; refine ⟨_, rfl, ?_⟩; have n0_ := Aside0.mk (Kd.V_elder' (by (with_reducible repeat (first | apply Kd.V_alloc | apply Kd.V_drewN | apply Kd.V_drew)); exact HO470.out) (Kd.R_base ho1) hb); have n1_ := Aside0.mk (Kd.R_elder' (by (with_reducible repeat (first | apply Kd.R_alloc | apply Kd.R_drewN | apply Kd.R_drew)); exact HO475.out) (Kd.R_base ho1) hb); have n2_ := Aside0.mk (Kd.V_elder' (by (with_reducible repeat (first | apply Kd.V_alloc | apply Kd.V_drewN | apply Kd.V_drew)); exact HO482.out) (Kd.R_base ho1) hb); have n3_ := Aside0.mk (Kd.R_elder' (by (with_reducible repeat (first | apply Kd.R_alloc | apply Kd.R_drewN | apply Kd.R_drew)); exact HO487.out) (Kd.R_base ho1) hb); have n4_ := Aside0.mk (Kd.V_lower (Kd.V_mono (ok' := fun k_ => some k_ ≠ (v498 : Value).ownBlock ∧ some k_ ≠ (v474 : Value).ownBlock ∧ some k_ ≠ (v486 : Value).ownBlock ∧ k_ ≠ gb461 ∧ k_ ≠ gb476 ∧ k_ ≠ gb488) ho0 (fun k_ hk_ => ⟨hk_.2, Or.elim hk_.1 (fun hs_ => fun e_ => Nat.not_le.2 hs_ (Kd.R_base HO475.out k_ e_.symm)) (fun hn_ => (Kd.fresh' (Kd.R_lt (by (with_reducible repeat (first | apply Kd.R_alloc | apply Kd.R_drewN | apply Kd.R_drew)); exact HO475.out)) k_ hn_)), Or.elim hk_.1 (fun hs_ => fun e_ => Nat.not_le.2 hs_ (Kd.R_base HO487.out k_ e_.symm)) (fun hn_ => (Kd.fresh' (Kd.R_lt (by (with_reducible repeat (first | apply Kd.R_alloc | apply Kd.R_drewN | apply Kd.R_drew)); exact HO487.out)) k_ hn_)), Or.elim hk_.1 (fun hs_ => fun e_ => Nat.not_le.2 hs_ (by rw [e_]; exact GW461.out)) (fun hn_ => (Kd.freshB (g := gb461) (o := .cells #[.int .i64 a0_0, .int .i64 a0_1, .string a0_2, .slice A0_3 l0_3.length c0_3, .string a0_4, .bool a0_5] 24 (0, 0)) (by (with_reducible repeat (first | refine blk_drewN ?_ _ | refine blk_drew ?_ | refine blk_alloc ?_ _)); exact BK461.out) k_ hn_)), Or.elim hk_.1 (fun hs_ => fun e_ => Nat.not_le.2 hs_ (by rw [e_]; exact GW476.out)) (fun hn_ => (Kd.freshB (g := gb476) (o := .cells #[.int .i64 t465, .int .i64 t466, .string t467, .slice Ao46 t468.length co46, .string t471, .bool t472] 24 (0, 0)) (by (with_reducible repeat (first | refine blk_drewN ?_ _ | refine blk_drew ?_ | refine blk_alloc ?_ _)); exact BK476.out) k_ hn_)), Or.elim hk_.1 (fun hs_ => fun e_ => Nat.not_le.2 hs_ (by rw [e_]; exact GW488.out)) (fun hn_ => (Kd.freshB (g := gb488) (o := .cells #[.int .i64 t477, .int .i64 t478, .string t479, .slice Ao51 t480.length co51, .string t483, .bool t484] 24 (0, 0)) (by (with_reducible repeat (first | refine blk_drewN ?_ _ | refine blk_drew ?_ | refine blk_alloc ?_ _)); exact BK488.out) k_ hn_))⟩)) (below_size (by repeat (first | (with_reducible first | exact HB.out | apply below_alloc | apply pw_below_drewN | apply below_drew1 | refine below_set ?_ GE461.out | refine below_set ?_ GE476.out | refine below_set ?_ GE488.out) | exact HB.out)))); have n5_ := Aside0.mk (Kd.R_lower (Kd.R_new' (Kd.R_new' (Kd.R_mono (ok' := fun k_ => True) ho1 (fun _ hk_ => trivial)) (Kd.R_lt (by (with_reducible repeat (first | apply Kd.R_alloc | apply Kd.R_drewN | apply Kd.R_drew)); exact HO475.out))) (Kd.R_lt (by (with_reducible repeat (first | apply Kd.R_alloc | apply Kd.R_drewN | apply Kd.R_drew)); exact HO487.out))) (below_size (by repeat (first | (with_reducible first | exact HB.out | apply below_alloc | apply pw_below_drewN | apply below_drew1 | refine below_set ?_ GE461.out | refine below_set ?_ GE476.out | refine below_set ?_ GE488.out) | exact HB.out)))); have n6_ := Aside0.mk (blk_below (g := gb461) (o := .cells #[.int .i64 a0_0, .int .i64 a0_1, .string a0_2, .slice A0_3 l0_3.length c0_3, .string a0_4, .bool a0_5] 24 (0, 0)) (by (with_reducible repeat (first | refine blk_drewN ?_ _ | refine blk_drew ?_ | refine blk_alloc ?_ _)); exact BK461.out) hb); have n7_ := Aside0.mk (blk_below (g := gb476) (o := .cells #[.int .i64 t465, .int .i64 t466, .string t467, .slice Ao46 t468.length co46, .string t471, .bool t472] 24 (0, 0)) (by (with_reducible repeat (first | refine blk_drewN ?_ _ | refine blk_drew ?_ | refine blk_alloc ?_ _)); exact BK476.out) hb); have n8_ := Aside0.mk (blk_below (g := gb488) (o := .cells #[.int .i64 t477, .int .i64 t478, .string t479, .slice Ao51 t480.length co51, .string t483, .bool t484] 24 (0, 0)) (by (with_reducible repeat (first | refine blk_drewN ?_ _ | refine blk_drew ?_ | refine blk_alloc ?_ _)); exact BK488.out) hb); have n9_ := Aside0.mk (below_step (by repeat (first | (with_reducible first | exact HB.out | apply below_alloc | apply pw_below_drewN | apply below_drew1 | refine below_set ?_ GE461.out | refine below_set ?_ GE476.out | refine below_set ?_ GE488.out) | exact HB.out)) hb); clear HO470; clear HO475; clear HO482; clear HO487; clear BK461; clear BK476; clear BK488; clear HB; have HO470 := n0_; have HO475 := n1_; have HO482 := n2_; have HO487 := n3_; have HO494 := n4_; have HO499 := n5_; have BK461 := n6_; have BK476 := n7_; have BK488 := n8_; have HB := n9_; clear n0_ n1_ n2_ n3_ n4_ n5_ n6_ n7_ n8_ n9_; (try clear hb); (try clear hb2); (try clear hk); (try clear hi); (try clear ho0); (try clear ho1); obtain ⟨Ao56, co56, eo56⟩ := Kd.V_slice HO494.out; subst eo56) | ((with_reducible refine gate_dst (N := 11) rfl ?_); (try (refine gate_guard (by rfl) ?_; dsimp only)); refine box2_event 24 ?hg ?hg2 (N := 11) ?hd ?hd2 (.tmp 50) ?ho2 (cs0 := #[.int .i64 0, .int .i64 0, .string (⟨#[]⟩ : ByteArray), .slice none 0 0, .string (⟨#[]⟩ : ByteArray), .bool false]) (cs := #[.int .i64 t489, .int .i64 t490, .string t491, .slice Ao56 t492.length co56, .string t495, .bool t496]) ?hr ?hi ?hs ?h1 ?hp ?hv ?_; (case hd => rfl); (case hd2 => rfl); (case hg => rfl); (case hg2 => rfl); (case ho2 => rfl); (case hr => first | (go_simp; done) | (go_simp; rfl)); (case hi => kernel_rfl); (case hs => rfl); (case h1 => rfl); (case hp => intro v_; rfl); (case hv => intro v_; rfl); intro gb500 hg w57 hbox hb; have n0_ := Aside0.mk (Kd.V_below (Kd.V_elderB (by (with_reducible repeat (first | apply Kd.V_alloc | apply Kd.V_drewN | apply Kd.V_drew)); exact HO470.out) gb500 (Nat.le_of_eq hg.symm)) hb); have n1_ := Aside0.mk (Kd.R_below (by (with_reducible repeat (first | apply Kd.R_alloc | apply Kd.R_drewN | apply Kd.R_drew)); exact HO475.out) hb); have n2_ := Aside0.mk (Kd.V_below (Kd.V_elderB (by (with_reducible repeat (first | apply Kd.V_alloc | apply Kd.V_drewN | apply Kd.V_drew)); exact HO482.out) gb500 (Nat.le_of_eq hg.symm)) hb); have n3_ := Aside0.mk (Kd.R_below (by (with_reducible repeat (first | apply Kd.R_alloc | apply Kd.R_drewN | apply Kd.R_drew)); exact HO487.out) hb); have n4_ := Aside0.mk (Kd.V_below (Kd.V_elderB (by (with_reducible repeat (first | apply Kd.V_alloc | apply Kd.V_drewN | apply Kd.V_drew)); exact HO494.out) gb500 (Nat.le_of_eq hg.symm)) hb); have n5_ := Aside0.mk (Kd.R_below (by (with_reducible repeat (first | apply Kd.R_alloc | apply Kd.R_drewN | apply Kd.R_drew)); exact HO499.out) hb); have n6_ := Aside0.mk (blk_below (g := gb461) (o := .cells #[.int .i64 a0_0, .int .i64 a0_1, .string a0_2, .slice A0_3 l0_3.length c0_3, .string a0_4, .bool a0_5] 24 (0, 0)) (by (with_reducible repeat (first | refine blk_drewN ?_ _ | refine blk_drew ?_ | refine blk_alloc ?_ _)); exact BK461.out) hb); have n7_ := Aside0.mk (blk_below (g := gb476) (o := .cells #[.int .i64 t465, .int .i64 t466, .string t467, .slice Ao46 t468.length co46, .string t471, .bool t472] 24 (0, 0)) (by (with_reducible repeat (first | refine blk_drewN ?_ _ | refine blk_drew ?_ | refine blk_alloc ?_ _)); exact BK476.out) hb); have n8_ := Aside0.mk (blk_below (g := gb488) (o := .cells #[.int .i64 t477, .int .i64 t478, .string t479, .slice Ao51 t480.length co51, .string t483, .bool t484] 24 (0, 0)) (by (with_reducible repeat (first | refine blk_drewN ?_ _ | refine blk_drew ?_ | refine blk_alloc ?_ _)); exact BK488.out) hb); have n9_ := Aside0.mk (below_step (by repeat (first | (with_reducible first | exact HB.out | apply below_alloc | apply pw_below_drewN | apply below_drew1 | refine below_set ?_ GE461.out | refine below_set ?_ GE476.out | refine below_set ?_ GE488.out) | exact HB.out)) hb); have n10_ := Aside0.mk (hbox); have n11_ := Aside0.mk ((by rw [hg]; exact (below_size (by repeat (first | (with_reducible first | exact HB.out | apply below_alloc | apply pw_below_drewN | apply below_drew1 | refine below_set ?_ GE461.out | refine below_set ?_ GE476.out | refine below_set ?_ GE488.out) | exact HB.out))) : w.heap.size ≤ gb500)); have n12_ := Aside0.mk ((by rw [hg]; exact (below_size (by repeat (first | (with_reducible first | exact HB.out | apply below_alloc | apply pw_below_drewN | apply below_drew1 | refine below_set ?_ GE461.out | refine below_set ?_ GE476.out | refine below_set ?_ GE488.out) | exact HB.out))) : w.heap.size ≤ gb500)); have n13_ := Aside0.mk ((by rw [hg]; exact Nat.ne_of_lt (blk_lt (g := gb461) (o := .cells #[.int .i64 a0_0, .int .i64 a0_1, .string a0_2, .slice A0_3 l0_3.length c0_3, .string a0_4, .bool a0_5] 24 (0, 0)) (by (with_reducible repeat (first | refine blk_drewN ?_ _ | refine blk_drew ?_ | refine blk_alloc ?_ _)); exact BK461.out)) : gb461 ≠ gb500)); have n14_ := Aside0.mk ((by rw [hg]; exact Nat.ne_of_gt (blk_lt (g := gb461) (o := .cells #[.int .i64 a0_0, .int .i64 a0_1, .string a0_2, .slice A0_3 l0_3.length c0_3, .string a0_4, .bool a0_5] 24 (0, 0)) (by (with_reducible repeat (first | refine blk_drewN ?_ _ | refine blk_drew ?_ | refine blk_alloc ?_ _)); exact BK461.out)) : gb500 ≠ gb461)); have n15_ := Aside0.mk ((by rw [hg]; exact Nat.ne_of_lt (blk_lt (g := gb476) (o := .cells #[.int .i64 t465, .int .i64 t466, .string t467, .slice Ao46 t468.length co46, .string t471, .bool t472] 24 (0, 0)) (by (with_reducible repeat (first | refine blk_drewN ?_ _ | refine blk_drew ?_ | refine blk_alloc ?_ _)); exact BK476.out)) : gb476 ≠ gb500)); have n16_ := Aside0.mk ((by rw [hg]; exact Nat.ne_of_gt (blk_lt (g := gb476) (o := .cells #[.int .i64 t465, .int .i64 t466, .string t467, .slice Ao46 t468.length co46, .string t471, .bool t472] 24 (0, 0)) (by (with_reducible repeat (first | refine blk_drewN ?_ _ | refine blk_drew ?_ | refine blk_alloc ?_ _)); exact BK476.out)) : gb500 ≠ gb476)); have n17_ := Aside0.mk ((by rw [hg]; exact Nat.ne_of_lt (blk_lt (g := gb488) (o := .cells #[.int .i64 t477, .int .i64 t478, .string t479, .slice Ao51 t480.length co51, .string t483, .bool t484] 24 (0, 0)) (by (with_reducible repeat (first | refine blk_drewN ?_ _ | refine blk_drew ?_ | refine blk_alloc ?_ _)); exact BK488.out)) : gb488 ≠ gb500)); have n18_ := Aside0.mk ((by rw [hg]; exact Nat.ne_of_gt (blk_lt (g := gb488) (o := .cells #[.int .i64 t477, .int .i64 t478, .string t479, .slice Ao51 t480.length co51, .string t483, .bool t484] 24 (0, 0)) (by (with_reducible repeat (first | refine blk_drewN ?_ _ | refine blk_drew ?_ | refine blk_alloc ?_ _)); exact BK488.out)) : gb500 ≠ gb488)); clear HO470; clear HO475; clear HO482; clear HO487; clear HO494; clear HO499; clear BK461; clear BK476; clear BK488; clear HB; have HO470 := n0_; have HO475 := n1_; have HO482 := n2_; have HO487 := n3_; have HO494 := n4_; have HO499 := n5_; have BK461 := n6_; have BK476 := n7_; have BK488 := n8_; have HB := n9_; have BK500 := n10_; have GW500 := n11_; have GE500 := n12_; have NB461_500 := n13_; have NB500_461 := n14_; have NB476_500 := n15_; have NB500_476 := n16_; have NB488_500 := n17_; have NB500_488 := n18_; clear n0_ n1_ n2_ n3_ n4_ n5_ n6_ n7_ n8_ n9_ n10_ n11_ n12_ n13_ n14_ n15_ n16_ n17_ n18_; clear hb hbox hg; have hnb58 := NB488_476.out; have hnc58 := NB476_488.out; have hnb59 := NB488_500.out; have hnc59 := NB500_488.out; have hcz60_0 : w57.cell? ⟨gb488, 0, none⟩ = some (.int .i64 t477) := (blk_cell BK488.out 0).trans rfl; have hcz60_1 : w57.cell? ⟨gb488, 1, none⟩ = some (.int .i64 t478) := (blk_cell BK488.out 1).trans rfl; have hcz60_2 : w57.cell? ⟨gb488, 2, none⟩ = some (.string t479) := (blk_cell BK488.out 2).trans rfl; have hcz60_3 : w57.cell? ⟨gb488, 3, none⟩ = some (.slice Ao51 t480.length co51) := (blk_cell BK488.out 3).trans rfl; have hcz60_4 : w57.cell? ⟨gb488, 4, none⟩ = some (.string t483) := (blk_cell BK488.out 4).trans rfl; have hcz60_5 : w57.cell? ⟨gb488, 5, none⟩ = some (.bool t484) := (blk_cell BK488.out 5).trans rfl; have hfz60_0 := blk_frozen BK488.out 0; have hfz60_1 := blk_frozen BK488.out 1; have hfz60_2 := blk_frozen BK488.out 2; have hfz60_3 := blk_frozen BK488.out 3; have hfz60_4 := blk_frozen BK488.out 4; have hfz60_5 := blk_frozen BK488.out 5; have hnb61 := NB500_461.out; have hnc61 := NB461_500.out; have hnb62 := NB500_476.out; have hnc62 := NB476_500.out; have hcz63_0 : w57.cell? ⟨gb500, 0, none⟩ = some (.int .i64 t489) := (blk_cell BK500.out 0).trans rfl; have hcz63_1 : w57.cell? ⟨gb500, 1, none⟩ = some (.int .i64 t490) := (blk_cell BK500.out 1).trans rfl; have hcz63_2 : w57.cell? ⟨gb500, 2, none⟩ = some (.string t491) := (blk_cell BK500.out 2).trans rfl; have hcz63_3 : w57.cell? ⟨gb500, 3, none⟩ = some (.slice Ao56 t492.length co56) := (blk_cell BK500.out 3).trans rfl; have hcz63_4 : w57.cell? ⟨gb500, 4, none⟩ = some (.string t495) := (blk_cell BK500.out 4).trans rfl; have hcz63_5 : w57.cell? ⟨gb500, 5, none⟩ = some (.bool t496) := (blk_cell BK500.out 5).trans rfl; have hfz63_0 := blk_frozen BK500.out 0; have hfz63_1 := blk_frozen BK500.out 1; have hfz63_2 := blk_frozen BK500.out 2; have hfz63_3 := blk_frozen BK500.out 3; have hfz63_4 := blk_frozen BK500.out 4; have hfz63_5 := blk_frozen BK500.out 5) | ((with_reducible refine gate_callee (f := 16) rfl ?_); refine goesL_ (some 54) rfl rfl Try.func16 (by kernel_rfl) rfl #[.agg #[.int .i64 t477, .int .i64 t478, .string t479, .slice Ao51 t480.length co51, .string t483, .bool t484], .agg #[.int .i64 t489, .int .i64 t490, .string t491, .slice Ao56 t492.length co56, .string t495, .bool t496]] rfl (by (try simp only [List.map_toArray, List.map_cons, List.map_nil]); first | done | rfl | (simp only [List.length_drop, List.length_take]; rfl)) ?_; (with_reducible refine (jobshellref26_Same.calls kj3 t477 t478 t479 _ _ t480 t483 t484 t489 t490 t491 _ _ t492 t495 t496 true _ ?side1 ?side2 ?side3 ?side4 A32.out).mono ?_); (case side1 => repeat (first | exact (Kd.V_reads' HO482.out).2.2 | (with_reducible refine Kd.C_alloc ?_ _) | (with_reducible refine Kd.C_drewN ?_ _) | (with_reducible refine Kd.C_drew ?_))); (case side2 => exact (Kd.V_reads' HO482.out).2.1); (case side3 => repeat (first | exact (Kd.V_reads' HO494.out).2.2 | (with_reducible refine Kd.C_alloc ?_ _) | (with_reducible refine Kd.C_drewN ?_ _) | (with_reducible refine Kd.C_drew ?_))); (case side4 => exact (Kd.V_reads' HO494.out).2.1); rintro e w64 ⟨rfl, hb⟩; refine ⟨_, rfl, ?_⟩; have n0_ := Aside0.mk (Kd.V_below (by (with_reducible repeat (first | apply Kd.V_alloc | apply Kd.V_drewN | apply Kd.V_drew)); exact HO470.out) hb); have n1_ := Aside0.mk (Kd.R_below (by (with_reducible repeat (first | apply Kd.R_alloc | apply Kd.R_drewN | apply Kd.R_drew)); exact HO475.out) hb); have n2_ := Aside0.mk (Kd.V_below (by (with_reducible repeat (first | apply Kd.V_alloc | apply Kd.V_drewN | apply Kd.V_drew)); exact HO482.out) hb); have n3_ := Aside0.mk (Kd.R_below (by (with_reducible repeat (first | apply Kd.R_alloc | apply Kd.R_drewN | apply Kd.R_drew)); exact HO487.out) hb); have n4_ := Aside0.mk (Kd.V_below (by (with_reducible repeat (first | apply Kd.V_alloc | apply Kd.V_drewN | apply Kd.V_drew)); exact HO494.out) hb); have n5_ := Aside0.mk (Kd.R_below (by (with_reducible repeat (first | apply Kd.R_alloc | apply Kd.R_drewN | apply Kd.R_drew)); exact HO499.out) hb); have n6_ := Aside0.mk (blk_below (g := gb461) (o := .cells #[.int .i64 a0_0, .int .i64 a0_1, .string a0_2, .slice A0_3 l0_3.length c0_3, .string a0_4, .bool a0_5] 24 (0, 0)) (by (with_reducible repeat (first | refine blk_drewN ?_ _ | refine blk_drew ?_ | refine blk_alloc ?_ _)); exact BK461.out) hb); have n7_ := Aside0.mk (blk_below (g := gb476) (o := .cells #[.int .i64 t465, .int .i64 t466, .string t467, .slice Ao46 t468.length co46, .string t471, .bool t472] 24 (0, 0)) (by (with_reducible repeat (first | refine blk_drewN ?_ _ | refine blk_drew ?_ | refine blk_alloc ?_ _)); exact BK476.out) hb); have n8_ := Aside0.mk (blk_below (g := gb488) (o := .cells #[.int .i64 t477, .int .i64 t478, .string t479, .slice Ao51 t480.length co51, .string t483, .bool t484] 24 (0, 0)) (by (with_reducible repeat (first | refine blk_drewN ?_ _ | refine blk_drew ?_ | refine blk_alloc ?_ _)); exact BK488.out) hb); have n9_ := Aside0.mk (blk_below (g := gb500) (o := .cells #[.int .i64 t489, .int .i64 t490, .string t491, .slice Ao56 t492.length co56, .string t495, .bool t496] 24 (0, 0)) (by (with_reducible repeat (first | refine blk_drewN ?_ _ | refine blk_drew ?_ | refine blk_alloc ?_ _)); exact BK500.out) hb); have n10_ := Aside0.mk (below_step (by repeat (first | (with_reducible first | exact HB.out | apply below_alloc | apply pw_below_drewN | apply below_drew1 | refine below_set ?_ GE461.out | refine below_set ?_ GE476.out | refine below_set ?_ GE488.out | refine below_set ?_ GE500.out) | exact HB.out)) hb); clear HO470; clear HO475; clear HO482; clear HO487; clear HO494; clear HO499; clear BK461; clear BK476; clear BK488; clear BK500; clear HB; have HO470 := n0_; have HO475 := n1_; have HO482 := n2_; have HO487 := n3_; have HO494 := n4_; have HO499 := n5_; have BK461 := n6_; have BK476 := n7_; have BK488 := n8_; have BK500 := n9_; have HB := n10_; clear n0_ n1_ n2_ n3_ n4_ n5_ n6_ n7_ n8_ n9_ n10_; (try clear hb); (try clear hb2); (try clear hk); (try clear hi); obtain ⟨Ao65, co65, eo65⟩ := Kd.R_slice HO499.out; subst eo65; obtain ⟨Ao66, co66, eo66⟩ := Kd.R_slice HO475.out; subst eo66; obtain ⟨Ao67, co67, eo67⟩ := Kd.R_slice HO487.out; subst eo67; have q68 : ((t473.length : Int) : Int) ≤ ((t497.length : Int) : Int) := of_decide_eq_true (by first | (with_reducible assumption) | assumption); obtain ⟨i068, hi068, _, hsz68, _⟩ := info_parts info3; have hroom68 : t497.length ≤ co65 := (Kd.R_reads' HO499.out).2.1; have hC68 : Kd.C (Kd.int .i64) _ Ao65 t497.length t497 := (Kd.R_reads' HO499.out).2.2; have hcut68 := cut_to (P := Try.prog) 30 3 .i64 Try.underlying30 hi068 Ao65 t497.length co65 (t473.length : Int) (of_decide_eq_true (by first | (with_reducible assumption) | assumption)) q68 hroom68; have hr68 := Kd.C_take (m := ((t473.length : Int) : Int).toNat) hC68 (by omega); have hy68 : y502.length = ((t473.length : Int) : Int).toNat := (by rw [Ny502.out, List.length_take]; omega); rw [← Ny502.out] at hr68; rw [← hy68] at hcut68; have HR505 := Aside0.mk hr68; have HC505 := Aside0.mk (show y502.length ≤ co65 from by omega); clear hr68 hC68 hroom68 hi068 hsz68; have KY68 := Aside0.mk hy68; clear hy68; have KL68 := Aside0.mk (show ((t473.length : Int) : Int).toNat ≤ t497.length from by omega); replace q68 := eq_true q68) | (go_at_call 17; (with_reducible refine (jobshelllaw26_numbers.calls kj3 _ _ y502 _ _ t473 true _ ?side1 ?side2 ?side3 ?side4 A37.out).mono ?_); (case side1 => repeat (first | exact (by repeat (first | (with_reducible exact HR505.out) | (with_reducible refine Kd.C_alloc ?_ _) | (with_reducible refine Kd.C_drewN ?_ _) | (with_reducible refine Kd.C_drew ?_) | exact HR505.out)) | (with_reducible refine Kd.C_alloc ?_ _) | (with_reducible refine Kd.C_drewN ?_ _) | (with_reducible refine Kd.C_drew ?_))); (case side2 => exact HC505.out); (case side3 => repeat (first | exact (Kd.R_reads' HO475.out).2.2 | (with_reducible refine Kd.C_alloc ?_ _) | (with_reducible refine Kd.C_drewN ?_ _) | (with_reducible refine Kd.C_drew ?_))); (case side4 => exact (Kd.R_reads' HO475.out).2.1); rintro e w' ⟨rfl, ⟨nd, rfl⟩⟩; have q69 : ((t473.length : Int) : Int) ≤ ((t497.length : Int) : Int) := of_decide_eq_true (by first | (with_reducible assumption) | assumption); obtain ⟨i069, hi069, _, hsz69, _⟩ := info_parts info3; have hroom69 : t497.length ≤ co65 := (Kd.R_reads' HO499.out).2.1; have hC69 : Kd.C (Kd.int .i64) _ Ao65 t497.length t497 := (Kd.R_reads' HO499.out).2.2; have q069 : (0 : Int) ≤ ((t473.length : Int) : Int) := of_decide_eq_true (by first | (with_reducible assumption) | assumption); have hcut69 := cut_from (P := Try.prog) 30 3 .i64 Try.underlying30 hi069 1 hsz69 Ao65 t497.length co65 (t473.length : Int) q069 q69; have hr69 := Kd.C_drop (m := ((t473.length : Int) : Int).toNat) (c := co65) hC69 (by omega) hroom69; obtain ⟨A69, hA69⟩ : ∃ A1, A1 = (if co65 = ((t473.length : Int) : Int).toNat then Ao65 else (Ao65 : Option Addr).map (·.add (((t473.length : Int) : Int).toNat * 1))) := ⟨_, rfl⟩; obtain ⟨c69, hc69⟩ : ∃ c1, c1 = co65 - ((t473.length : Int) : Int).toNat := ⟨_, rfl⟩; have hy69 : y507.length = t497.length - ((t473.length : Int) : Int).toNat := (by rw [Ny507.out, List.length_drop] <;> omega); rw [show (t497).drop ((t473.length : Int) : Int).toNat = y507 from Ny507.out.symm] at hr69; replace hr69 : Kd.C (Kd.int .i64) _ A69 y507.length y507 := (by rw [hA69]; exact hr69); rw [← hy69, ← hA69, ← hc69] at hcut69; have HR510 := Aside0.mk hr69; have HC510 := Aside0.mk (show y507.length ≤ c69 from by rw [hy69, hc69]; exact Nat.sub_le_sub_right hroom69 _); clear hr69 hC69 hroom69 hi069 hsz69 hc69; have KY69 := Aside0.mk hy69; have KA69 := Aside0.mk hA69; clear hy69 hA69; have KL69 := Aside0.mk (show ((t473.length : Int) : Int).toNat ≤ t497.length from by omega); replace q69 := eq_true q69) | (go_at_call 17; (with_reducible refine (jobshelllaw26_numbers.calls kj3 _ _ y507 _ _ t485 true _ ?side1 ?side2 ?side3 ?side4 A41.out).mono ?_); (case side1 => repeat (first | exact (by repeat (first | (with_reducible exact HR510.out) | (with_reducible refine Kd.C_alloc ?_ _) | (with_reducible refine Kd.C_drewN ?_ _) | (with_reducible refine Kd.C_drew ?_) | exact HR510.out)) | (with_reducible refine Kd.C_alloc ?_ _) | (with_reducible refine Kd.C_drewN ?_ _) | (with_reducible refine Kd.C_drew ?_))); (case side2 => exact HC510.out); (case side3 => repeat (first | exact (Kd.R_reads' HO487.out).2.2 | (with_reducible refine Kd.C_alloc ?_ _) | (with_reducible refine Kd.C_drewN ?_ _) | (with_reducible refine Kd.C_drew ?_))); (case side4 => exact (Kd.R_reads' HO487.out).2.1); rintro e w' ⟨rfl, ⟨nd, rfl⟩⟩) | (go_at_call 11; (with_reducible refine (jobshelllaw26_awake.calls kj3  t512 _ A43.out).mono ?_); rintro e w70 ⟨rfl, hb⟩; have n0_ := Aside0.mk (Kd.V_below (by (with_reducible repeat (first | apply Kd.V_alloc | apply Kd.V_drewN | apply Kd.V_drew)); exact HO470.out) hb); have n1_ := Aside0.mk (Kd.R_below (by (with_reducible repeat (first | apply Kd.R_alloc | apply Kd.R_drewN | apply Kd.R_drew)); exact HO475.out) hb); have n2_ := Aside0.mk (Kd.V_below (by (with_reducible repeat (first | apply Kd.V_alloc | apply Kd.V_drewN | apply Kd.V_drew)); exact HO482.out) hb); have n3_ := Aside0.mk (Kd.R_below (by (with_reducible repeat (first | apply Kd.R_alloc | apply Kd.R_drewN | apply Kd.R_drew)); exact HO487.out) hb); have n4_ := Aside0.mk (Kd.V_below (by (with_reducible repeat (first | apply Kd.V_alloc | apply Kd.V_drewN | apply Kd.V_drew)); exact HO494.out) hb); have n5_ := Aside0.mk (Kd.R_below (by (with_reducible repeat (first | apply Kd.R_alloc | apply Kd.R_drewN | apply Kd.R_drew)); exact HO499.out) hb); have n6_ := Aside0.mk (blk_below (g := gb461) (o := .cells #[.int .i64 a0_0, .int .i64 a0_1, .string a0_2, .slice A0_3 l0_3.length c0_3, .string a0_4, .bool a0_5] 24 (0, 0)) (by (with_reducible repeat (first | refine blk_drewN ?_ _ | refine blk_drew ?_ | refine blk_alloc ?_ _)); exact BK461.out) hb); have n7_ := Aside0.mk (blk_below (g := gb476) (o := .cells #[.int .i64 t465, .int .i64 t466, .string t467, .slice Ao46 t468.length co46, .string t471, .bool t472] 24 (0, 0)) (by (with_reducible repeat (first | refine blk_drewN ?_ _ | refine blk_drew ?_ | refine blk_alloc ?_ _)); exact BK476.out) hb); have n8_ := Aside0.mk (blk_below (g := gb488) (o := .cells #[.int .i64 t477, .int .i64 t478, .string t479, .slice Ao51 t480.length co51, .string t483, .bool t484] 24 (0, 0)) (by (with_reducible repeat (first | refine blk_drewN ?_ _ | refine blk_drew ?_ | refine blk_alloc ?_ _)); exact BK488.out) hb); have n9_ := Aside0.mk (blk_below (g := gb500) (o := .cells #[.int .i64 t489, .int .i64 t490, .string t491, .slice Ao56 t492.length co56, .string t495, .bool t496] 24 (0, 0)) (by (with_reducible repeat (first | refine blk_drewN ?_ _ | refine blk_drew ?_ | refine blk_alloc ?_ _)); exact BK500.out) hb); have n10_ := Aside0.mk (Kd.C_below (by repeat (first | (with_reducible exact HR505.out) | (with_reducible refine Kd.C_alloc ?_ _) | (with_reducible refine Kd.C_drewN ?_ _) | (with_reducible refine Kd.C_drew ?_) | exact HR505.out)) hb); have n11_ := Aside0.mk (Kd.C_below (by repeat (first | (with_reducible exact HR510.out) | (with_reducible refine Kd.C_alloc ?_ _) | (with_reducible refine Kd.C_drewN ?_ _) | (with_reducible refine Kd.C_drew ?_) | exact HR510.out)) hb); have n12_ := Aside0.mk (below_step (by repeat (first | (with_reducible first | exact HB.out | apply below_alloc | apply pw_below_drewN | apply below_drew1 | refine below_set ?_ GE461.out | refine below_set ?_ GE476.out | refine below_set ?_ GE488.out | refine below_set ?_ GE500.out) | exact HB.out)) hb); clear HO470; clear HO475; clear HO482; clear HO487; clear HO494; clear HO499; clear BK461; clear BK476; clear BK488; clear BK500; clear HR505; clear HR510; clear HB; have HO470 := n0_; have HO475 := n1_; have HO482 := n2_; have HO487 := n3_; have HO494 := n4_; have HO499 := n5_; have BK461 := n6_; have BK476 := n7_; have BK488 := n8_; have BK500 := n9_; have HR505 := n10_; have HR510 := n11_; have HB := n12_; clear n0_ n1_ n2_ n3_ n4_ n5_ n6_ n7_ n8_ n9_ n10_ n11_ n12_; (try clear hb); (try clear hb2); (try clear hk); (try clear hi)))
           go_ret
           exact ⟨by first | rfl | (simp [errW_none, errW_some] <;> rfl) | (simp [*, errW_none, errW_some] <;> rfl), by repeat (first | (with_reducible first | exact HB.out | apply below_alloc | apply pw_below_drewN | apply below_drew1 | refine below_set ?_ GE461.out | refine below_set ?_ GE476.out | refine below_set ?_ GE488.out | refine below_set ?_ GE500.out) | exact HB.out)⟩
          ·replace c42 := Bool.eq_false_iff.mpr c42
           subst c42
           have H1 : (none) = some r := by rw [if_neg (show ¬ (false = true) by decide)] at H; exact H
           clear H
           have H := H1
           clear H1
           exact absurd H (by simp)
         ·replace c38 := Bool.eq_false_iff.mpr c38
          subst c38
          have H1 : (none) = some r := by rw [if_neg (show ¬ (false = true) by decide)] at H; exact H
          clear H
          have H := H1
          clear H1
          exact absurd H (by simp)
        ·rw [if_neg c36] at H
         exact absurd H (by simp)
       ·rw [if_neg c35] at H
        exact absurd H (by simp)
      ·rw [if_neg c34] at H
       exact absurd H (by simp)
     ·replace c33 := Bool.eq_false_iff.mpr c33
      subst c33
      have H1 : (none) = some r := by rw [if_neg (show ¬ (false = true) by decide)] at H; exact H
      clear H
      have H := H1
      clear H1
      exact absurd H (by simp)
    ·rw [if_neg c30] at H
     exact absurd H (by simp)

end Go.Proofs.Ytoecolllimgbgaa.Q
