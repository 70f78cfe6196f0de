-- Written by wip/tool/myprint.py, a program of this repo that drives the kit's print over hand-written contracts; Lean checks it. (halved)
import Derived.Test.YtoecolllimgbgaaQ0
import Derived.Test.YtoecolllimgbgaaQ25
import Derived.Test.YtoecolllimgbgaaQ26
namespace Go.Proofs.Ytoecolllimgbgaa.Q
open Go.RowKit Go.Proofs.YtoecolllimgbgaaW.PrintWords Go.Proofs.YtoecolllimgbgaaW.PrintLast Go.Proofs.YtoecolllimgbgaaW.PrintMore Go.Proofs.YtoecolllimgbgaaM
attribute [local go_sem] max2_int min2_int max_two min_two max_three min_three max_four min_four   -- for this text's walks alone
set_option linter.unusedVariables false
set_option linter.unusedSimpArgs false

/-! ### tty_Valid: function 23 -/
mutual
def tty_Valid.j0 : Nat → Bool → Int → Int → ByteArray → List ByteArray → ByteArray → Bool → Option (Int)
 | 0, _, _, _, _, _, _, _ => none
 | k + 1, x6, x519000, x519001, x519002, x519003, x519004, x519005 => if x6 = true then (some 1) else (if (x519002.size : Int) > 4096 then (some 3) else ((tty_text.f k x519002).bind fun t519 => (if t519 = true then (if (x519003.length : Int) > 512 then (some 4) else (tty_Valid.l0 k x519003 (x519003.length : Int) 0 x519000 x519001 x519002 x519003 x519004 x519005)) else (some 1))))
def tty_Valid.l0 : Nat → List ByteArray → Int → Int → Int → Int → ByteArray → List ByteArray → ByteArray → Bool → Option (Int)
 | 0, _, _, _, _, _, _, _, _, _ => none
 | k + 1, x31, x32, x33, x519000, x519001, x519002, x519003, x519004, x519005 => if x33 < x32 then (if 0 ≤ x33 then (if x33 < (x31.length : Int) then ((tty_line.f k (rdOf ByteArray.empty x31 x33)).bind fun t521 => (if t521 = 0 then (tty_Valid.l0 k x31 x32 (wrap64 (x33 + 1)) x519000 x519001 x519002 x519003 x519004 x519005) else (some t521))) else (none)) else (none)) else (if (x519004.size : Int) > 65536 then (some 3) else (some 0))
end
def tty_Valid.f (k : Nat) (a0_0 : Int) (a0_1 : Int) (a0_2 : ByteArray) (l0_3 : List ByteArray) (a0_4 : ByteArray) (a0_5 : Bool) : Option (Int) := if a0_0 < 0 then (tty_Valid.j0 k true a0_0 a0_1 a0_2 l0_3 a0_4 a0_5) else (tty_Valid.j0 k (decide (a0_1 < 0)) a0_0 a0_1 a0_2 l0_3 a0_4 a0_5)
theorem tty_Valid.mono_l : ∀ k, (∀ y0 y1 y2 y3 y4 y5 y6, LeO (tty_Valid.j0 k y0 y1 y2 y3 y4 y5 y6) (tty_Valid.j0 (k + 1) y0 y1 y2 y3 y4 y5 y6)) ∧ (∀ y0 y1 y2 y3 y4 y5 y6 y7 y8, LeO (tty_Valid.l0 k y0 y1 y2 y3 y4 y5 y6 y7 y8) (tty_Valid.l0 (k + 1) y0 y1 y2 y3 y4 y5 y6 y7 y8))
 | 0 => ⟨fun _ _ _ _ _ _ _ r h => by simp [tty_Valid.j0] at h, fun _ _ _ _ _ _ _ _ _ r h => by simp [tty_Valid.l0] at h⟩
 | k + 1 => by
  obtain ⟨ih0, ih1⟩ := tty_Valid.mono_l k
  refine ⟨?_, ?_⟩
  ·intro y0 y1 y2 y3 y4 y5 y6
   unfold tty_Valid.j0
   repeat' first
   | (with_reducible exact ih0 _ _ _ _ _ _ _)
   | (with_reducible exact ih1 _ _ _ _ _ _ _ _ _)
   | (with_reducible exact tty_line.mono _ _)
   | (with_reducible exact tty_text.mono _ _)
   | (with_reducible exact LeO.refl _)
   | (with_reducible exact LeO.none _)
   | (with_reducible refine LeO.ite ?_ ?_)
   | (with_reducible refine LeO.bind ?_ (fun _ => ?_))
   | exact ih0 _ _ _ _ _ _ _
   | exact ih1 _ _ _ _ _ _ _ _ _
   | exact tty_line.mono _ _
   | exact tty_text.mono _ _
   | exact LeO.none _
   | refine LeO.ite ?_ ?_
   | refine LeO.bind ?_ (fun _ => ?_)
  ·intro y0 y1 y2 y3 y4 y5 y6 y7 y8
   unfold tty_Valid.l0
   repeat' first
   | (with_reducible exact ih0 _ _ _ _ _ _ _)
   | (with_reducible exact ih1 _ _ _ _ _ _ _ _ _)
   | (with_reducible exact tty_line.mono _ _)
   | (with_reducible exact tty_text.mono _ _)
   | (with_reducible exact LeO.refl _)
   | (with_reducible exact LeO.none _)
   | (with_reducible refine LeO.ite ?_ ?_)
   | (with_reducible refine LeO.bind ?_ (fun _ => ?_))
   | exact ih0 _ _ _ _ _ _ _
   | exact ih1 _ _ _ _ _ _ _ _ _
   | exact tty_line.mono _ _
   | exact tty_text.mono _ _
   | exact LeO.none _
   | refine LeO.ite ?_ ?_
   | refine LeO.bind ?_ (fun _ => ?_)
theorem tty_Valid.mono : ∀ a0 a1 a2 a3 a4 a5 k, LeO (tty_Valid.f k a0 a1 a2 a3 a4 a5) (tty_Valid.f (k + 1) a0 a1 a2 a3 a4 a5) := by
 intro a0 a1 a2 a3 a4 a5 k
 obtain ⟨ih0, ih1⟩ := tty_Valid.mono_l k
 unfold tty_Valid.f
 repeat' first
   | (with_reducible exact ih0 _ _ _ _ _ _ _)
   | (with_reducible exact ih1 _ _ _ _ _ _ _ _ _)
   | (with_reducible exact tty_line.mono _ _)
   | (with_reducible exact tty_text.mono _ _)
   | (with_reducible exact LeO.refl _)
   | (with_reducible exact LeO.none _)
   | (with_reducible refine LeO.ite ?_ ?_)
   | (with_reducible refine LeO.bind ?_ (fun _ => ?_))
   | exact ih0 _ _ _ _ _ _ _
   | exact ih1 _ _ _ _ _ _ _ _ _
   | exact tty_line.mono _ _
   | exact tty_text.mono _ _
   | exact LeO.none _
   | refine LeO.ite ?_ ?_
   | refine LeO.bind ?_ (fun _ => ?_)
set_option maxHeartbeats 8000000 in
set_option maxRecDepth 10000000 in
theorem tty_Valid.calls (k : Nat) (a0_0 : Int) (a0_1 : Int) (a0_2 : ByteArray) (A0_3 : Option Addr) (c0_3 : Nat) (l0_3 : List ByteArray) (a0_4 : ByteArray) (a0_5 : Bool) (r : Int) (w : World) (hr0_3 : Kd.C Kd.string w A0_3 l0_3.length l0_3) (hc0_3 : l0_3.length ≤ c0_3) (h : tty_Valid.f k a0_0 a0_1 a0_2 l0_3 a0_4 a0_5 = some r) :
  Calls Try.prog 23 #[.agg #[.int .i64 a0_0, .int .i64 a0_1, .string a0_2, .slice A0_3 l0_3.length c0_3, .string a0_4, .bool a0_5]] w fun e w' => e = .returned (.int .i64 r) ∧ Below w.heap.size w w' := by
 have hu24 := Try.underlying24
 have HR0_3 := Aside0.mk hr0_3
 have HC0_3 := Aside0.mk hc0_3
 clear hr0_3 hc0_3
 have HB := Aside0.mk (Below.refl w.heap.size w)
 have H : (if a0_0 < 0 then (tty_Valid.j0 k true a0_0 a0_1 a0_2 l0_3 a0_4 a0_5) else (tty_Valid.j0 k (decide (a0_1 < 0)) a0_0 a0_1 a0_2 l0_3 a0_4 a0_5)) = some r := h
 clear h
 have HC2 := Aside0.mk H
 clear H
 go_enter Try.func23, Try.ntmps23
 go_upto_region 1 with (first | ((with_reducible refine gate_dst (N := 1) rfl ?_); refine box_event ?hg (N := 1) ?hd (cs := #[.int .i64 a0_0, .int .i64 a0_1, .string a0_2, .slice A0_3 l0_3.length c0_3, .string a0_4, .bool a0_5]) (t := 24) ?hr ?_; (case hd => rfl); (case hg => rfl); (case hr => first | (go_simp; done) | (go_simp; rfl)); intro gb518 hg w3 hbox hb; have n0_ := Aside0.mk (below_step (by repeat (first | (with_reducible first | exact HB.out | apply below_alloc | apply pw_below_drewN | apply below_drew1) | exact HB.out)) hb); have n1_ := Aside0.mk (hbox); have n2_ := Aside0.mk ((by rw [hg]; exact (below_size (by repeat (first | (with_reducible first | exact HB.out | apply below_alloc | apply pw_below_drewN | apply below_drew1) | exact HB.out))) : w.heap.size ≤ gb518)); have n3_ := Aside0.mk ((by rw [hg]; exact (below_size (by repeat (first | (with_reducible first | exact HB.out | apply below_alloc | apply pw_below_drewN | apply below_drew1) | exact HB.out))) : w.heap.size ≤ gb518)); clear HB; have HB := n0_; have BK518 := n1_; have GW518 := n2_; have GE518 := n3_; clear n0_ n1_ n2_ n3_; clear hb hbox hg))
 (try simp only [Act.put, List.setIfInBounds_toArray, List.set_cons_zero, List.set_cons_succ])
 go_cut [6] (fun v6 wc => ∃ (kq : Nat) (x6_1 : Bool), v6 = .bool x6_1 ∧ Aside0 (tty_Valid.j0 kq x6_1 a0_0 a0_1 a0_2 l0_3 a0_4 a0_5 = some r) ∧ Aside0 (kq ≤ k) ∧ Aside0 (wc.heap[gb518]? = some (.cells #[.int .i64 a0_0, .int .i64 a0_1, .string a0_2, (.slice A0_3 l0_3.length c0_3), .string a0_4, .bool a0_5] 24 (0, 0))) ∧ Aside0 (Below w.heap.size w wc))
 case first =>
  have H := HC2.out
  clear HC2
  by_cases c4 : a0_0 < 0
  ·rw [if_pos c4] at H
   have c4b0 : decide (a0_0 < 0) = true := decide_eq_true c4
   clear c4
   (first | rw [c4b0] | (simp only [i64_w, i32_w]; rw [c4b0]) | skip)
   have H' := Aside0.mk H
   clear H
   have hcz5_0 : w3.cell? ⟨gb518, 0, none⟩ = some (.int .i64 a0_0) := (blk_cell BK518.out 0).trans rfl
   have hcz5_1 : w3.cell? ⟨gb518, 1, none⟩ = some (.int .i64 a0_1) := (blk_cell BK518.out 1).trans rfl
   have hcz5_2 : w3.cell? ⟨gb518, 2, none⟩ = some (.string a0_2) := (blk_cell BK518.out 2).trans rfl
   have hcz5_3 : w3.cell? ⟨gb518, 3, none⟩ = some (.slice A0_3 l0_3.length c0_3) := (blk_cell BK518.out 3).trans rfl
   have hcz5_4 : w3.cell? ⟨gb518, 4, none⟩ = some (.string a0_4) := (blk_cell BK518.out 4).trans rfl
   have hcz5_5 : w3.cell? ⟨gb518, 5, none⟩ = some (.bool a0_5) := (blk_cell BK518.out 5).trans rfl
   have hfz5_0 := blk_frozen BK518.out 0
   have hfz5_1 := blk_frozen BK518.out 1
   have hfz5_2 := blk_frozen BK518.out 2
   have hfz5_3 := blk_frozen BK518.out 3
   have hfz5_4 := blk_frozen BK518.out 4
   have hfz5_5 := blk_frozen BK518.out 5
   go_wp2
   go_meet
   case rel => exact ⟨_, (true), (by first | rfl | (simp; done) | (simp [*]; done) | (generalize ByteArray.toList _ = l_; cases l_ <;> rfl)), H', ⟨by first | omega | exact Nat.le_refl _⟩, ⟨by (with_reducible repeat (first | refine blk_drewN ?_ _ | refine blk_drew ?_ | refine blk_alloc ?_ _)); exact BK518.out⟩, ⟨by repeat (first | (with_reducible first | exact HB.out | apply below_alloc | apply pw_below_drewN | apply below_drew1 | refine below_set ?_ GE518.out) | exact HB.out)⟩⟩
  ·rw [if_neg c4] at H
   have c4b0 : decide (a0_0 < 0) = false := decide_eq_false c4
   clear c4
   (first | rw [c4b0] | (simp only [i64_w, i32_w]; rw [c4b0]) | skip)
   have H' := Aside0.mk H
   clear H
   have hcz6_0 : w3.cell? ⟨gb518, 0, none⟩ = some (.int .i64 a0_0) := (blk_cell BK518.out 0).trans rfl
   have hcz6_1 : w3.cell? ⟨gb518, 1, none⟩ = some (.int .i64 a0_1) := (blk_cell BK518.out 1).trans rfl
   have hcz6_2 : w3.cell? ⟨gb518, 2, none⟩ = some (.string a0_2) := (blk_cell BK518.out 2).trans rfl
   have hcz6_3 : w3.cell? ⟨gb518, 3, none⟩ = some (.slice A0_3 l0_3.length c0_3) := (blk_cell BK518.out 3).trans rfl
   have hcz6_4 : w3.cell? ⟨gb518, 4, none⟩ = some (.string a0_4) := (blk_cell BK518.out 4).trans rfl
   have hcz6_5 : w3.cell? ⟨gb518, 5, none⟩ = some (.bool a0_5) := (blk_cell BK518.out 5).trans rfl
   have hfz6_0 := blk_frozen BK518.out 0
   have hfz6_1 := blk_frozen BK518.out 1
   have hfz6_2 := blk_frozen BK518.out 2
   have hfz6_3 := blk_frozen BK518.out 3
   have hfz6_4 := blk_frozen BK518.out 4
   have hfz6_5 := blk_frozen BK518.out 5
   go_wp2
   go_meet
   case rel => exact ⟨_, (decide (a0_1 < 0)), (by first | rfl | (simp; done) | (simp [*]; done) | (generalize ByteArray.toList _ = l_; cases l_ <;> rfl)), H', ⟨by first | omega | exact Nat.le_refl _⟩, ⟨by (with_reducible repeat (first | refine blk_drewN ?_ _ | refine blk_drew ?_ | refine blk_alloc ?_ _)); exact BK518.out⟩, ⟨by repeat (first | (with_reducible first | exact HB.out | apply below_alloc | apply pw_below_drewN | apply below_drew1 | refine below_set ?_ GE518.out) | exact HB.out)⟩⟩
 case rest =>
  clear HC2
  try clear c2
  try clear p2
  try clear c4
  try clear c4b0
  try clear hcz5_0
  try clear hcz5_1
  try clear hcz5_2
  try clear hcz5_3
  try clear hcz5_4
  try clear hcz5_5
  try clear hcz6_0
  try clear hcz6_1
  try clear hcz6_2
  try clear hcz6_3
  try clear hcz6_4
  try clear hcz6_5
  try clear hfz5_0
  try clear hfz5_1
  try clear hfz5_2
  try clear hfz5_3
  try clear hfz5_4
  try clear hfz5_5
  try clear hfz6_0
  try clear hfz6_1
  try clear hfz6_2
  try clear hfz6_3
  try clear hfz6_4
  try clear hfz6_5
  obtain ⟨kq, x6_1, rfl, HA, HJ1, BK518, HB⟩ := hcut
  cases kq with
  | zero => exact absurd HA.out (by simp [tty_Valid.j0])
  | succ kj1 =>
   have H := HA.out
   clear HA
   simp only [tty_Valid.j0] at H
   by_cases c7 : x6_1 = true
   ·subst c7
    have H1 : (some 1) = some r := by rw [if_pos rfl] at H; exact H
    clear H
    have H := H1
    clear H1
    obtain rfl := Option.some.inj H
    go_wp2
    go_ret
    exact ⟨by first | rfl | (simp [errW_none, errW_some] <;> rfl) | (simp [*, errW_none, errW_some] <;> rfl), by repeat (first | (with_reducible first | exact HB.out | apply below_alloc | apply pw_below_drewN | apply below_drew1 | refine below_set ?_ GE518.out) | exact HB.out)⟩
   ·replace c7 := Bool.eq_false_iff.mpr c7
    subst c7
    have H1 : (if (a0_2.size : Int) > 4096 then (some 3) else ((tty_text.f kj1 a0_2).bind fun t519 => (if t519 = true then (if (l0_3.length : Int) > 512 then (some 4) else (tty_Valid.l0 kj1 l0_3 (l0_3.length : Int) 0 a0_0 a0_1 a0_2 l0_3 a0_4 a0_5)) else (some 1)))) = some r := by rw [if_neg (show ¬ (false = true) by decide)] at H; exact H
    clear H
    have H := H1
    clear H1
    by_cases c8 : (a0_2.size : Int) > 4096
    ·rw [if_pos c8] at H
     have c8b0 : decide (4096 < (a0_2.size : Int)) = true := decide_eq_true c8
     have c8b1 : decide (4096 < a0_2.size) = true := decide_eq_true (by omega)
     clear c8
     obtain rfl := Option.some.inj H
     have hcz9_0 : wc.cell? ⟨gb518, 0, none⟩ = some (.int .i64 a0_0) := (blk_cell BK518.out 0).trans rfl
     have hcz9_1 : wc.cell? ⟨gb518, 1, none⟩ = some (.int .i64 a0_1) := (blk_cell BK518.out 1).trans rfl
     have hcz9_2 : wc.cell? ⟨gb518, 2, none⟩ = some (.string a0_2) := (blk_cell BK518.out 2).trans rfl
     have hcz9_3 : wc.cell? ⟨gb518, 3, none⟩ = some (.slice A0_3 l0_3.length c0_3) := (blk_cell BK518.out 3).trans rfl
     have hcz9_4 : wc.cell? ⟨gb518, 4, none⟩ = some (.string a0_4) := (blk_cell BK518.out 4).trans rfl
     have hcz9_5 : wc.cell? ⟨gb518, 5, none⟩ = some (.bool a0_5) := (blk_cell BK518.out 5).trans rfl
     have hfz9_0 := blk_frozen BK518.out 0
     have hfz9_1 := blk_frozen BK518.out 1
     have hfz9_2 := blk_frozen BK518.out 2
     have hfz9_3 := blk_frozen BK518.out 3
     have hfz9_4 := blk_frozen BK518.out 4
     have hfz9_5 := blk_frozen BK518.out 5
     go_wp2
     go_ret
     exact ⟨by first | rfl | (simp [errW_none, errW_some] <;> rfl) | (simp [*, errW_none, errW_some] <;> rfl), by repeat (first | (with_reducible first | exact HB.out | apply below_alloc | apply pw_below_drewN | apply below_drew1 | refine below_set ?_ GE518.out) | exact HB.out)⟩
    ·rw [if_neg c8] at H
     have c8b0 : decide (4096 < (a0_2.size : Int)) = false := decide_eq_false c8
     have c8b1 : decide (4096 < a0_2.size) = false := decide_eq_false (by omega)
     clear c8
     replace H := Option.bind_eq_some_iff.mp H
     obtain ⟨t519, A100, H⟩ := H
     replace H : (if t519 = true then (if (l0_3.length : Int) > 512 then (some 4) else (tty_Valid.l0 kj1 l0_3 (l0_3.length : Int) 0 a0_0 a0_1 a0_2 l0_3 a0_4 a0_5)) else (some 1)) = some r := H
     have A10 := Aside0.mk A100
     clear A100
     by_cases c11 : t519 = true
     ·subst c11
      have H1 : (if (l0_3.length : Int) > 512 then (some 4) else (tty_Valid.l0 kj1 l0_3 (l0_3.length : Int) 0 a0_0 a0_1 a0_2 l0_3 a0_4 a0_5)) = some r := by rw [if_pos rfl] at H; exact H
      clear H
      have H := H1
      clear H1
      by_cases c12 : (l0_3.length : Int) > 512
      ·rw [if_pos c12] at H
       have c12b0 : decide (512 < (l0_3.length : Int)) = true := decide_eq_true c12
       have c12b1 : decide (512 < l0_3.length) = true := decide_eq_true (by omega)
       clear c12
       obtain rfl := Option.some.inj H
       have hcz13_0 : wc.cell? ⟨gb518, 0, none⟩ = some (.int .i64 a0_0) := (blk_cell BK518.out 0).trans rfl
       have hcz13_1 : wc.cell? ⟨gb518, 1, none⟩ = some (.int .i64 a0_1) := (blk_cell BK518.out 1).trans rfl
       have hcz13_2 : wc.cell? ⟨gb518, 2, none⟩ = some (.string a0_2) := (blk_cell BK518.out 2).trans rfl
       have hcz13_3 : wc.cell? ⟨gb518, 3, none⟩ = some (.slice A0_3 l0_3.length c0_3) := (blk_cell BK518.out 3).trans rfl
       have hcz13_4 : wc.cell? ⟨gb518, 4, none⟩ = some (.string a0_4) := (blk_cell BK518.out 4).trans rfl
       have hcz13_5 : wc.cell? ⟨gb518, 5, none⟩ = some (.bool a0_5) := (blk_cell BK518.out 5).trans rfl
       have hfz13_0 := blk_frozen BK518.out 0
       have hfz13_1 := blk_frozen BK518.out 1
       have hfz13_2 := blk_frozen BK518.out 2
       have hfz13_3 := blk_frozen BK518.out 3
       have hfz13_4 := blk_frozen BK518.out 4
       have hfz13_5 := blk_frozen BK518.out 5
       go_wp2_with (first | ((with_reducible refine gate_callee (f := 32) rfl ?_); refine goesL_ (some 23) rfl rfl Try.func32 (by kernel_rfl) rfl #[.string a0_2] rfl (by (try simp only [List.map_toArray, List.map_cons, List.map_nil]); first | done | rfl | (simp only [List.length_drop, List.length_take]; rfl)) ?_; (with_reducible refine (tty_text.calls kj1 a0_2 true _ A10.out).mono ?_); rintro e w' ⟨rfl, ⟨nd, rfl⟩⟩; refine ⟨_, rfl, ?_⟩))
       go_ret
       exact ⟨by first | rfl | (simp [errW_none, errW_some] <;> rfl) | (simp [*, errW_none, errW_some] <;> rfl), by repeat (first | (with_reducible first | exact HB.out | apply below_alloc | apply pw_below_drewN | apply below_drew1 | refine below_set ?_ GE518.out) | exact HB.out)⟩
      ·rw [if_neg c12] at H
       have c12b0 : decide (512 < (l0_3.length : Int)) = false := decide_eq_false c12
       have c12b1 : decide (512 < l0_3.length) = false := decide_eq_false (by omega)
       clear c12
       have H' := Aside0.mk H
       clear H
       have hcz14_0 : wc.cell? ⟨gb518, 0, none⟩ = some (.int .i64 a0_0) := (blk_cell BK518.out 0).trans rfl
       have hcz14_1 : wc.cell? ⟨gb518, 1, none⟩ = some (.int .i64 a0_1) := (blk_cell BK518.out 1).trans rfl
       have hcz14_2 : wc.cell? ⟨gb518, 2, none⟩ = some (.string a0_2) := (blk_cell BK518.out 2).trans rfl
       have hcz14_3 : wc.cell? ⟨gb518, 3, none⟩ = some (.slice A0_3 l0_3.length c0_3) := (blk_cell BK518.out 3).trans rfl
       have hcz14_4 : wc.cell? ⟨gb518, 4, none⟩ = some (.string a0_4) := (blk_cell BK518.out 4).trans rfl
       have hcz14_5 : wc.cell? ⟨gb518, 5, none⟩ = some (.bool a0_5) := (blk_cell BK518.out 5).trans rfl
       have hfz14_0 := blk_frozen BK518.out 0
       have hfz14_1 := blk_frozen BK518.out 1
       have hfz14_2 := blk_frozen BK518.out 2
       have hfz14_3 := blk_frozen BK518.out 3
       have hfz14_4 := blk_frozen BK518.out 4
       have hfz14_5 := blk_frozen BK518.out 5
       go_wp2_with (first | ((with_reducible refine gate_callee (f := 32) rfl ?_); refine goesL_ (some 23) rfl rfl Try.func32 (by kernel_rfl) rfl #[.string a0_2] rfl (by (try simp only [List.map_toArray, List.map_cons, List.map_nil]); first | done | rfl | (simp only [List.length_drop, List.length_take]; rfl)) ?_; (with_reducible refine (tty_text.calls kj1 a0_2 true _ A10.out).mono ?_); rintro e w' ⟨rfl, ⟨nd, rfl⟩⟩; refine ⟨_, rfl, ?_⟩))
       go_loopg [33] kj1 (fun kq v33 w' => ∃ (x33_2 : Int), v33 = .int .i64 x33_2 ∧ Aside0 (tty_Valid.l0 kq l0_3 (l0_3.length : Int) x33_2 a0_0 a0_1 a0_2 l0_3 a0_4 a0_5 = some r) ∧ Aside0 (kq ≤ kj1) ∧ Aside0 (w'.heap[gb518]? = some (.cells #[.int .i64 a0_0, .int .i64 a0_1, .string a0_2, (.slice A0_3 l0_3.length c0_3), .string a0_4, .bool a0_5] 24 (0, 0))) ∧ Aside0 (Below w.heap.size w w'))
       case atStart => exact ⟨(0), (by first | rfl | (simp; done) | (simp [*]; done) | (generalize ByteArray.toList _ = l_; cases l_ <;> rfl)), H', ⟨Nat.le_refl _⟩, ⟨by (with_reducible repeat (first | refine blk_drewN ?_ _ | refine blk_drew ?_ | refine blk_alloc ?_ _)); exact BK518.out⟩, ⟨by repeat (first | (with_reducible first | exact HB.out | apply below_alloc | apply pw_below_drewN | apply below_drew1 | refine below_set ?_ GE518.out) | exact HB.out)⟩⟩
       case round =>
        clear H'
        try clear c1
        try clear c2
        try clear p2
        try clear c3
        try clear c4
        try clear c4b0
        try clear c7
        try clear c8
        try clear c8b0
        try clear c8b1
        try clear c11
        try clear c12
        try clear c12b0
        try clear c12b1
        try clear hcz13_0
        try clear hcz13_1
        try clear hcz13_2
        try clear hcz13_3
        try clear hcz13_4
        try clear hcz13_5
        try clear hcz14_0
        try clear hcz14_1
        try clear hcz14_2
        try clear hcz14_3
        try clear hcz14_4
        try clear hcz14_5
        try clear hcz5_0
        try clear hcz5_1
        try clear hcz5_2
        try clear hcz5_3
        try clear hcz5_4
        try clear hcz5_5
        try clear hcz6_0
        try clear hcz6_1
        try clear hcz6_2
        try clear hcz6_3
        try clear hcz6_4
        try clear hcz6_5
        try clear hcz9_0
        try clear hcz9_1
        try clear hcz9_2
        try clear hcz9_3
        try clear hcz9_4
        try clear hcz9_5
        try clear hfz13_0
        try clear hfz13_1
        try clear hfz13_2
        try clear hfz13_3
        try clear hfz13_4
        try clear hfz13_5
        try clear hfz14_0
        try clear hfz14_1
        try clear hfz14_2
        try clear hfz14_3
        try clear hfz14_4
        try clear hfz14_5
        try clear hfz5_0
        try clear hfz5_1
        try clear hfz5_2
        try clear hfz5_3
        try clear hfz5_4
        try clear hfz5_5
        try clear hfz6_0
        try clear hfz6_1
        try clear hfz6_2
        try clear hfz6_3
        try clear hfz6_4
        try clear hfz6_5
        try clear hfz9_0
        try clear hfz9_1
        try clear hfz9_2
        try clear hfz9_3
        try clear hfz9_4
        try clear hfz9_5
        try clear p2
        obtain ⟨x33_2, rfl, HA, HK2, BK518, HB⟩ := hrel
        cases gk with
        | zero => exact absurd HA.out (by simp [tty_Valid.l0])
        | succ k2 =>
         have H := HA.out
         clear HA
         simp only [tty_Valid.l0] at H
         by_cases c15 : x33_2 < (l0_3.length : Int)
         ·rw [if_pos c15] at H
          have c15b0 : decide (x33_2 < (l0_3.length : Int)) = true := decide_eq_true c15
          clear c15
          by_cases c16 : 0 ≤ x33_2
          ·rw [if_pos c16] at H
           have c16b0 : decide (0 ≤ x33_2) = true := decide_eq_true c16
           clear c16
           by_cases c17 : x33_2 < (l0_3.length : Int)
           ·rw [if_pos c17] at H
            have c17b0 : decide (x33_2 < (l0_3.length : Int)) = true := decide_eq_true c17
            clear c17
            replace H := Option.bind_eq_some_iff.mp H
            obtain ⟨t521, A180, H⟩ := H
            replace H : (if t521 = 0 then (tty_Valid.l0 k2 l0_3 (l0_3.length : Int) (wrap64 (x33_2 + 1)) a0_0 a0_1 a0_2 l0_3 a0_4 a0_5) else (some t521)) = some r := H
            have A18 := Aside0.mk A180
            clear A180
            by_cases c19 : t521 = 0
            ·rw [if_pos c19] at H
             have c19b0 : (t521 == 0) = true := beq_iff_eq.mpr c19
             have c19b1 : (t521 != 0) = false := bne_eq_false_iff_eq.mpr c19
             clear c19
             have H' := Aside0.mk H
             clear H
             have p520 : 0 ≤ (x33_2 : Int) := of_decide_eq_true (by first | (with_reducible assumption) | assumption)
             have q520 : x33_2 < (l0_3.length : Int) := of_decide_eq_true (by first | (with_reducible assumption) | assumption)
             obtain ⟨ad520, e520, hx520_0⟩ := Kd.at_string HR0_3.out x33_2 p520 q520
             cases e520
             replace hx520_0 := (HB.out.cell (World.block_lt_of_cell? w _ hx520_0)).trans hx520_0
             replace p520 := eq_true p520
             replace q520 := eq_true q520
             go_wp2_with (first | ((with_reducible refine gate_callee (f := 33) rfl ?_); refine goesL_ (some 38) rfl rfl Try.func33 (by kernel_rfl) rfl #[.string (rdOf ByteArray.empty l0_3 x33_2)] rfl (by (try simp only [List.map_toArray, List.map_cons, List.map_nil]); first | done | rfl | (simp only [List.length_drop, List.length_take]; rfl)) ?_; (with_reducible refine (tty_line.calls k2 (rdOf ByteArray.empty l0_3 x33_2) t521 _ A18.out).mono ?_); rintro e w' ⟨rfl, ⟨nd, rfl⟩⟩; refine ⟨_, rfl, ?_⟩))
             go_roundg k2
             case measure => have := HJ1.out; have := HK2.out; omega
             case rel => exact ⟨(wrap64 (x33_2 + 1)), (by first | rfl | (simp; done) | (simp [*]; done) | (generalize ByteArray.toList _ = l_; cases l_ <;> rfl)), H', ⟨by have := HJ1.out; have := HK2.out; omega⟩, ⟨by (with_reducible repeat (first | refine blk_drewN ?_ _ | refine blk_drew ?_ | refine blk_alloc ?_ _)); exact BK518.out⟩, ⟨by repeat (first | (with_reducible first | exact HB.out | apply below_alloc | apply pw_below_drewN | apply below_drew1 | refine below_set ?_ GE518.out) | exact HB.out)⟩⟩
            ·rw [if_neg c19] at H
             have c19b0 : (t521 == 0) = false := beq_eq_false_iff_ne.mpr c19
             have c19b1 : (t521 != 0) = true := bne_iff_ne.mpr c19
             obtain rfl := Option.some.inj H
             have p520 : 0 ≤ (x33_2 : Int) := of_decide_eq_true (by first | (with_reducible assumption) | assumption)
             have q520 : x33_2 < (l0_3.length : Int) := of_decide_eq_true (by first | (with_reducible assumption) | assumption)
             obtain ⟨ad520, e520, hx520_0⟩ := Kd.at_string HR0_3.out x33_2 p520 q520
             cases e520
             replace hx520_0 := (HB.out.cell (World.block_lt_of_cell? w _ hx520_0)).trans hx520_0
             replace p520 := eq_true p520
             replace q520 := eq_true q520
             go_wp2_with (first | ((with_reducible refine gate_callee (f := 33) rfl ?_); refine goesL_ (some 38) rfl rfl Try.func33 (by kernel_rfl) rfl #[.string (rdOf ByteArray.empty l0_3 x33_2)] rfl (by (try simp only [List.map_toArray, List.map_cons, List.map_nil]); first | done | rfl | (simp only [List.length_drop, List.length_take]; rfl)) ?_; (with_reducible refine (tty_line.calls k2 (rdOf ByteArray.empty l0_3 x33_2) t521 _ A18.out).mono ?_); rintro e w' ⟨rfl, ⟨nd, rfl⟩⟩; refine ⟨_, rfl, ?_⟩))
             go_ret
             exact ⟨by first | rfl | (simp [errW_none, errW_some] <;> rfl) | (simp [*, errW_none, errW_some] <;> rfl), by repeat (first | (with_reducible first | exact HB.out | apply below_alloc | apply pw_below_drewN | apply below_drew1 | refine below_set ?_ GE518.out) | exact HB.out)⟩
           ·rw [if_neg c17] at H
            exact absurd H (by simp)
          ·rw [if_neg c16] at H
           exact absurd H (by simp)
         ·rw [if_neg c15] at H
          have c15b0 : decide (x33_2 < (l0_3.length : Int)) = false := decide_eq_false c15
          clear c15
          by_cases c20 : (a0_4.size : Int) > 65536
          ·rw [if_pos c20] at H
           have c20b0 : decide (65536 < (a0_4.size : Int)) = true := decide_eq_true c20
           have c20b1 : decide (65536 < a0_4.size) = true := decide_eq_true (by omega)
           clear c20
           obtain rfl := Option.some.inj H
           have hcz21_0 : wr.cell? ⟨gb518, 0, none⟩ = some (.int .i64 a0_0) := (blk_cell BK518.out 0).trans rfl
           have hcz21_1 : wr.cell? ⟨gb518, 1, none⟩ = some (.int .i64 a0_1) := (blk_cell BK518.out 1).trans rfl
           have hcz21_2 : wr.cell? ⟨gb518, 2, none⟩ = some (.string a0_2) := (blk_cell BK518.out 2).trans rfl
           have hcz21_3 : wr.cell? ⟨gb518, 3, none⟩ = some (.slice A0_3 l0_3.length c0_3) := (blk_cell BK518.out 3).trans rfl
           have hcz21_4 : wr.cell? ⟨gb518, 4, none⟩ = some (.string a0_4) := (blk_cell BK518.out 4).trans rfl
           have hcz21_5 : wr.cell? ⟨gb518, 5, none⟩ = some (.bool a0_5) := (blk_cell BK518.out 5).trans rfl
           have hfz21_0 := blk_frozen BK518.out 0
           have hfz21_1 := blk_frozen BK518.out 1
           have hfz21_2 := blk_frozen BK518.out 2
           have hfz21_3 := blk_frozen BK518.out 3
           have hfz21_4 := blk_frozen BK518.out 4
           have hfz21_5 := blk_frozen BK518.out 5
           go_wp2
           go_ret
           exact ⟨by first | rfl | (simp [errW_none, errW_some] <;> rfl) | (simp [*, errW_none, errW_some] <;> rfl), by repeat (first | (with_reducible first | exact HB.out | apply below_alloc | apply pw_below_drewN | apply below_drew1 | refine below_set ?_ GE518.out) | exact HB.out)⟩
          ·rw [if_neg c20] at H
           have c20b0 : decide (65536 < (a0_4.size : Int)) = false := decide_eq_false c20
           have c20b1 : decide (65536 < a0_4.size) = false := decide_eq_false (by omega)
           clear c20
           obtain rfl := Option.some.inj H
           have hcz22_0 : wr.cell? ⟨gb518, 0, none⟩ = some (.int .i64 a0_0) := (blk_cell BK518.out 0).trans rfl
           have hcz22_1 : wr.cell? ⟨gb518, 1, none⟩ = some (.int .i64 a0_1) := (blk_cell BK518.out 1).trans rfl
           have hcz22_2 : wr.cell? ⟨gb518, 2, none⟩ = some (.string a0_2) := (blk_cell BK518.out 2).trans rfl
           have hcz22_3 : wr.cell? ⟨gb518, 3, none⟩ = some (.slice A0_3 l0_3.length c0_3) := (blk_cell BK518.out 3).trans rfl
           have hcz22_4 : wr.cell? ⟨gb518, 4, none⟩ = some (.string a0_4) := (blk_cell BK518.out 4).trans rfl
           have hcz22_5 : wr.cell? ⟨gb518, 5, none⟩ = some (.bool a0_5) := (blk_cell BK518.out 5).trans rfl
           have hfz22_0 := blk_frozen BK518.out 0
           have hfz22_1 := blk_frozen BK518.out 1
           have hfz22_2 := blk_frozen BK518.out 2
           have hfz22_3 := blk_frozen BK518.out 3
           have hfz22_4 := blk_frozen BK518.out 4
           have hfz22_5 := blk_frozen BK518.out 5
           go_wp2
           go_ret
           exact ⟨by first | rfl | (simp [errW_none, errW_some] <;> rfl) | (simp [*, errW_none, errW_some] <;> rfl), by repeat (first | (with_reducible first | exact HB.out | apply below_alloc | apply pw_below_drewN | apply below_drew1 | refine below_set ?_ GE518.out) | exact HB.out)⟩
     ·replace c11 := Bool.eq_false_iff.mpr c11
      subst c11
      have H1 : (some 1) = some r := by rw [if_neg (show ¬ (false = true) by decide)] at H; exact H
      clear H
      have H := H1
      clear H1
      obtain rfl := Option.some.inj H
      have hcz23_0 : wc.cell? ⟨gb518, 0, none⟩ = some (.int .i64 a0_0) := (blk_cell BK518.out 0).trans rfl
      have hcz23_1 : wc.cell? ⟨gb518, 1, none⟩ = some (.int .i64 a0_1) := (blk_cell BK518.out 1).trans rfl
      have hcz23_2 : wc.cell? ⟨gb518, 2, none⟩ = some (.string a0_2) := (blk_cell BK518.out 2).trans rfl
      have hcz23_3 : wc.cell? ⟨gb518, 3, none⟩ = some (.slice A0_3 l0_3.length c0_3) := (blk_cell BK518.out 3).trans rfl
      have hcz23_4 : wc.cell? ⟨gb518, 4, none⟩ = some (.string a0_4) := (blk_cell BK518.out 4).trans rfl
      have hcz23_5 : wc.cell? ⟨gb518, 5, none⟩ = some (.bool a0_5) := (blk_cell BK518.out 5).trans rfl
      have hfz23_0 := blk_frozen BK518.out 0
      have hfz23_1 := blk_frozen BK518.out 1
      have hfz23_2 := blk_frozen BK518.out 2
      have hfz23_3 := blk_frozen BK518.out 3
      have hfz23_4 := blk_frozen BK518.out 4
      have hfz23_5 := blk_frozen BK518.out 5
      go_wp2_with (first | ((with_reducible refine gate_callee (f := 32) rfl ?_); refine goesL_ (some 23) rfl rfl Try.func32 (by kernel_rfl) rfl #[.string a0_2] rfl (by (try simp only [List.map_toArray, List.map_cons, List.map_nil]); first | done | rfl | (simp only [List.length_drop, List.length_take]; rfl)) ?_; (with_reducible refine (tty_text.calls kj1 a0_2 false _ A10.out).mono ?_); rintro e w' ⟨rfl, ⟨nd, rfl⟩⟩; refine ⟨_, rfl, ?_⟩))
      go_ret
      exact ⟨by first | rfl | (simp [errW_none, errW_some] <;> rfl) | (simp [*, errW_none, errW_some] <;> rfl), by repeat (first | (with_reducible first | exact HB.out | apply below_alloc | apply pw_below_drewN | apply below_drew1 | refine below_set ?_ GE518.out) | exact HB.out)⟩

end Go.Proofs.Ytoecolllimgbgaa.Q
