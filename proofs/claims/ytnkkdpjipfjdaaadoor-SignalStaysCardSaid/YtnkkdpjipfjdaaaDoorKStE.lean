/- Own texts of one claim, put one behind the other by wip/tool/pack.py: words beside the print's, what each printed function computes, and the plain laws. -/
import Derived.Test.YtnkkdpjipfjdaaaDoorKStD
section

namespace Go.Proofs.YtnkkdpjipfjdaaaDoor.Q
open Go.RowKit Go.Proofs.YtnkkdpjipfjdaaaDoorW.PrintWords Go.Proofs.YtnkkdpjipfjdaaaDoorW.PrintLast Go.Proofs.YtnkkdpjipfjdaaaDoorW.PrintMore Go.Proofs.YtnkkdpjipfjdaaaDoorM
open Kd
attribute [local go_sem] max2_int min2_int max_two min_two max_three min_three max_four min_four
set_option linter.unusedVariables false
set_option linter.unusedSimpArgs false
def signal_Set.j0:Nat→Int→Bool→List Int→List Int→List Int→Int→Option (List Int × List Int × List Int × Int)
 |0,_,_,_,_,_,_=>none
 |k + 1,x2,x23,x445000,x445001,x445002,x446000=>if x23=true then (some (x445000,x445001,x445002,1)) else ((signal_copied.f x445000 x445001 x445002).bind fun bt449=>((signal_without_1_48.f bt449.2.1 x446000).bind fun t458=>((signal_without_1_48.f bt449.2.2 x446000).bind fun t461=>(if x2=1 then ((signal_with.f k t458 x446000).bind fun t464=>(if x446000=18 then (some (bt449.1,t464,t461,0)) else ((signal_without_1_48.f bt449.1 x446000).bind fun t467=>(some (t467,t464,t461,0))))) else (if x2=2 then ((signal_with.f k t461 x446000).bind fun t470=>(some (bt449.1,t458,t470,0))) else (some (bt449.1,t458,t461,0)))))))
def signal_Set.f (k:Nat) (l0_0:List Int) (l0_1:List Int) (l0_2:List Int) (a1:Int) (a2:Int):Option (List Int × List Int × List Int × Int):=(signal_Name.f a1).bind fun t447=>(if t447.toList=([]:List UInt8) then (signal_Set.j0 k a2 true l0_0 l0_1 l0_2 a1) else ((signal_fixed.f a1).bind fun t448=>(if t448=true then (signal_Set.j0 k a2 true l0_0 l0_1 l0_2 a1) else (if a2 < 0 then (signal_Set.j0 k a2 true l0_0 l0_1 l0_2 a1) else (signal_Set.j0 k a2 (decide (a2 > 2)) l0_0 l0_1 l0_2 a1)))))
theorem signal_Set.mono_l:∀ k,(∀ y0 y1 y2 y3 y4 y5,LeO (signal_Set.j0 k y0 y1 y2 y3 y4 y5) (signal_Set.j0 (k + 1) y0 y1 y2 y3 y4 y5))
 |0=>fun _ _ _ _ _ _ r h=>by simp [signal_Set.j0] at h
 |k + 1=>by
  have ih0:=signal_Set.mono_l k
  ·intro y0 y1 y2 y3 y4 y5
   unfold signal_Set.j0
   repeat' first
   |(with_reducible exact ih0 _ _ _ _ _ _)
   |(with_reducible exact signal_with.mono _ _ _)
   |(with_reducible exact LeO.refl _)
   |(with_reducible exact LeO.none _)
   |(with_reducible refine LeO.ite ?_ ?_)
   |(with_reducible refine LeO.bind ?_ (fun _=>?_))
   |exact ih0 _ _ _ _ _ _
   |exact signal_with.mono _ _ _
   |exact LeO.none _
   |refine LeO.ite ?_ ?_
   |refine LeO.bind ?_ (fun _=>?_)
theorem signal_Set.mono:∀ a0 a1 a2 a3 a4 k,LeO (signal_Set.f k a0 a1 a2 a3 a4) (signal_Set.f (k + 1) a0 a1 a2 a3 a4):=by
 intro a0 a1 a2 a3 a4 k
 have ih0:=signal_Set.mono_l k
 unfold signal_Set.f
 repeat' first
   |(with_reducible exact ih0 _ _ _ _ _ _)
   |(with_reducible exact signal_with.mono _ _ _)
   |(with_reducible exact LeO.refl _)
   |(with_reducible exact LeO.none _)
   |(with_reducible refine LeO.ite ?_ ?_)
   |(with_reducible refine LeO.bind ?_ (fun _=>?_))
   |exact ih0 _ _ _ _ _ _
   |exact signal_with.mono _ _ _
   |exact LeO.none _
   |refine LeO.ite ?_ ?_
   |refine LeO.bind ?_ (fun _=>?_)
def signal_Set.T5:Bool × List (List Nat × List Nat):=(true,[([],[]),([0],[0]),([],[]),([1,2],[1,2]),([],[]),([4],[4]),([],[]),([5,6,3],[5,6]),([0,1,2,3,4,5],[]),([8,3,7,0,1,2,3,4,5],[3,8]),([0,1,2,3,4,5,6,7,8,9],[]),([10,7,9,0,1,2,3,4,5,6,7,8,9],[7,10])])
def signal_Set.B5:List Nat:=[0,1,0,7,0,16,0,127,63,511,1023,2047]
theorem signal_Set.tab5:rtab .any (opsOf Tryd.f25 5)=signal_Set.T5:=by kernel_rfl
theorem signal_Set.bits5:waitsOk signal_Set.T5.2 signal_Set.B5=true:=by kernel_rfl
set_option maxHeartbeats 8000000 in
set_option maxRecDepth 10000000 in
theorem signal_Set.calls (k:Nat) (P0_0_:Nat→Prop) (A0_0:Option Addr) (c0_0:Nat) (l0_0:List Int) (P0_1_:Nat→Prop) (A0_1:Option Addr) (c0_1:Nat) (l0_1:List Int) (P0_2_:Nat→Prop) (A0_2:Option Addr) (c0_2:Nat) (l0_2:List Int) (a1:Int) (a2:Int) (r1:List Int) (r2:List Int) (r3:List Int) (r4:Int) (w:World) (hs0_0:Kd.V (Kd.int .i64) 3 w w.heap.size (fun k_=>P0_0_ k_) (.slice A0_0 l0_0.length c0_0) l0_0) (hs0_1:Kd.V (Kd.int .i64) 3 w w.heap.size (fun k_=>P0_1_ k_) (.slice A0_1 l0_1.length c0_1) l0_1) (hs0_2:Kd.V (Kd.int .i64) 3 w w.heap.size (fun k_=>P0_2_ k_) (.slice A0_2 l0_2.length c0_2) l0_2) (h:signal_Set.f k l0_0 l0_1 l0_2 a1 a2=some (r1,r2,r3,r4)) :
  Calls Tryd.prog 25 #[.agg #[.slice A0_0 l0_0.length c0_0,.slice A0_1 l0_1.length c0_1,.slice A0_2 l0_2.length c0_2],.int .i64 a1,.int .i64 a2] w fun e w'=>∃ v0_ v1_ v2_:Value,e=.returned (.tuple #[.agg #[v0_,v1_,v2_],.int .i64 r4])∧Kd.V (Kd.int .i64) 3 w' w.heap.size (fun k_=>((P0_0_ k_∨P0_1_ k_∨P0_2_ k_)∨w.heap.size≤k_)) v0_ r1∧Kd.V (Kd.int .i64) 3 w' w.heap.size (fun k_=>((P0_0_ k_∨P0_1_ k_∨P0_2_ k_)∨w.heap.size≤k_)) v1_ r2∧Kd.V (Kd.int .i64) 3 w' w.heap.size (fun k_=>((P0_0_ k_∨P0_1_ k_∨P0_2_ k_)∨w.heap.size≤k_)) v2_ r3∧Below w.heap.size w w':=by
 have hu30:=Tryd.underlying30
 have HO0_0:=Zk (show Kd.V (Kd.int .i64) 3 w w.heap.size (fun k_=>((P0_0_ k_∨P0_1_ k_∨P0_2_ k_)∨w.heap.size≤k_)) (.slice A0_0 l0_0.length c0_0) l0_0 from zO hs0_0 (fun k_ hk=>.inl (.inl hk)))
 have HO0_1:=Zk (show Kd.V (Kd.int .i64) 3 w w.heap.size (fun k_=>((P0_0_ k_∨P0_1_ k_∨P0_2_ k_)∨w.heap.size≤k_)) (.slice A0_1 l0_1.length c0_1) l0_1 from zO hs0_1 (fun k_ hk=>.inl (.inr (.inl hk))))
 have HO0_2:=Zk (show Kd.V (Kd.int .i64) 3 w w.heap.size (fun k_=>((P0_0_ k_∨P0_1_ k_∨P0_2_ k_)∨w.heap.size≤k_)) (.slice A0_2 l0_2.length c0_2) l0_2 from zO hs0_2 (fun k_ hk=>.inl (.inr (.inr hk))))
 have HB:=Zk (Below.refl w.heap.size w)
 have H:((signal_Name.f a1).bind fun t447=>(if t447.toList=([]:List UInt8) then (signal_Set.j0 k a2 true l0_0 l0_1 l0_2 a1) else ((signal_fixed.f a1).bind fun t448=>(if t448=true then (signal_Set.j0 k a2 true l0_0 l0_1 l0_2 a1) else (if a2 < 0 then (signal_Set.j0 k a2 true l0_0 l0_1 l0_2 a1) else (signal_Set.j0 k a2 (decide (a2 > 2)) l0_0 l0_1 l0_2 a1))))))=some (r1,r2,r3,r4):=h
 clear h
 have HC4:=Zk H
 clear H
 go_enter Tryd.func25,Tryd.ntmps25
 go_upto_region 1 with (first|((with_reducible refine yT (N:=3) rfl ?_);refine yV ?hg (N:=3) ?hd (cs:=#[.slice A0_0 l0_0.length c0_0,.slice A0_1 l0_1.length c0_1,.slice A0_2 l0_2.length c0_2]) (t:=30) ?hr ?_;(case hd=>rfl);(case hg=>rfl);(case hr=>first|(go_simp;done)|(go_simp;rfl));intro gb444 hg w5 hbox hb;have n0_:=Zk (zV (yC (by (with_reducible repeat (first|apply zL|apply zK|apply zM));exact HO0_0.out) gb444 (Nat.le_of_eq hg.symm)) hb);have n1_:=Zk (zV (yC (by (with_reducible repeat (first|apply zL|apply zK|apply zM));exact HO0_1.out) gb444 (Nat.le_of_eq hg.symm)) hb);have n2_:=Zk (zV (yC (by (with_reducible repeat (first|apply zL|apply zK|apply zM));exact HO0_2.out) gb444 (Nat.le_of_eq hg.symm)) hb);have n3_:=Zk (yA (by repeat (first|(with_reducible first|exact HB.out|apply zG|apply zD|apply zH)|exact HB.out)) hb);have n4_:=Zk (hbox);have n5_:=Zk ((by rw [hg];exact (zP (by repeat (first|(with_reducible first|exact HB.out|apply zG|apply zD|apply zH)|exact HB.out))):w.heap.size≤gb444));have n6_:=Zk ((by rw [hg];exact (zP (by repeat (first|(with_reducible first|exact HB.out|apply zG|apply zD|apply zH)|exact HB.out))):w.heap.size≤gb444));clear HO0_0;clear HO0_1;clear HO0_2;clear HB;have HO0_0:=n0_;have HO0_1:=n1_;have HO0_2:=n2_;have HB:=n3_;have BK444:=n4_;have GW444:=n5_;have GE444:=n6_;clear n0_ n1_ n2_ n3_ n4_ n5_ n6_;clear hb hbox hg)|((with_reducible refine yT (N:=4) rfl ?_);refine yV ?hg (N:=4) ?hd (cs:=#[.int .i64 a1]) (t:=3) ?hr ?_;(case hd=>rfl);(case hg=>rfl);(case hr=>first|(go_simp;done)|(go_simp;rfl));intro gb445 hg w6 hbox hb;have n0_:=Zk (zV (yC (by (with_reducible repeat (first|apply zL|apply zK|apply zM));exact HO0_0.out) gb445 (Nat.le_of_eq hg.symm)) hb);have n1_:=Zk (zV (yC (by (with_reducible repeat (first|apply zL|apply zK|apply zM));exact HO0_1.out) gb445 (Nat.le_of_eq hg.symm)) hb);have n2_:=Zk (zV (yC (by (with_reducible repeat (first|apply zL|apply zK|apply zM));exact HO0_2.out) gb445 (Nat.le_of_eq hg.symm)) hb);have n3_:=Zk (zW (g:=gb444) (o:=.cells #[.slice A0_0 l0_0.length c0_0,.slice A0_1 l0_1.length c0_1,.slice A0_2 l0_2.length c0_2] 30 (0,0)) (by (with_reducible repeat (first|refine zB ?_ _|refine zF ?_|refine zA ?_ _));exact BK444.out) hb);have n4_:=Zk (yA (by repeat (first|(with_reducible first|exact HB.out|apply zG|apply zD|apply zH|refine zC ?_ GE444.out)|exact HB.out)) hb);have n5_:=Zk (hbox);have n6_:=Zk ((by rw [hg];exact (zP (by repeat (first|(with_reducible first|exact HB.out|apply zG|apply zD|apply zH|refine zC ?_ GE444.out)|exact HB.out))):w.heap.size≤gb445));have n7_:=Zk ((by rw [hg];exact (zP (by repeat (first|(with_reducible first|exact HB.out|apply zG|apply zD|apply zH|refine zC ?_ GE444.out)|exact HB.out))):w.heap.size≤gb445));have n8_:=Zk ((by rw [hg];exact Nat.ne_of_lt (yN (g:=gb444) (o:=.cells #[.slice A0_0 l0_0.length c0_0,.slice A0_1 l0_1.length c0_1,.slice A0_2 l0_2.length c0_2] 30 (0,0)) (by (with_reducible repeat (first|refine zB ?_ _|refine zF ?_|refine zA ?_ _));exact BK444.out)):gb444≠gb445));have n9_:=Zk ((by rw [hg];exact Nat.ne_of_gt (yN (g:=gb444) (o:=.cells #[.slice A0_0 l0_0.length c0_0,.slice A0_1 l0_1.length c0_1,.slice A0_2 l0_2.length c0_2] 30 (0,0)) (by (with_reducible repeat (first|refine zB ?_ _|refine zF ?_|refine zA ?_ _));exact BK444.out)):gb445≠gb444));clear HO0_0;clear HO0_1;clear HO0_2;clear BK444;clear HB;have HO0_0:=n0_;have HO0_1:=n1_;have HO0_2:=n2_;have BK444:=n3_;have HB:=n4_;have BK445:=n5_;have GW445:=n6_;have GE445:=n7_;have NB444_445:=n8_;have NB445_444:=n9_;clear n0_ n1_ n2_ n3_ n4_ n5_ n6_ n7_ n8_ n9_;clear hb hbox hg)|((with_reducible refine yT (N:=6) rfl ?_);refine yV ?hg (N:=6) ?hd (cs:=#[.slice none 0 0,.slice none 0 0,.slice none 0 0]) (t:=30) ?hr ?_;(case hd=>rfl);(case hg=>rfl);(case hr=>first|(go_simp;done)|(go_simp;rfl));intro gb446 hg w7 hbox hb;have n0_:=Zk (zV (yC (by (with_reducible repeat (first|apply zL|apply zK|apply zM));exact HO0_0.out) gb446 (Nat.le_of_eq hg.symm)) hb);have n1_:=Zk (zV (yC (by (with_reducible repeat (first|apply zL|apply zK|apply zM));exact HO0_1.out) gb446 (Nat.le_of_eq hg.symm)) hb);have n2_:=Zk (zV (yC (by (with_reducible repeat (first|apply zL|apply zK|apply zM));exact HO0_2.out) gb446 (Nat.le_of_eq hg.symm)) hb);have n3_:=Zk (zW (g:=gb444) (o:=.cells #[.slice A0_0 l0_0.length c0_0,.slice A0_1 l0_1.length c0_1,.slice A0_2 l0_2.length c0_2] 30 (0,0)) (by (with_reducible repeat (first|refine zB ?_ _|refine zF ?_|refine zA ?_ _));exact BK444.out) hb);have n4_:=Zk (zW (g:=gb445) (o:=.cells #[.int .i64 a1] 3 (0,0)) (by (with_reducible repeat (first|refine zB ?_ _|refine zF ?_|refine zA ?_ _));exact BK445.out) hb);have n5_:=Zk (yA (by repeat (first|(with_reducible first|exact HB.out|apply zG|apply zD|apply zH|refine zC ?_ GE444.out|refine zC ?_ GE445.out)|exact HB.out)) hb);have n6_:=Zk (hbox);have n7_:=Zk ((by rw [hg];exact (zP (by repeat (first|(with_reducible first|exact HB.out|apply zG|apply zD|apply zH|refine zC ?_ GE444.out|refine zC ?_ GE445.out)|exact HB.out))):w.heap.size≤gb446));have n8_:=Zk ((by rw [hg];exact (zP (by repeat (first|(with_reducible first|exact HB.out|apply zG|apply zD|apply zH|refine zC ?_ GE444.out|refine zC ?_ GE445.out)|exact HB.out))):w.heap.size≤gb446));have n9_:=Zk ((by rw [hg];exact Nat.ne_of_lt (yN (g:=gb444) (o:=.cells #[.slice A0_0 l0_0.length c0_0,.slice A0_1 l0_1.length c0_1,.slice A0_2 l0_2.length c0_2] 30 (0,0)) (by (with_reducible repeat (first|refine zB ?_ _|refine zF ?_|refine zA ?_ _));exact BK444.out)):gb444≠gb446));have n10_:=Zk ((by rw [hg];exact Nat.ne_of_gt (yN (g:=gb444) (o:=.cells #[.slice A0_0 l0_0.length c0_0,.slice A0_1 l0_1.length c0_1,.slice A0_2 l0_2.length c0_2] 30 (0,0)) (by (with_reducible repeat (first|refine zB ?_ _|refine zF ?_|refine zA ?_ _));exact BK444.out)):gb446≠gb444));have n11_:=Zk ((by rw [hg];exact Nat.ne_of_lt (yN (g:=gb445) (o:=.cells #[.int .i64 a1] 3 (0,0)) (by (with_reducible repeat (first|refine zB ?_ _|refine zF ?_|refine zA ?_ _));exact BK445.out)):gb445≠gb446));have n12_:=Zk ((by rw [hg];exact Nat.ne_of_gt (yN (g:=gb445) (o:=.cells #[.int .i64 a1] 3 (0,0)) (by (with_reducible repeat (first|refine zB ?_ _|refine zF ?_|refine zA ?_ _));exact BK445.out)):gb446≠gb445));clear HO0_0;clear HO0_1;clear HO0_2;clear BK444;clear BK445;clear HB;have HO0_0:=n0_;have HO0_1:=n1_;have HO0_2:=n2_;have BK444:=n3_;have BK445:=n4_;have HB:=n5_;have BK446:=n6_;have GW446:=n7_;have GE446:=n8_;have NB444_446:=n9_;have NB446_444:=n10_;have NB445_446:=n11_;have NB446_445:=n12_;clear n0_ n1_ n2_ n3_ n4_ n5_ n6_ n7_ n8_ n9_ n10_ n11_ n12_;clear hb hbox hg))
 (try simp only [Act.put,List.setIfInBounds_toArray,List.set_cons_zero,List.set_cons_succ])
 go_cut [23] (fun v23 wc=>∃ (kq:Nat) (x23_3:Bool),v23=.bool x23_3∧zN (signal_Set.j0 kq a2 x23_3 l0_0 l0_1 l0_2 a1=some (r1,r2,r3,r4))∧zN (kq≤k)∧zN (Kd.V (Kd.int .i64) 3 wc w.heap.size (fun k_=>((P0_0_ k_∨P0_1_ k_∨P0_2_ k_)∨w.heap.size≤k_)∧k_≠gb444∧k_≠gb445∧k_≠gb446) (.slice A0_0 l0_0.length c0_0) l0_0)∧zN (Kd.V (Kd.int .i64) 3 wc w.heap.size (fun k_=>((P0_0_ k_∨P0_1_ k_∨P0_2_ k_)∨w.heap.size≤k_)∧k_≠gb444∧k_≠gb445∧k_≠gb446) (.slice A0_1 l0_1.length c0_1) l0_1)∧zN (Kd.V (Kd.int .i64) 3 wc w.heap.size (fun k_=>((P0_0_ k_∨P0_1_ k_∨P0_2_ k_)∨w.heap.size≤k_)∧k_≠gb444∧k_≠gb445∧k_≠gb446) (.slice A0_2 l0_2.length c0_2) l0_2)∧zN (wc.heap[gb444]?=some (.cells #[(.slice A0_0 l0_0.length c0_0),(.slice A0_1 l0_1.length c0_1),(.slice A0_2 l0_2.length c0_2)] 30 (0,0)))∧zN (wc.heap[gb445]?=some (.cells #[.int .i64 a1] 3 (0,0)))∧zN (wc.heap[gb446]?=some (.cells #[(.slice none 0 0),(.slice none 0 0),(.slice none 0 0)] 30 (0,0)))∧zN (Below w.heap.size w wc))
 case first=>
  have H:=HC4.out
  clear HC4
  replace H:=Option.bind_eq_some_iff.mp H
  obtain ⟨t447,A80,H⟩:=H
  replace H:(if t447.toList=([]:List UInt8) then (signal_Set.j0 k a2 true l0_0 l0_1 l0_2 a1) else ((signal_fixed.f a1).bind fun t448=>(if t448=true then (signal_Set.j0 k a2 true l0_0 l0_1 l0_2 a1) else (if a2 < 0 then (signal_Set.j0 k a2 true l0_0 l0_1 l0_2 a1) else (signal_Set.j0 k a2 (decide (a2 > 2)) l0_0 l0_1 l0_2 a1)))))=some (r1,r2,r3,r4):=H
  have A8:=Zk A80
  clear A80
  by_cases c9:t447.toList=([]:List UInt8)
  ·rw [if_pos c9] at H
   have c9b0:(t447.toList == ([]:List UInt8))=true:=beq_iff_eq.mpr c9
   have c9b1:(t447.toList != ([]:List UInt8))=false:=bne_eq_false_iff_eq.mpr c9
   clear c9
   (first|rw [c9b0]|(simp only [yX,i32_w];rw [c9b0])|skip)
   have H':=Zk H
   clear H
   have hnb10:=NB445_444.out
   have hnc10:=NB444_445.out
   have hnb11:=NB445_446.out
   have hnc11:=NB446_445.out
   have hcz12_0:w7.cell? ⟨gb445,0,none⟩=some (.int .i64 a1):=(zJ BK445.out 0).trans rfl
   have hfz12_0:=zI BK445.out 0
   go_wp2_with (first|((with_reducible refine yD (f:=13) rfl ?_);refine yM (some 10) rfl rfl Tryd.func13 (by kernel_rfl) rfl #[.int .i64 a1] rfl (by (try simp only [List.map_toArray,List.map_cons,List.map_nil]);first|done|rfl|(simp only [List.length_drop,List.length_take];rfl)) ?_;(with_reducible refine (signal_Name.calls a1 t447 _ A8.out).mono ?_);rintro e w13 ⟨rfl,hb⟩;refine ⟨_,rfl,?_⟩;have n0_:=Zk (zV (by (with_reducible repeat (first|apply zL|apply zK|apply zM));exact HO0_0.out) hb);have n1_:=Zk (zV (by (with_reducible repeat (first|apply zL|apply zK|apply zM));exact HO0_1.out) hb);have n2_:=Zk (zV (by (with_reducible repeat (first|apply zL|apply zK|apply zM));exact HO0_2.out) hb);have n3_:=Zk (zW (g:=gb444) (o:=.cells #[.slice A0_0 l0_0.length c0_0,.slice A0_1 l0_1.length c0_1,.slice A0_2 l0_2.length c0_2] 30 (0,0)) (by (with_reducible repeat (first|refine zB ?_ _|refine zF ?_|refine zA ?_ _));exact BK444.out) hb);have n4_:=Zk (zW (g:=gb445) (o:=.cells #[.int .i64 a1] 3 (0,0)) (by (with_reducible repeat (first|refine zB ?_ _|refine zF ?_|refine zA ?_ _));exact BK445.out) hb);have n5_:=Zk (zW (g:=gb446) (o:=.cells #[.slice none 0 0,.slice none 0 0,.slice none 0 0] 30 (0,0)) (by (with_reducible repeat (first|refine zB ?_ _|refine zF ?_|refine zA ?_ _));exact BK446.out) hb);have n6_:=Zk (yA (by repeat (first|(with_reducible first|exact HB.out|apply zG|apply zD|apply zH|refine zC ?_ GE444.out|refine zC ?_ GE445.out|refine zC ?_ GE446.out)|exact HB.out)) hb);clear HO0_0;clear HO0_1;clear HO0_2;clear BK444;clear BK445;clear BK446;clear HB;have HO0_0:=n0_;have HO0_1:=n1_;have HO0_2:=n2_;have BK444:=n3_;have BK445:=n4_;have BK446:=n5_;have HB:=n6_;clear n0_ n1_ n2_ n3_ n4_ n5_ n6_;(try clear hb);(try clear hb2);(try clear hk);(try clear hi)))
   go_meet
   case rel=>exact ⟨_,(true),(by first|rfl|(simp;done)|(simp [*];done)|(generalize ByteArray.toList _=l_;cases l_ <;> rfl)),H',⟨by first|omega|exact Nat.le_refl _⟩,⟨by (with_reducible repeat (first|apply zL|apply zK|apply zM));exact zO HO0_0.out (fun _ hk=>⟨hk.1.1.1,⟨hk.1.1.2,⟨hk.1.2,hk.2⟩⟩⟩)⟩,⟨by (with_reducible repeat (first|apply zL|apply zK|apply zM));exact zO HO0_1.out (fun _ hk=>⟨hk.1.1.1,⟨hk.1.1.2,⟨hk.1.2,hk.2⟩⟩⟩)⟩,⟨by (with_reducible repeat (first|apply zL|apply zK|apply zM));exact zO HO0_2.out (fun _ hk=>⟨hk.1.1.1,⟨hk.1.1.2,⟨hk.1.2,hk.2⟩⟩⟩)⟩,⟨by (with_reducible repeat (first|refine zB ?_ _|refine zF ?_|refine zA ?_ _));exact BK444.out⟩,⟨by (with_reducible repeat (first|refine zB ?_ _|refine zF ?_|refine zA ?_ _));exact BK445.out⟩,⟨by (with_reducible repeat (first|refine zB ?_ _|refine zF ?_|refine zA ?_ _));exact BK446.out⟩,⟨by repeat (first|(with_reducible first|exact HB.out|apply zG|apply zD|apply zH|refine zC ?_ GE444.out|refine zC ?_ GE445.out|refine zC ?_ GE446.out)|exact HB.out)⟩⟩
  ·rw [if_neg c9] at H
   have c9b0:(t447.toList == ([]:List UInt8))=false:=beq_eq_false_iff_ne.mpr c9
   have c9b1:(t447.toList != ([]:List UInt8))=true:=bne_iff_ne.mpr c9
   (first|rw [c9b0]|(simp only [yX,i32_w];rw [c9b0])|skip)
   replace H:=Option.bind_eq_some_iff.mp H
   obtain ⟨t448,A140,H⟩:=H
   replace H:(if t448=true then (signal_Set.j0 k a2 true l0_0 l0_1 l0_2 a1) else (if a2 < 0 then (signal_Set.j0 k a2 true l0_0 l0_1 l0_2 a1) else (signal_Set.j0 k a2 (decide (a2 > 2)) l0_0 l0_1 l0_2 a1)))=some (r1,r2,r3,r4):=H
   have A14:=Zk A140
   clear A140
   by_cases c15:t448=true
   ·subst c15
    have H1:(signal_Set.j0 k a2 true l0_0 l0_1 l0_2 a1)=some (r1,r2,r3,r4):=by rw [if_pos rfl] at H;exact H
    clear H
    have H:=H1
    clear H1
    have H':=Zk H
    clear H
    have hnb16:=NB445_444.out
    have hnc16:=NB444_445.out
    have hnb17:=NB445_446.out
    have hnc17:=NB446_445.out
    have hcz18_0:w7.cell? ⟨gb445,0,none⟩=some (.int .i64 a1):=(zJ BK445.out 0).trans rfl
    have hfz18_0:=zI BK445.out 0
    go_wp2_with (first|((with_reducible refine yD (f:=13) rfl ?_);refine yM (some 10) rfl rfl Tryd.func13 (by kernel_rfl) rfl #[.int .i64 a1] rfl (by (try simp only [List.map_toArray,List.map_cons,List.map_nil]);first|done|rfl|(simp only [List.length_drop,List.length_take];rfl)) ?_;(with_reducible refine (signal_Name.calls a1 t447 _ A8.out).mono ?_);rintro e w19 ⟨rfl,hb⟩;refine ⟨_,rfl,?_⟩;have n0_:=Zk (zV (by (with_reducible repeat (first|apply zL|apply zK|apply zM));exact HO0_0.out) hb);have n1_:=Zk (zV (by (with_reducible repeat (first|apply zL|apply zK|apply zM));exact HO0_1.out) hb);have n2_:=Zk (zV (by (with_reducible repeat (first|apply zL|apply zK|apply zM));exact HO0_2.out) hb);have n3_:=Zk (zW (g:=gb444) (o:=.cells #[.slice A0_0 l0_0.length c0_0,.slice A0_1 l0_1.length c0_1,.slice A0_2 l0_2.length c0_2] 30 (0,0)) (by (with_reducible repeat (first|refine zB ?_ _|refine zF ?_|refine zA ?_ _));exact BK444.out) hb);have n4_:=Zk (zW (g:=gb445) (o:=.cells #[.int .i64 a1] 3 (0,0)) (by (with_reducible repeat (first|refine zB ?_ _|refine zF ?_|refine zA ?_ _));exact BK445.out) hb);have n5_:=Zk (zW (g:=gb446) (o:=.cells #[.slice none 0 0,.slice none 0 0,.slice none 0 0] 30 (0,0)) (by (with_reducible repeat (first|refine zB ?_ _|refine zF ?_|refine zA ?_ _));exact BK446.out) hb);have n6_:=Zk (yA (by repeat (first|(with_reducible first|exact HB.out|apply zG|apply zD|apply zH|refine zC ?_ GE444.out|refine zC ?_ GE445.out|refine zC ?_ GE446.out)|exact HB.out)) hb);clear HO0_0;clear HO0_1;clear HO0_2;clear BK444;clear BK445;clear BK446;clear HB;have HO0_0:=n0_;have HO0_1:=n1_;have HO0_2:=n2_;have BK444:=n3_;have BK445:=n4_;have BK446:=n5_;have HB:=n6_;clear n0_ n1_ n2_ n3_ n4_ n5_ n6_;(try clear hb);(try clear hb2);(try clear hk);(try clear hi);have hcz20_0:w19.cell? ⟨gb445,0,none⟩=some (.int .i64 a1):=(zJ BK445.out 0).trans rfl;have hfz20_0:=zI BK445.out 0)|(go_at_call 47;(with_reducible refine (signal_fixed.calls a1 true _ A14.out).mono ?_);rintro e w' ⟨rfl,⟨nd,rfl⟩⟩))
    go_meet
    case rel=>exact ⟨_,(true),(by first|rfl|(simp;done)|(simp [*];done)|(generalize ByteArray.toList _=l_;cases l_ <;> rfl)),H',⟨by first|omega|exact Nat.le_refl _⟩,⟨by (with_reducible repeat (first|apply zL|apply zK|apply zM));exact zO HO0_0.out (fun _ hk=>⟨hk.1.1.1,⟨hk.1.1.2,⟨hk.1.2,hk.2⟩⟩⟩)⟩,⟨by (with_reducible repeat (first|apply zL|apply zK|apply zM));exact zO HO0_1.out (fun _ hk=>⟨hk.1.1.1,⟨hk.1.1.2,⟨hk.1.2,hk.2⟩⟩⟩)⟩,⟨by (with_reducible repeat (first|apply zL|apply zK|apply zM));exact zO HO0_2.out (fun _ hk=>⟨hk.1.1.1,⟨hk.1.1.2,⟨hk.1.2,hk.2⟩⟩⟩)⟩,⟨by (with_reducible repeat (first|refine zB ?_ _|refine zF ?_|refine zA ?_ _));exact BK444.out⟩,⟨by (with_reducible repeat (first|refine zB ?_ _|refine zF ?_|refine zA ?_ _));exact BK445.out⟩,⟨by (with_reducible repeat (first|refine zB ?_ _|refine zF ?_|refine zA ?_ _));exact BK446.out⟩,⟨by repeat (first|(with_reducible first|exact HB.out|apply zG|apply zD|apply zH|refine zC ?_ GE444.out|refine zC ?_ GE445.out|refine zC ?_ GE446.out)|exact HB.out)⟩⟩
   ·replace c15:=Bool.eq_false_iff.mpr c15
    subst c15
    have H1:(if a2 < 0 then (signal_Set.j0 k a2 true l0_0 l0_1 l0_2 a1) else (signal_Set.j0 k a2 (decide (a2 > 2)) l0_0 l0_1 l0_2 a1))=some (r1,r2,r3,r4):=by rw [if_neg (show ¬ (false=true) by decide)] at H;exact H
    clear H
    have H:=H1
    clear H1
    by_cases c21:a2 < 0
    ·rw [if_pos c21] at H
     have c21b0:decide (a2 < 0)=true:=decide_eq_true c21
     clear c21
     have H':=Zk H
     clear H
     have hnb22:=NB445_444.out
     have hnc22:=NB444_445.out
     have hnb23:=NB445_446.out
     have hnc23:=NB446_445.out
     have hcz24_0:w7.cell? ⟨gb445,0,none⟩=some (.int .i64 a1):=(zJ BK445.out 0).trans rfl
     have hfz24_0:=zI BK445.out 0
     go_wp2_with (first|((with_reducible refine yD (f:=13) rfl ?_);refine yM (some 10) rfl rfl Tryd.func13 (by kernel_rfl) rfl #[.int .i64 a1] rfl (by (try simp only [List.map_toArray,List.map_cons,List.map_nil]);first|done|rfl|(simp only [List.length_drop,List.length_take];rfl)) ?_;(with_reducible refine (signal_Name.calls a1 t447 _ A8.out).mono ?_);rintro e w25 ⟨rfl,hb⟩;refine ⟨_,rfl,?_⟩;have n0_:=Zk (zV (by (with_reducible repeat (first|apply zL|apply zK|apply zM));exact HO0_0.out) hb);have n1_:=Zk (zV (by (with_reducible repeat (first|apply zL|apply zK|apply zM));exact HO0_1.out) hb);have n2_:=Zk (zV (by (with_reducible repeat (first|apply zL|apply zK|apply zM));exact HO0_2.out) hb);have n3_:=Zk (zW (g:=gb444) (o:=.cells #[.slice A0_0 l0_0.length c0_0,.slice A0_1 l0_1.length c0_1,.slice A0_2 l0_2.length c0_2] 30 (0,0)) (by (with_reducible repeat (first|refine zB ?_ _|refine zF ?_|refine zA ?_ _));exact BK444.out) hb);have n4_:=Zk (zW (g:=gb445) (o:=.cells #[.int .i64 a1] 3 (0,0)) (by (with_reducible repeat (first|refine zB ?_ _|refine zF ?_|refine zA ?_ _));exact BK445.out) hb);have n5_:=Zk (zW (g:=gb446) (o:=.cells #[.slice none 0 0,.slice none 0 0,.slice none 0 0] 30 (0,0)) (by (with_reducible repeat (first|refine zB ?_ _|refine zF ?_|refine zA ?_ _));exact BK446.out) hb);have n6_:=Zk (yA (by repeat (first|(with_reducible first|exact HB.out|apply zG|apply zD|apply zH|refine zC ?_ GE444.out|refine zC ?_ GE445.out|refine zC ?_ GE446.out)|exact HB.out)) hb);clear HO0_0;clear HO0_1;clear HO0_2;clear BK444;clear BK445;clear BK446;clear HB;have HO0_0:=n0_;have HO0_1:=n1_;have HO0_2:=n2_;have BK444:=n3_;have BK445:=n4_;have BK446:=n5_;have HB:=n6_;clear n0_ n1_ n2_ n3_ n4_ n5_ n6_;(try clear hb);(try clear hb2);(try clear hk);(try clear hi);have hcz26_0:w25.cell? ⟨gb445,0,none⟩=some (.int .i64 a1):=(zJ BK445.out 0).trans rfl;have hfz26_0:=zI BK445.out 0)|(go_at_call 47;(with_reducible refine (signal_fixed.calls a1 false _ A14.out).mono ?_);rintro e w' ⟨rfl,⟨nd,rfl⟩⟩))
     go_meet
     case rel=>exact ⟨_,(true),(by first|rfl|(simp;done)|(simp [*];done)|(generalize ByteArray.toList _=l_;cases l_ <;> rfl)),H',⟨by first|omega|exact Nat.le_refl _⟩,⟨by (with_reducible repeat (first|apply zL|apply zK|apply zM));exact zO HO0_0.out (fun _ hk=>⟨hk.1.1.1,⟨hk.1.1.2,⟨hk.1.2,hk.2⟩⟩⟩)⟩,⟨by (with_reducible repeat (first|apply zL|apply zK|apply zM));exact zO HO0_1.out (fun _ hk=>⟨hk.1.1.1,⟨hk.1.1.2,⟨hk.1.2,hk.2⟩⟩⟩)⟩,⟨by (with_reducible repeat (first|apply zL|apply zK|apply zM));exact zO HO0_2.out (fun _ hk=>⟨hk.1.1.1,⟨hk.1.1.2,⟨hk.1.2,hk.2⟩⟩⟩)⟩,⟨by (with_reducible repeat (first|refine zB ?_ _|refine zF ?_|refine zA ?_ _));exact BK444.out⟩,⟨by (with_reducible repeat (first|refine zB ?_ _|refine zF ?_|refine zA ?_ _));exact BK445.out⟩,⟨by (with_reducible repeat (first|refine zB ?_ _|refine zF ?_|refine zA ?_ _));exact BK446.out⟩,⟨by repeat (first|(with_reducible first|exact HB.out|apply zG|apply zD|apply zH|refine zC ?_ GE444.out|refine zC ?_ GE445.out|refine zC ?_ GE446.out)|exact HB.out)⟩⟩
    ·rw [if_neg c21] at H
     have c21b0:decide (a2 < 0)=false:=decide_eq_false c21
     clear c21
     have H':=Zk H
     clear H
     have hnb27:=NB445_444.out
     have hnc27:=NB444_445.out
     have hnb28:=NB445_446.out
     have hnc28:=NB446_445.out
     have hcz29_0:w7.cell? ⟨gb445,0,none⟩=some (.int .i64 a1):=(zJ BK445.out 0).trans rfl
     have hfz29_0:=zI BK445.out 0
     go_wp2_with (first|((with_reducible refine yD (f:=13) rfl ?_);refine yM (some 10) rfl rfl Tryd.func13 (by kernel_rfl) rfl #[.int .i64 a1] rfl (by (try simp only [List.map_toArray,List.map_cons,List.map_nil]);first|done|rfl|(simp only [List.length_drop,List.length_take];rfl)) ?_;(with_reducible refine (signal_Name.calls a1 t447 _ A8.out).mono ?_);rintro e w30 ⟨rfl,hb⟩;refine ⟨_,rfl,?_⟩;have n0_:=Zk (zV (by (with_reducible repeat (first|apply zL|apply zK|apply zM));exact HO0_0.out) hb);have n1_:=Zk (zV (by (with_reducible repeat (first|apply zL|apply zK|apply zM));exact HO0_1.out) hb);have n2_:=Zk (zV (by (with_reducible repeat (first|apply zL|apply zK|apply zM));exact HO0_2.out) hb);have n3_:=Zk (zW (g:=gb444) (o:=.cells #[.slice A0_0 l0_0.length c0_0,.slice A0_1 l0_1.length c0_1,.slice A0_2 l0_2.length c0_2] 30 (0,0)) (by (with_reducible repeat (first|refine zB ?_ _|refine zF ?_|refine zA ?_ _));exact BK444.out) hb);have n4_:=Zk (zW (g:=gb445) (o:=.cells #[.int .i64 a1] 3 (0,0)) (by (with_reducible repeat (first|refine zB ?_ _|refine zF ?_|refine zA ?_ _));exact BK445.out) hb);have n5_:=Zk (zW (g:=gb446) (o:=.cells #[.slice none 0 0,.slice none 0 0,.slice none 0 0] 30 (0,0)) (by (with_reducible repeat (first|refine zB ?_ _|refine zF ?_|refine zA ?_ _));exact BK446.out) hb);have n6_:=Zk (yA (by repeat (first|(with_reducible first|exact HB.out|apply zG|apply zD|apply zH|refine zC ?_ GE444.out|refine zC ?_ GE445.out|refine zC ?_ GE446.out)|exact HB.out)) hb);clear HO0_0;clear HO0_1;clear HO0_2;clear BK444;clear BK445;clear BK446;clear HB;have HO0_0:=n0_;have HO0_1:=n1_;have HO0_2:=n2_;have BK444:=n3_;have BK445:=n4_;have BK446:=n5_;have HB:=n6_;clear n0_ n1_ n2_ n3_ n4_ n5_ n6_;(try clear hb);(try clear hb2);(try clear hk);(try clear hi);have hcz31_0:w30.cell? ⟨gb445,0,none⟩=some (.int .i64 a1):=(zJ BK445.out 0).trans rfl;have hfz31_0:=zI BK445.out 0)|(go_at_call 47;(with_reducible refine (signal_fixed.calls a1 false _ A14.out).mono ?_);rintro e w' ⟨rfl,⟨nd,rfl⟩⟩))
     go_meet
     case rel=>exact ⟨_,(decide (a2 > 2)),(by first|rfl|(simp;done)|(simp [*];done)|(generalize ByteArray.toList _=l_;cases l_ <;> rfl)),H',⟨by first|omega|exact Nat.le_refl _⟩,⟨by (with_reducible repeat (first|apply zL|apply zK|apply zM));exact zO HO0_0.out (fun _ hk=>⟨hk.1.1.1,⟨hk.1.1.2,⟨hk.1.2,hk.2⟩⟩⟩)⟩,⟨by (with_reducible repeat (first|apply zL|apply zK|apply zM));exact zO HO0_1.out (fun _ hk=>⟨hk.1.1.1,⟨hk.1.1.2,⟨hk.1.2,hk.2⟩⟩⟩)⟩,⟨by (with_reducible repeat (first|apply zL|apply zK|apply zM));exact zO HO0_2.out (fun _ hk=>⟨hk.1.1.1,⟨hk.1.1.2,⟨hk.1.2,hk.2⟩⟩⟩)⟩,⟨by (with_reducible repeat (first|refine zB ?_ _|refine zF ?_|refine zA ?_ _));exact BK444.out⟩,⟨by (with_reducible repeat (first|refine zB ?_ _|refine zF ?_|refine zA ?_ _));exact BK445.out⟩,⟨by (with_reducible repeat (first|refine zB ?_ _|refine zF ?_|refine zA ?_ _));exact BK446.out⟩,⟨by repeat (first|(with_reducible first|exact HB.out|apply zG|apply zD|apply zH|refine zC ?_ GE444.out|refine zC ?_ GE445.out|refine zC ?_ GE446.out)|exact HB.out)⟩⟩
 case rest=>
  clear HC4
  try clear c1
  try clear c2
  try clear p2
  try clear c9
  try clear c9b0
  try clear c9b1
  try clear c10
  try clear c11
  try clear c13
  try clear c15
  try clear c16
  try clear c17
  try clear c21
  try clear c21b0
  try clear c22
  try clear c23
  try clear c25
  try clear c27
  try clear c28
  try clear hcz12_0
  try clear hcz18_0
  try clear hcz20_0
  try clear hcz24_0
  try clear hcz26_0
  try clear hcz29_0
  try clear hcz31_0
  try clear hfz12_0
  try clear hfz18_0
  try clear hfz20_0
  try clear hfz24_0
  try clear hfz26_0
  try clear hfz29_0
  try clear hfz31_0
  obtain ⟨kq,x23_3,rfl,HA,HJ3,HO_445000,HO_445001,HO_445002,BK444,BK445,BK446,HB⟩:=hcut
  cases kq with
  |zero=>exact absurd HA.out (by simp [signal_Set.j0])
  |succ kj3=>
   have H:=HA.out
   clear HA
   simp only [signal_Set.j0] at H
   by_cases c32:x23_3=true
   ·subst c32
    have H1:(some (l0_0,l0_1,l0_2,1))=some (r1,r2,r3,r4):=by rw [if_pos rfl] at H;exact H
    clear H
    have H:=H1
    clear H1
    simp only [Option.some.injEq,Prod.mk.injEq] at H
    obtain ⟨rfl,rfl,rfl,rfl⟩:=H
    have hnb33:=NB444_445.out
    have hnc33:=NB445_444.out
    have hnb34:=NB444_446.out
    have hnc34:=NB446_444.out
    have hcz35_0:wc.cell? ⟨gb444,0,none⟩=some (.slice A0_0 l0_0.length c0_0):=(zJ BK444.out 0).trans rfl
    have hcz35_1:wc.cell? ⟨gb444,1,none⟩=some (.slice A0_1 l0_1.length c0_1):=(zJ BK444.out 1).trans rfl
    have hcz35_2:wc.cell? ⟨gb444,2,none⟩=some (.slice A0_2 l0_2.length c0_2):=(zJ BK444.out 2).trans rfl
    have hfz35_0:=zI BK444.out 0
    have hfz35_1:=zI BK444.out 1
    have hfz35_2:=zI BK444.out 2
    have hnb36:=NB446_445.out
    have hnc36:=NB445_446.out
    have hcz37_0:wc.cell? ⟨gb446,0,none⟩=some (.slice none 0 0):=(zJ BK446.out 0).trans rfl
    have hcz37_1:wc.cell? ⟨gb446,1,none⟩=some (.slice none 0 0):=(zJ BK446.out 1).trans rfl
    have hcz37_2:wc.cell? ⟨gb446,2,none⟩=some (.slice none 0 0):=(zJ BK446.out 2).trans rfl
    have hfz37_0:=zI BK446.out 0
    have hfz37_1:=zI BK446.out 1
    have hfz37_2:=zI BK446.out 2
    go_wp2_with (first|((with_reducible refine xA (t:=30) (p:=6) rfl ?_);refine yY (t:=30) (p:=6) (v:=?vo_w38) (w1:=(((wc.setCell ⟨gb446,0,none⟩ (.slice A0_0 l0_0.length c0_0)).setCell ⟨gb446,1,none⟩ (.slice A0_1 l0_1.length c0_1)).setCell ⟨gb446,2,none⟩ (.slice A0_2 l0_2.length c0_2))) ?hg ?ho ?hn ?hr ?_;(case ho=>rfl);(case hg=>rfl);(case hn=>rfl);(case hr=>first|(go_simp;done)|(go_simp;rfl));intro w38 hw;have n0_:zN (Kd.V (Kd.int .i64) 3 w38 w.heap.size (fun k_=>((P0_0_ k_∨P0_1_ k_∨P0_2_ k_)∨w.heap.size≤k_)∧k_≠gb444∧k_≠gb445∧k_≠gb446) (.slice A0_0 l0_0.length c0_0) l0_0):=⟨(by rw [hw];exact (by (with_reducible repeat (first|apply zL|apply zK|apply zM));exact zO (zS (p:=⟨gb446,2,none⟩) (zS (p:=⟨gb446,1,none⟩) (zS (p:=⟨gb446,0,none⟩) (zO HO_445000.out (fun k_ hk=>(⟨hk,hk.2.2.2⟩:_∧k_≠gb446))) (fun _ hk=>hk.2) (.slice A0_0 l0_0.length c0_0)) (fun _ hk=>hk.2) (.slice A0_1 l0_1.length c0_1)) (fun _ hk=>hk.2) (.slice A0_2 l0_2.length c0_2)) (fun _ hk=>⟨hk.1.1,⟨hk.1.2.1,⟨hk.1.2.2.1,hk.1.2.2.2⟩⟩⟩)))⟩;have n1_:zN (Kd.V (Kd.int .i64) 3 w38 w.heap.size (fun k_=>((P0_0_ k_∨P0_1_ k_∨P0_2_ k_)∨w.heap.size≤k_)∧k_≠gb444∧k_≠gb445∧k_≠gb446) (.slice A0_1 l0_1.length c0_1) l0_1):=⟨(by rw [hw];exact (by (with_reducible repeat (first|apply zL|apply zK|apply zM));exact zO (zS (p:=⟨gb446,2,none⟩) (zS (p:=⟨gb446,1,none⟩) (zS (p:=⟨gb446,0,none⟩) (zO HO_445001.out (fun k_ hk=>(⟨hk,hk.2.2.2⟩:_∧k_≠gb446))) (fun _ hk=>hk.2) (.slice A0_0 l0_0.length c0_0)) (fun _ hk=>hk.2) (.slice A0_1 l0_1.length c0_1)) (fun _ hk=>hk.2) (.slice A0_2 l0_2.length c0_2)) (fun _ hk=>⟨hk.1.1,⟨hk.1.2.1,⟨hk.1.2.2.1,hk.1.2.2.2⟩⟩⟩)))⟩;have n2_:zN (Kd.V (Kd.int .i64) 3 w38 w.heap.size (fun k_=>((P0_0_ k_∨P0_1_ k_∨P0_2_ k_)∨w.heap.size≤k_)∧k_≠gb444∧k_≠gb445∧k_≠gb446) (.slice A0_2 l0_2.length c0_2) l0_2):=⟨(by rw [hw];exact (by (with_reducible repeat (first|apply zL|apply zK|apply zM));exact zO (zS (p:=⟨gb446,2,none⟩) (zS (p:=⟨gb446,1,none⟩) (zS (p:=⟨gb446,0,none⟩) (zO HO_445002.out (fun k_ hk=>(⟨hk,hk.2.2.2⟩:_∧k_≠gb446))) (fun _ hk=>hk.2) (.slice A0_0 l0_0.length c0_0)) (fun _ hk=>hk.2) (.slice A0_1 l0_1.length c0_1)) (fun _ hk=>hk.2) (.slice A0_2 l0_2.length c0_2)) (fun _ hk=>⟨hk.1.1,⟨hk.1.2.1,⟨hk.1.2.2.1,hk.1.2.2.2⟩⟩⟩)))⟩;have n3_:zN (w38.heap[gb444]?=some (.cells #[.slice A0_0 l0_0.length c0_0,.slice A0_1 l0_1.length c0_1,.slice A0_2 l0_2.length c0_2] 30 (0,0))):=⟨(by rw [hw];exact (by (with_reducible repeat (first|refine zB ?_ _|refine zF ?_|refine zA ?_ _));refine zY ?_ NB444_446.out _;(with_reducible repeat (first|refine zB ?_ _|refine zF ?_|refine zA ?_ _));refine zY ?_ NB444_446.out _;(with_reducible repeat (first|refine zB ?_ _|refine zF ?_|refine zA ?_ _));refine zY ?_ NB444_446.out _;(with_reducible repeat (first|refine zB ?_ _|refine zF ?_|refine zA ?_ _));exact BK444.out))⟩;have n4_:zN (w38.heap[gb445]?=some (.cells #[.int .i64 a1] 3 (0,0))):=⟨(by rw [hw];exact (by (with_reducible repeat (first|refine zB ?_ _|refine zF ?_|refine zA ?_ _));refine zY ?_ NB445_446.out _;(with_reducible repeat (first|refine zB ?_ _|refine zF ?_|refine zA ?_ _));refine zY ?_ NB445_446.out _;(with_reducible repeat (first|refine zB ?_ _|refine zF ?_|refine zA ?_ _));refine zY ?_ NB445_446.out _;(with_reducible repeat (first|refine zB ?_ _|refine zF ?_|refine zA ?_ _));exact BK445.out))⟩;have n5_:zN (w38.heap[gb446]?=some (.cells #[.slice A0_0 l0_0.length c0_0,.slice A0_1 l0_1.length c0_1,.slice A0_2 l0_2.length c0_2] 30 (0,0))):=⟨(by rw [hw];exact (by (with_reducible repeat (first|refine zB ?_ _|refine zF ?_|refine zA ?_ _));refine yE (cs:=#[.slice A0_0 l0_0.length c0_0,.slice A0_1 l0_1.length c0_1,.slice none 0 0]) ?_ 2 _ rfl;(with_reducible repeat (first|refine zB ?_ _|refine zF ?_|refine zA ?_ _));refine yE (cs:=#[.slice A0_0 l0_0.length c0_0,.slice none 0 0,.slice none 0 0]) ?_ 1 _ rfl;(with_reducible repeat (first|refine zB ?_ _|refine zF ?_|refine zA ?_ _));refine yE (cs:=#[.slice none 0 0,.slice none 0 0,.slice none 0 0]) ?_ 0 _ rfl;(with_reducible repeat (first|refine zB ?_ _|refine zF ?_|refine zA ?_ _));exact BK446.out))⟩;have n6_:zN (Below w.heap.size w w38):=⟨(by rw [hw];exact (by repeat (first|(with_reducible first|exact HB.out|apply zG|apply zD|apply zH|refine zC ?_ GE444.out|refine zC ?_ GE445.out|refine zC ?_ GE446.out)|exact HB.out)))⟩;clear hw;clear HO_445000;clear HO_445001;clear HO_445002;clear BK444;clear BK445;clear BK446;clear HB;have HO_445000:=n0_;have HO_445001:=n1_;have HO_445002:=n2_;have BK444:=n3_;have BK445:=n4_;have BK446:=n5_;have HB:=n6_;clear n0_ n1_ n2_ n3_ n4_ n5_ n6_))
    refine bodyPost_ret (results_ct rfl _ _ gb446 30 #[.slice A0_0 l0_0.length c0_0,.slice A0_1 l0_1.length c0_1,.slice A0_2 l0_2.length c0_2] (0,0) _ rfl (by (with_reducible repeat (first|refine zB ?_ _|refine zF ?_|refine zA ?_ _));exact BK446.out) Tryd.underlying30 rfl (by kernel_rfl)) rfl ?_
    exact ⟨_,_,_,by first|rfl|(simp [errW_none,errW_some] <;> rfl)|(simp [*,errW_none,errW_some] <;> rfl),by (with_reducible repeat (first|apply zL|apply zK|apply zM));exact zO HO_445000.out (fun _ hk=>hk.1),by (with_reducible repeat (first|apply zL|apply zK|apply zM));exact zO HO_445001.out (fun _ hk=>hk.1),by (with_reducible repeat (first|apply zL|apply zK|apply zM));exact zO HO_445002.out (fun _ hk=>hk.1),by repeat (first|(with_reducible first|exact HB.out|apply zG|apply zD|apply zH|refine zC ?_ GE444.out|refine zC ?_ GE445.out|refine zC ?_ GE446.out)|exact HB.out)⟩
   ·replace c32:=Bool.eq_false_iff.mpr c32
    subst c32
    have H1:((signal_copied.f l0_0 l0_1 l0_2).bind fun bt449=>((signal_without_1_48.f bt449.2.1 a1).bind fun t458=>((signal_without_1_48.f bt449.2.2 a1).bind fun t461=>(if a2=1 then ((signal_with.f kj3 t458 a1).bind fun t464=>(if a1=18 then (some (bt449.1,t464,t461,0)) else ((signal_without_1_48.f bt449.1 a1).bind fun t467=>(some (t467,t464,t461,0))))) else (if a2=2 then ((signal_with.f kj3 t461 a1).bind fun t470=>(some (bt449.1,t458,t470,0))) else (some (bt449.1,t458,t461,0)))))))=some (r1,r2,r3,r4):=by rw [if_neg (show ¬ (false=true) by decide)] at H;exact H
    clear H
    have H:=H1
    clear H1
    replace H:=Option.bind_eq_some_iff.mp H
    obtain ⟨⟨t449,t452,t455⟩,A390,H⟩:=H
    replace H:((signal_without_1_48.f t452 a1).bind fun t458=>((signal_without_1_48.f t455 a1).bind fun t461=>(if a2=1 then ((signal_with.f kj3 t458 a1).bind fun t464=>(if a1=18 then (some (t449,t464,t461,0)) else ((signal_without_1_48.f t449 a1).bind fun t467=>(some (t467,t464,t461,0))))) else (if a2=2 then ((signal_with.f kj3 t461 a1).bind fun t470=>(some (t449,t458,t470,0))) else (some (t449,t458,t461,0))))))=some (r1,r2,r3,r4):=H
    have A39:=Zk A390
    clear A390
    replace H:=Option.bind_eq_some_iff.mp H
    obtain ⟨t458,A400,H⟩:=H
    replace H:((signal_without_1_48.f t455 a1).bind fun t461=>(if a2=1 then ((signal_with.f kj3 t458 a1).bind fun t464=>(if a1=18 then (some (t449,t464,t461,0)) else ((signal_without_1_48.f t449 a1).bind fun t467=>(some (t467,t464,t461,0))))) else (if a2=2 then ((signal_with.f kj3 t461 a1).bind fun t470=>(some (t449,t458,t470,0))) else (some (t449,t458,t461,0)))))=some (r1,r2,r3,r4):=H
    have A40:=Zk A400
    clear A400
    replace H:=Option.bind_eq_some_iff.mp H
    obtain ⟨t461,A410,H⟩:=H
    replace H:(if a2=1 then ((signal_with.f kj3 t458 a1).bind fun t464=>(if a1=18 then (some (t449,t464,t461,0)) else ((signal_without_1_48.f t449 a1).bind fun t467=>(some (t467,t464,t461,0))))) else (if a2=2 then ((signal_with.f kj3 t461 a1).bind fun t470=>(some (t449,t458,t470,0))) else (some (t449,t458,t461,0))))=some (r1,r2,r3,r4):=H
    have A41:=Zk A410
    clear A410
    by_cases c42:a2=1
    ·rw [if_pos c42] at H
     have c42b0:(a2 == 1)=true:=beq_iff_eq.mpr c42
     have c42b1:(a2 != 1)=false:=bne_eq_false_iff_eq.mpr c42
     clear c42
     replace H:=Option.bind_eq_some_iff.mp H
     obtain ⟨t464,A430,H⟩:=H
     replace H:(if a1=18 then (some (t449,t464,t461,0)) else ((signal_without_1_48.f t449 a1).bind fun t467=>(some (t467,t464,t461,0))))=some (r1,r2,r3,r4):=H
     have A43:=Zk A430
     clear A430
     by_cases c44:a1=18
     ·rw [if_pos c44] at H
      have c44b0:(a1 == 18)=true:=beq_iff_eq.mpr c44
      have c44b1:(a1 != 18)=false:=bne_eq_false_iff_eq.mpr c44
      clear c44
      simp only [Option.some.injEq,Prod.mk.injEq] at H
      obtain ⟨rfl,rfl,rfl,rfl⟩:=H
      have hnb45:=NB444_445.out
      have hnc45:=NB445_444.out
      have hnb46:=NB444_446.out
      have hnc46:=NB446_444.out
      have hcz47_0:wc.cell? ⟨gb444,0,none⟩=some (.slice A0_0 l0_0.length c0_0):=(zJ BK444.out 0).trans rfl
      have hcz47_1:wc.cell? ⟨gb444,1,none⟩=some (.slice A0_1 l0_1.length c0_1):=(zJ BK444.out 1).trans rfl
      have hcz47_2:wc.cell? ⟨gb444,2,none⟩=some (.slice A0_2 l0_2.length c0_2):=(zJ BK444.out 2).trans rfl
      have hfz47_0:=zI BK444.out 0
      have hfz47_1:=zI BK444.out 1
      have hfz47_2:=zI BK444.out 2
      try go_wp2_with (first|((with_reducible refine yD (f:=39) rfl ?_);refine yM (some 27) rfl rfl Tryd.func39 (by kernel_rfl) rfl #[.agg #[.slice A0_0 l0_0.length c0_0,.slice A0_1 l0_1.length c0_1,.slice A0_2 l0_2.length c0_2]] rfl (by (try simp only [List.map_toArray,List.map_cons,List.map_nil]);first|done|rfl|(simp only [List.length_drop,List.length_take];rfl)) ?_;(with_reducible refine (signal_copied.calls _ _ l0_0 _ _ l0_1 _ _ l0_2 t449 t452 t455 _ ?side1 ?side2 ?side3 ?side4 ?side5 ?side6 A39.out).mono ?_);(case side1=>repeat (first|exact (yH HO_445000.out).2.2|(with_reducible refine yG ?_ _)|(with_reducible refine yF ?_ _)|(with_reducible refine yI ?_)));(case side2=>exact (yH HO_445000.out).2.1);(case side3=>repeat (first|exact (yH HO_445001.out).2.2|(with_reducible refine yG ?_ _)|(with_reducible refine yF ?_ _)|(with_reducible refine yI ?_)));(case side4=>exact (yH HO_445001.out).2.1);(case side5=>repeat (first|exact (yH HO_445002.out).2.2|(with_reducible refine yG ?_ _)|(with_reducible refine yF ?_ _)|(with_reducible refine yI ?_)));(case side6=>exact (yH HO_445002.out).2.1);rintro e w48 ⟨v450,v453,v456,rfl,ho0,ho1,ho2,hb⟩;refine ⟨_,rfl,?_⟩;have n0_:=Zk (zO (yO (yO (yO (V_old (by (with_reducible repeat (first|apply zL|apply zK|apply zM));exact HO_445000.out) hb) (zZ ho0)) (zZ ho1)) (zZ ho2)) (fun _ h_=>h_.1));have n1_:=Zk (zO (yO (yO (yO (V_old (by (with_reducible repeat (first|apply zL|apply zK|apply zM));exact HO_445001.out) hb) (zZ ho0)) (zZ ho1)) (zZ ho2)) (fun _ h_=>h_.1));have n2_:=Zk (zO (yO (yO (yO (V_old (by (with_reducible repeat (first|apply zL|apply zK|apply zM));exact HO_445002.out) hb) (zZ ho0)) (zZ ho1)) (zZ ho2)) (fun _ h_=>h_.1));have n3_:=Zk (yU (R_newB (R_newM (M:=fun k_=>(w.heap.size≤k_)) ho0 (zP (by repeat (first|(with_reducible first|exact HB.out|apply zG|apply zD|apply zH|refine zC ?_ GE444.out|refine zC ?_ GE445.out|refine zC ?_ GE446.out)|exact HB.out))) (fun k_ h_=>h_)) (g:=gb445) (o:=.cells #[.int .i64 a1] 3 (0,0)) (by (with_reducible repeat (first|refine zB ?_ _|refine zF ?_|refine zA ?_ _));exact BK445.out)) (zP (by repeat (first|(with_reducible first|exact HB.out|apply zG|apply zD|apply zH|refine zC ?_ GE444.out|refine zC ?_ GE445.out|refine zC ?_ GE446.out)|exact HB.out))));have n4_:=Zk (yU (R_newB (R_newM (M:=fun k_=>(w.heap.size≤k_)) ho1 (zP (by repeat (first|(with_reducible first|exact HB.out|apply zG|apply zD|apply zH|refine zC ?_ GE444.out|refine zC ?_ GE445.out|refine zC ?_ GE446.out)|exact HB.out))) (fun k_ h_=>h_)) (g:=gb445) (o:=.cells #[.int .i64 a1] 3 (0,0)) (by (with_reducible repeat (first|refine zB ?_ _|refine zF ?_|refine zA ?_ _));exact BK445.out)) (zP (by repeat (first|(with_reducible first|exact HB.out|apply zG|apply zD|apply zH|refine zC ?_ GE444.out|refine zC ?_ GE445.out|refine zC ?_ GE446.out)|exact HB.out))));have n5_:=Zk (yU (R_newB (R_newM (M:=fun k_=>(w.heap.size≤k_)) ho2 (zP (by repeat (first|(with_reducible first|exact HB.out|apply zG|apply zD|apply zH|refine zC ?_ GE444.out|refine zC ?_ GE445.out|refine zC ?_ GE446.out)|exact HB.out))) (fun k_ h_=>h_)) (g:=gb445) (o:=.cells #[.int .i64 a1] 3 (0,0)) (by (with_reducible repeat (first|refine zB ?_ _|refine zF ?_|refine zA ?_ _));exact BK445.out)) (zP (by repeat (first|(with_reducible first|exact HB.out|apply zG|apply zD|apply zH|refine zC ?_ GE444.out|refine zC ?_ GE445.out|refine zC ?_ GE446.out)|exact HB.out))));have n6_:=Zk (zW (g:=gb444) (o:=.cells #[.slice A0_0 l0_0.length c0_0,.slice A0_1 l0_1.length c0_1,.slice A0_2 l0_2.length c0_2] 30 (0,0)) (by (with_reducible repeat (first|refine zB ?_ _|refine zF ?_|refine zA ?_ _));exact BK444.out) hb);have n7_:=Zk (zW (g:=gb445) (o:=.cells #[.int .i64 a1] 3 (0,0)) (by (with_reducible repeat (first|refine zB ?_ _|refine zF ?_|refine zA ?_ _));exact BK445.out) hb);have n8_:=Zk (zW (g:=gb446) (o:=.cells #[.slice none 0 0,.slice none 0 0,.slice none 0 0] 30 (0,0)) (by (with_reducible repeat (first|refine zB ?_ _|refine zF ?_|refine zA ?_ _));exact BK446.out) hb);have n9_:=Zk (yA (by repeat (first|(with_reducible first|exact HB.out|apply zG|apply zD|apply zH|refine zC ?_ GE444.out|refine zC ?_ GE445.out|refine zC ?_ GE446.out)|exact HB.out)) hb);clear HO_445000;clear HO_445001;clear HO_445002;clear BK444;clear BK445;clear BK446;clear HB;have HO_445000:=n0_;have HO_445001:=n1_;have HO_445002:=n2_;have HO451:=n3_;have HO454:=n4_;have HO457:=n5_;have BK444:=n6_;have BK445:=n7_;have BK446:=n8_;have HB:=n9_;clear n0_ n1_ n2_ n3_ n4_ n5_ n6_ n7_ n8_ n9_;(try clear hb);(try clear hb2);(try clear hk);(try clear hi);(try clear ho0);(try clear ho1);(try clear ho2);obtain ⟨Ao49,co49,eo49⟩:=yQ HO451.out;subst eo49;have hcz50_0:w48.cell? ⟨gb444,0,none⟩=some (.slice A0_0 l0_0.length c0_0):=(zJ BK444.out 0).trans rfl;have hcz50_1:w48.cell? ⟨gb444,1,none⟩=some (.slice A0_1 l0_1.length c0_1):=(zJ BK444.out 1).trans rfl;have hcz50_2:w48.cell? ⟨gb444,2,none⟩=some (.slice A0_2 l0_2.length c0_2):=(zJ BK444.out 2).trans rfl;have hfz50_0:=zI BK444.out 0;have hfz50_1:=zI BK444.out 1;have hfz50_2:=zI BK444.out 2;obtain ⟨Ao51,co51,eo51⟩:=yQ HO454.out;subst eo51;obtain ⟨Ao52,co52,eo52⟩:=yQ HO457.out;subst eo52)|((with_reducible refine xA (t:=30) (p:=3) rfl ?_);refine yY (t:=30) (p:=3) (v:=?vo_w53) (w1:=(((w48.setCell ⟨gb444,0,none⟩ (.slice Ao49 t449.length co49)).setCell ⟨gb444,1,none⟩ (.slice Ao51 t452.length co51)).setCell ⟨gb444,2,none⟩ (.slice Ao52 t455.length co52))) ?hg ?ho ?hn ?hr ?_;(case ho=>rfl);(case hg=>rfl);(case hn=>rfl);(case hr=>first|(go_simp;done)|(go_simp;rfl));intro w53 hw;have n0_:zN (Kd.V (Kd.int .i64) 3 w53 w.heap.size (fun k_=>((P0_0_ k_∨P0_1_ k_∨P0_2_ k_)∨w.heap.size≤k_)∧some k_≠(.slice Ao49 t449.length co49:Value).ownBlock∧some k_≠(.slice Ao51 t452.length co51:Value).ownBlock∧some k_≠(.slice Ao52 t455.length co52:Value).ownBlock∧k_≠gb444∧k_≠gb445∧k_≠gb446) (.slice A0_0 l0_0.length c0_0) l0_0):=⟨(by rw [hw];exact (by (with_reducible repeat (first|apply zL|apply zK|apply zM));exact zO (zS (p:=⟨gb444,2,none⟩) (zS (p:=⟨gb444,1,none⟩) (zS (p:=⟨gb444,0,none⟩) (zO HO_445000.out (fun k_ hk=>(⟨hk,hk.1.1.1.2.1⟩:_∧k_≠gb444))) (fun _ hk=>hk.2) (.slice Ao49 t449.length co49)) (fun _ hk=>hk.2) (.slice Ao51 t452.length co51)) (fun _ hk=>hk.2) (.slice Ao52 t455.length co52)) (fun _ hk=>⟨hk.1.1.1.1.1,⟨hk.1.1.1.2,⟨hk.1.1.2,⟨hk.1.2,⟨hk.1.1.1.1.2.1,⟨hk.1.1.1.1.2.2.1,hk.1.1.1.1.2.2.2⟩⟩⟩⟩⟩⟩)))⟩;have n1_:zN (Kd.V (Kd.int .i64) 3 w53 w.heap.size (fun k_=>((P0_0_ k_∨P0_1_ k_∨P0_2_ k_)∨w.heap.size≤k_)∧some k_≠(.slice Ao49 t449.length co49:Value).ownBlock∧some k_≠(.slice Ao51 t452.length co51:Value).ownBlock∧some k_≠(.slice Ao52 t455.length co52:Value).ownBlock∧k_≠gb444∧k_≠gb445∧k_≠gb446) (.slice A0_1 l0_1.length c0_1) l0_1):=⟨(by rw [hw];exact (by (with_reducible repeat (first|apply zL|apply zK|apply zM));exact zO (zS (p:=⟨gb444,2,none⟩) (zS (p:=⟨gb444,1,none⟩) (zS (p:=⟨gb444,0,none⟩) (zO HO_445001.out (fun k_ hk=>(⟨hk,hk.1.1.1.2.1⟩:_∧k_≠gb444))) (fun _ hk=>hk.2) (.slice Ao49 t449.length co49)) (fun _ hk=>hk.2) (.slice Ao51 t452.length co51)) (fun _ hk=>hk.2) (.slice Ao52 t455.length co52)) (fun _ hk=>⟨hk.1.1.1.1.1,⟨hk.1.1.1.2,⟨hk.1.1.2,⟨hk.1.2,⟨hk.1.1.1.1.2.1,⟨hk.1.1.1.1.2.2.1,hk.1.1.1.1.2.2.2⟩⟩⟩⟩⟩⟩)))⟩;have n2_:zN (Kd.V (Kd.int .i64) 3 w53 w.heap.size (fun k_=>((P0_0_ k_∨P0_1_ k_∨P0_2_ k_)∨w.heap.size≤k_)∧some k_≠(.slice Ao49 t449.length co49:Value).ownBlock∧some k_≠(.slice Ao51 t452.length co51:Value).ownBlock∧some k_≠(.slice Ao52 t455.length co52:Value).ownBlock∧k_≠gb444∧k_≠gb445∧k_≠gb446) (.slice A0_2 l0_2.length c0_2) l0_2):=⟨(by rw [hw];exact (by (with_reducible repeat (first|apply zL|apply zK|apply zM));exact zO (zS (p:=⟨gb444,2,none⟩) (zS (p:=⟨gb444,1,none⟩) (zS (p:=⟨gb444,0,none⟩) (zO HO_445002.out (fun k_ hk=>(⟨hk,hk.1.1.1.2.1⟩:_∧k_≠gb444))) (fun _ hk=>hk.2) (.slice Ao49 t449.length co49)) (fun _ hk=>hk.2) (.slice Ao51 t452.length co51)) (fun _ hk=>hk.2) (.slice Ao52 t455.length co52)) (fun _ hk=>⟨hk.1.1.1.1.1,⟨hk.1.1.1.2,⟨hk.1.1.2,⟨hk.1.2,⟨hk.1.1.1.1.2.1,⟨hk.1.1.1.1.2.2.1,hk.1.1.1.1.2.2.2⟩⟩⟩⟩⟩⟩)))⟩;have n3_:zN (Kd.R (Kd.int .i64) 3 w53 w.heap.size (fun k_=>(w.heap.size≤k_)∧some k_≠(.slice Ao51 t452.length co51:Value).ownBlock∧some k_≠(.slice Ao52 t455.length co52:Value).ownBlock∧k_≠gb445) (.slice Ao49 t449.length co49) t449):=⟨(by rw [hw];exact (by (with_reducible repeat (first|apply zR|apply zQ|apply zU));exact yB (zT (p:=⟨gb444,2,none⟩) (zT (p:=⟨gb444,1,none⟩) (zT (p:=⟨gb444,0,none⟩) (zX HO451.out BK444.out (by decide)) (fun _ hk=>hk.2) (.slice Ao49 t449.length co49)) (fun _ hk=>hk.2) (.slice Ao51 t452.length co51)) (fun _ hk=>hk.2) (.slice Ao52 t455.length co52)) (fun _ hk=>⟨hk.1.1.1,⟨hk.1.1.2.1,⟨hk.1.1.2.2,hk.1.2⟩⟩⟩)))⟩;have n4_:zN (Kd.R (Kd.int .i64) 3 w53 w.heap.size (fun k_=>(w.heap.size≤k_)∧some k_≠(.slice Ao49 t449.length co49:Value).ownBlock∧some k_≠(.slice Ao52 t455.length co52:Value).ownBlock∧k_≠gb445) (.slice Ao51 t452.length co51) t452):=⟨(by rw [hw];exact (by (with_reducible repeat (first|apply zR|apply zQ|apply zU));exact yB (zT (p:=⟨gb444,2,none⟩) (zT (p:=⟨gb444,1,none⟩) (zT (p:=⟨gb444,0,none⟩) (zX HO454.out BK444.out (by decide)) (fun _ hk=>hk.2) (.slice Ao49 t449.length co49)) (fun _ hk=>hk.2) (.slice Ao51 t452.length co51)) (fun _ hk=>hk.2) (.slice Ao52 t455.length co52)) (fun _ hk=>⟨hk.1.1.1,⟨hk.1.1.2.1,⟨hk.1.1.2.2,hk.1.2⟩⟩⟩)))⟩;have n5_:zN (Kd.R (Kd.int .i64) 3 w53 w.heap.size (fun k_=>(w.heap.size≤k_)∧some k_≠(.slice Ao49 t449.length co49:Value).ownBlock∧some k_≠(.slice Ao51 t452.length co51:Value).ownBlock∧k_≠gb445) (.slice Ao52 t455.length co52) t455):=⟨(by rw [hw];exact (by (with_reducible repeat (first|apply zR|apply zQ|apply zU));exact yB (zT (p:=⟨gb444,2,none⟩) (zT (p:=⟨gb444,1,none⟩) (zT (p:=⟨gb444,0,none⟩) (zX HO457.out BK444.out (by decide)) (fun _ hk=>hk.2) (.slice Ao49 t449.length co49)) (fun _ hk=>hk.2) (.slice Ao51 t452.length co51)) (fun _ hk=>hk.2) (.slice Ao52 t455.length co52)) (fun _ hk=>⟨hk.1.1.1,⟨hk.1.1.2.1,⟨hk.1.1.2.2,hk.1.2⟩⟩⟩)))⟩;have n6_:zN (w53.heap[gb444]?=some (.cells #[.slice Ao49 t449.length co49,.slice Ao51 t452.length co51,.slice Ao52 t455.length co52] 30 (0,0))):=⟨(by rw [hw];exact (by (with_reducible repeat (first|refine zB ?_ _|refine zF ?_|refine zA ?_ _));refine yE (cs:=#[.slice Ao49 t449.length co49,.slice Ao51 t452.length co51,.slice A0_2 l0_2.length c0_2]) ?_ 2 _ rfl;(with_reducible repeat (first|refine zB ?_ _|refine zF ?_|refine zA ?_ _));refine yE (cs:=#[.slice Ao49 t449.length co49,.slice A0_1 l0_1.length c0_1,.slice A0_2 l0_2.length c0_2]) ?_ 1 _ rfl;(with_reducible repeat (first|refine zB ?_ _|refine zF ?_|refine zA ?_ _));refine yE (cs:=#[.slice A0_0 l0_0.length c0_0,.slice A0_1 l0_1.length c0_1,.slice A0_2 l0_2.length c0_2]) ?_ 0 _ rfl;(with_reducible repeat (first|refine zB ?_ _|refine zF ?_|refine zA ?_ _));exact BK444.out))⟩;have n7_:zN (w53.heap[gb445]?=some (.cells #[.int .i64 a1] 3 (0,0))):=⟨(by rw [hw];exact (by (with_reducible repeat (first|refine zB ?_ _|refine zF ?_|refine zA ?_ _));refine zY ?_ NB445_444.out _;(with_reducible repeat (first|refine zB ?_ _|refine zF ?_|refine zA ?_ _));refine zY ?_ NB445_444.out _;(with_reducible repeat (first|refine zB ?_ _|refine zF ?_|refine zA ?_ _));refine zY ?_ NB445_444.out _;(with_reducible repeat (first|refine zB ?_ _|refine zF ?_|refine zA ?_ _));exact BK445.out))⟩;have n8_:zN (w53.heap[gb446]?=some (.cells #[.slice none 0 0,.slice none 0 0,.slice none 0 0] 30 (0,0))):=⟨(by rw [hw];exact (by (with_reducible repeat (first|refine zB ?_ _|refine zF ?_|refine zA ?_ _));refine zY ?_ NB446_444.out _;(with_reducible repeat (first|refine zB ?_ _|refine zF ?_|refine zA ?_ _));refine zY ?_ NB446_444.out _;(with_reducible repeat (first|refine zB ?_ _|refine zF ?_|refine zA ?_ _));refine zY ?_ NB446_444.out _;(with_reducible repeat (first|refine zB ?_ _|refine zF ?_|refine zA ?_ _));exact BK446.out))⟩;have n9_:zN (Below w.heap.size w w53):=⟨(by rw [hw];exact (by repeat (first|(with_reducible first|exact HB.out|apply zG|apply zD|apply zH|refine zC ?_ GE444.out|refine zC ?_ GE445.out|refine zC ?_ GE446.out)|exact HB.out)))⟩;clear hw;clear HO_445000;clear HO_445001;clear HO_445002;clear HO451;clear HO454;clear HO457;clear BK444;clear BK445;clear BK446;clear HB;have HO_445000:=n0_;have HO_445001:=n1_;have HO_445002:=n2_;have HO451:=n3_;have HO454:=n4_;have HO457:=n5_;have BK444:=n6_;have BK445:=n7_;have BK446:=n8_;have HB:=n9_;clear n0_ n1_ n2_ n3_ n4_ n5_ n6_ n7_ n8_ n9_))
      have n0_:=Zk (zM HO_445000.out)
      have n1_:=Zk (zM HO_445001.out)
      have n2_:=Zk (zM HO_445002.out)
      have n3_:=Zk (zU HO451.out)
      have n4_:=Zk (zU HO454.out)
      have n5_:=Zk (zU HO457.out)
      have n6_:=Zk (zF BK444.out)
      have n7_:=Zk (zF BK445.out)
      have n8_:=Zk (zF BK446.out)
      have n9_:=Zk (zH HB.out)
      clear HO_445000
      clear HO_445001
      clear HO_445002
      clear HO451
      clear HO454
      clear HO457
      clear BK444
      clear BK445
      clear BK446
      clear HB
      have HO_445000:=n0_
      have HO_445001:=n1_
      have HO_445002:=n2_
      have HO451:=n3_
      have HO454:=n4_
      have HO457:=n5_
      have BK444:=n6_
      have BK445:=n7_
      have BK446:=n8_
      have HB:=n9_
      clear n0_ n1_ n2_ n3_ n4_ n5_ n6_ n7_ n8_ n9_
      refine start_ (n:=12) (S:=fun w'=>w'.cell? ⟨gb444,0,none⟩=some (.slice Ao49 t449.length co49)∧w'.cell? ⟨gb444,1,none⟩=some (.slice Ao51 t452.length co51)∧w'.cell? ⟨gb444,2,none⟩=some (.slice Ao52 t455.length co52)) (ds:=[9,11]) #[false,false,false,false,false,false,false,false,false,false,false,false] (by kernel_rfl) rfl rfl ⟨(zJ BK444.out 0).trans rfl,(zJ BK444.out 1).trans rfl,(zJ BK444.out 2).trans rfl⟩ (fun hHeld=>?_);refine with_tabW signal_Set.tab5 signal_Set.bits5 (fun HT_ HW_=>?_)
      generalize w53.drew=w54 at HO_445000 HO_445001 HO_445002 HO451 HO454 HO457 BK444 BK445 BK446 HB hHeld ⊢
      refine pure_ (i:=0) (N:=some 28) (v:=?_) (a':=?_) #[true,false,false,false,false,false,false,false,false,false,false,false] rfl rfl (any_of HT_.out (by kernel_rfl)) (fun _ _ _ h=>h) (Or.inl ⟨by rfl,?_⟩) ?_ ?_
      rotate_left
      ·intro w'
       go_simp
       with_reducible rfl
      rotate_left
      ·simp only [Act.put,List.setIfInBounds_toArray,List.set_cons_zero,List.set_cons_succ,yX,i32_w]
       rfl
      refine pure_ (i:=2) (N:=some 30) (v:=?_) (a':=?_) #[true,false,true,false,false,false,false,false,false,false,false,false] rfl rfl (any_of HT_.out (by kernel_rfl)) (fun _ _ _ h=>h) (Or.inl ⟨by rfl,?_⟩) ?_ ?_
      rotate_left
      ·intro w'
       go_simp
       with_reducible rfl
      rotate_left
      ·simp only [Act.put,List.setIfInBounds_toArray,List.set_cons_zero,List.set_cons_succ,yX,i32_w]
       rfl
      refine pure_ (i:=4) (N:=some 32) (v:=?_) (a':=?_) #[true,false,true,false,true,false,false,false,false,false,false,false] rfl rfl (any_of HT_.out (by kernel_rfl)) (fun _ _ _ h=>h) (Or.inl ⟨by rfl,?_⟩) ?_ ?_
      rotate_left
      ·intro w'
       go_simp
       with_reducible rfl
      rotate_left
      ·simp only [Act.put,List.setIfInBounds_toArray,List.set_cons_zero,List.set_cons_succ,yX,i32_w]
       rfl
      refine pure_ (i:=6) (N:=some 34) (v:=?_) (a':=?_) #[true,false,true,false,true,false,true,false,false,false,false,false] rfl rfl (any_of HT_.out (by kernel_rfl)) (fun _ _ _ h=>h) (Or.inl ⟨by rfl,?_⟩) ?_ ?_
      rotate_left
      ·intro w'
       go_simp
       with_reducible rfl
      rotate_left
      ·simp only [Act.put,List.setIfInBounds_toArray,List.set_cons_zero,List.set_cons_succ,yX,i32_w]
       rfl
      refine take_ (i:=1) (N:=some 29) (v:=?_) (a':=?_) #[true,true,true,false,true,false,true,false,false,false,false,false] rfl rfl (take_ofW HT_.out HW_.out (by kernel_rfl)) (fun _ _ _ h=>h) (Or.inl ⟨by rfl,?_⟩) hHeld ?_ ?_
      rotate_left
      ·rintro w' ⟨s0,s1,s2⟩
       go_simp
       with_reducible rfl
      rotate_left
      ·simp only [Act.put,List.setIfInBounds_toArray,List.set_cons_zero,List.set_cons_succ,yX,i32_w]
       rfl
      refine take_ (i:=5) (N:=some 33) (v:=?_) (a':=?_) #[true,true,true,false,true,true,true,false,false,false,false,false] rfl rfl (take_ofW HT_.out HW_.out (by kernel_rfl)) (fun _ _ _ h=>h) (Or.inl ⟨by rfl,?_⟩) hHeld ?_ ?_
      rotate_left
      ·rintro w' ⟨s0,s1,s2⟩
       go_simp
       with_reducible rfl
      rotate_left
      ·simp only [Act.put,List.setIfInBounds_toArray,List.set_cons_zero,List.set_cons_succ,yX,i32_w]
       rfl
      refine one_ (i:=3) (N:=some 31) #[true,true,true,true,true,true,true,false,false,false,false,false] rfl rfl (one_of HT_.out (by kernel_rfl)) (by decide) (fun K hK=>?_)
      refine goes_ Tryd.func40 (by kernel_rfl) rfl #[.slice Ao51 t452.length co51,.func (.func 48) #[] #[.pointer (some ⟨gb445,0,none⟩)]] (by rfl) rfl rfl (by (try simp only [List.map_toArray,List.map_cons,List.map_nil]);first|done|rfl|(simp only [List.length_drop,List.length_take];rfl)) ?_
      with_reducible refine (signal_without_1_48.calls _ _ t452 a1 t458 _ ?side1 ?side2 ?side3 A40.out).mono ?_
      (case side1=>repeat (first|exact (yZ HO454.out).2.2|(with_reducible refine yG ?_ _)|(with_reducible refine yF ?_ _)|(with_reducible refine yI ?_)))
      (case side2=>exact (yZ HO454.out).2.1)
      (case side3=>exact by (with_reducible repeat (first|refine zB ?_ _|refine zF ?_|refine zA ?_ _));exact BK445.out)
      rintro e w55 ⟨v459,rfl,ho0,hb⟩
      refine ⟨_,rfl,?_⟩
      have n0_:=Zk (yL (by (with_reducible repeat (first|apply zL|apply zK|apply zM));exact HO_445000.out) (zZ ho0) hb)
      have n1_:=Zk (yL (by (with_reducible repeat (first|apply zL|apply zK|apply zM));exact HO_445001.out) (zZ ho0) hb)
      have n2_:=Zk (yL (by (with_reducible repeat (first|apply zL|apply zK|apply zM));exact HO_445002.out) (zZ ho0) hb)
      have n3_:=Zk (yK (by (with_reducible repeat (first|apply zR|apply zQ|apply zU));exact HO451.out) (zZ ho0) hb)
      have n4_:=Zk (yK (by (with_reducible repeat (first|apply zR|apply zQ|apply zU));exact HO454.out) (zZ ho0) hb)
      have n5_:=Zk (yK (by (with_reducible repeat (first|apply zR|apply zQ|apply zU));exact HO457.out) (zZ ho0) hb)
      have n6_:=Zk (yU (R_newB (yR (yR (yR (R_newM (M:=fun k_=>(w.heap.size≤k_)) ho0 (zP (by repeat (first|(with_reducible first|exact HB.out|apply zG|apply zD|apply zH|refine zC ?_ GE444.out|refine zC ?_ GE445.out|refine zC ?_ GE446.out)|exact HB.out))) (fun k_ h_=>h_)) (R_lt (by (with_reducible repeat (first|apply zR|apply zQ|apply zU));exact HO451.out))) (R_lt (by (with_reducible repeat (first|apply zR|apply zQ|apply zU));exact HO454.out))) (R_lt (by (with_reducible repeat (first|apply zR|apply zQ|apply zU));exact HO457.out))) (g:=gb445) (o:=.cells #[.int .i64 a1] 3 (0,0)) (by (with_reducible repeat (first|refine zB ?_ _|refine zF ?_|refine zA ?_ _));exact BK445.out)) (zP (by repeat (first|(with_reducible first|exact HB.out|apply zG|apply zD|apply zH|refine zC ?_ GE444.out|refine zC ?_ GE445.out|refine zC ?_ GE446.out)|exact HB.out))))
      have n7_:=Zk (zW (g:=gb444) (o:=.cells #[.slice Ao49 t449.length co49,.slice Ao51 t452.length co51,.slice Ao52 t455.length co52] 30 (0,0)) (by (with_reducible repeat (first|refine zB ?_ _|refine zF ?_|refine zA ?_ _));exact BK444.out) hb)
      have n8_:=Zk (zW (g:=gb445) (o:=.cells #[.int .i64 a1] 3 (0,0)) (by (with_reducible repeat (first|refine zB ?_ _|refine zF ?_|refine zA ?_ _));exact BK445.out) hb)
      have n9_:=Zk (zW (g:=gb446) (o:=.cells #[.slice none 0 0,.slice none 0 0,.slice none 0 0] 30 (0,0)) (by (with_reducible repeat (first|refine zB ?_ _|refine zF ?_|refine zA ?_ _));exact BK446.out) hb)
      have n10_:=Zk (yA (by repeat (first|(with_reducible first|exact HB.out|apply zG|apply zD|apply zH|refine zC ?_ GE444.out|refine zC ?_ GE445.out|refine zC ?_ GE446.out)|exact HB.out)) hb)
      clear HO_445000
      clear HO_445001
      clear HO_445002
      clear HO451
      clear HO454
      clear HO457
      clear BK444
      clear BK445
      clear BK446
      clear HB
      have HO_445000:=n0_
      have HO_445001:=n1_
      have HO_445002:=n2_
      have HO451:=n3_
      have HO454:=n4_
      have HO457:=n5_
      have HO460:=n6_
      have BK444:=n7_
      have BK445:=n8_
      have BK446:=n9_
      have HB:=n10_
      clear n0_ n1_ n2_ n3_ n4_ n5_ n6_ n7_ n8_ n9_ n10_
      (try clear hb)
      (try clear hb2)
      (try clear hk)
      (try clear hi)
      (try clear ho0)
      refine hK.out _ _ ⟨(zJ BK444.out 0).trans rfl,(zJ BK444.out 1).trans rfl,(zJ BK444.out 2).trans rfl⟩ (fun hHeld=>?_)
      clear hK K
      refine norm_ (a':=?_) ?_ ?_
      rotate_left
      ·show Act.put _ (some 31) _=_
       simp only [Act.put,List.setIfInBounds_toArray,List.set_cons_zero,List.set_cons_succ,yX,i32_w]
       rfl
      refine pure_ (i:=8) (N:=some 36) (v:=?_) (a':=?_) #[true,true,true,true,true,true,true,false,true,false,false,false] rfl rfl (any_of HT_.out (by kernel_rfl)) (fun _ _ _ h=>h) (Or.inl ⟨by rfl,?_⟩) ?_ ?_
      rotate_left
      ·intro w'
       go_simp
       with_reducible rfl
      rotate_left
      ·simp only [Act.put,List.setIfInBounds_toArray,List.set_cons_zero,List.set_cons_succ,yX,i32_w]
       rfl
      refine one_ (i:=7) (N:=some 35) #[true,true,true,true,true,true,true,true,true,false,false,false] rfl rfl (one_of HT_.out (by kernel_rfl)) (by decide) (fun K hK=>?_)
      refine goes_ Tryd.func40 (by kernel_rfl) rfl #[.slice Ao52 t455.length co52,.func (.func 48) #[] #[.pointer (some ⟨gb445,0,none⟩)]] (by rfl) rfl rfl (by (try simp only [List.map_toArray,List.map_cons,List.map_nil]);first|done|rfl|(simp only [List.length_drop,List.length_take];rfl)) ?_
      with_reducible refine (signal_without_1_48.calls _ _ t455 a1 t461 _ ?side1 ?side2 ?side3 A41.out).mono ?_
      (case side1=>repeat (first|exact (yZ HO457.out).2.2|(with_reducible refine yG ?_ _)|(with_reducible refine yF ?_ _)|(with_reducible refine yI ?_)))
      (case side2=>exact (yZ HO457.out).2.1)
      (case side3=>exact by (with_reducible repeat (first|refine zB ?_ _|refine zF ?_|refine zA ?_ _));exact BK445.out)
      rintro e w56 ⟨v462,rfl,ho0,hb⟩
      refine ⟨_,rfl,?_⟩
      have n0_:=Zk (yL (by (with_reducible repeat (first|apply zL|apply zK|apply zM));exact HO_445000.out) (zZ ho0) hb)
      have n1_:=Zk (yL (by (with_reducible repeat (first|apply zL|apply zK|apply zM));exact HO_445001.out) (zZ ho0) hb)
      have n2_:=Zk (yL (by (with_reducible repeat (first|apply zL|apply zK|apply zM));exact HO_445002.out) (zZ ho0) hb)
      have n3_:=Zk (yK (by (with_reducible repeat (first|apply zR|apply zQ|apply zU));exact HO451.out) (zZ ho0) hb)
      have n4_:=Zk (yK (by (with_reducible repeat (first|apply zR|apply zQ|apply zU));exact HO454.out) (zZ ho0) hb)
      have n5_:=Zk (yK (by (with_reducible repeat (first|apply zR|apply zQ|apply zU));exact HO457.out) (zZ ho0) hb)
      have n6_:=Zk (yK (by (with_reducible repeat (first|apply zR|apply zQ|apply zU));exact HO460.out) (zZ ho0) hb)
      have n7_:=Zk (yU (R_newB (yR (yR (yR (yR (R_newM (M:=fun k_=>(w.heap.size≤k_)) ho0 (zP (by repeat (first|(with_reducible first|exact HB.out|apply zG|apply zD|apply zH|refine zC ?_ GE444.out|refine zC ?_ GE445.out|refine zC ?_ GE446.out)|exact HB.out))) (fun k_ h_=>h_)) (R_lt (by (with_reducible repeat (first|apply zR|apply zQ|apply zU));exact HO451.out))) (R_lt (by (with_reducible repeat (first|apply zR|apply zQ|apply zU));exact HO454.out))) (R_lt (by (with_reducible repeat (first|apply zR|apply zQ|apply zU));exact HO457.out))) (R_lt (by (with_reducible repeat (first|apply zR|apply zQ|apply zU));exact HO460.out))) (g:=gb445) (o:=.cells #[.int .i64 a1] 3 (0,0)) (by (with_reducible repeat (first|refine zB ?_ _|refine zF ?_|refine zA ?_ _));exact BK445.out)) (zP (by repeat (first|(with_reducible first|exact HB.out|apply zG|apply zD|apply zH|refine zC ?_ GE444.out|refine zC ?_ GE445.out|refine zC ?_ GE446.out)|exact HB.out))))
      have n8_:=Zk (zW (g:=gb444) (o:=.cells #[.slice Ao49 t449.length co49,.slice Ao51 t452.length co51,.slice Ao52 t455.length co52] 30 (0,0)) (by (with_reducible repeat (first|refine zB ?_ _|refine zF ?_|refine zA ?_ _));exact BK444.out) hb)
      have n9_:=Zk (zW (g:=gb445) (o:=.cells #[.int .i64 a1] 3 (0,0)) (by (with_reducible repeat (first|refine zB ?_ _|refine zF ?_|refine zA ?_ _));exact BK445.out) hb)
      have n10_:=Zk (zW (g:=gb446) (o:=.cells #[.slice none 0 0,.slice none 0 0,.slice none 0 0] 30 (0,0)) (by (with_reducible repeat (first|refine zB ?_ _|refine zF ?_|refine zA ?_ _));exact BK446.out) hb)
      have n11_:=Zk (yA (by repeat (first|(with_reducible first|exact HB.out|apply zG|apply zD|apply zH|refine zC ?_ GE444.out|refine zC ?_ GE445.out|refine zC ?_ GE446.out)|exact HB.out)) hb)
      clear HO_445000
      clear HO_445001
      clear HO_445002
      clear HO451
      clear HO454
      clear HO457
      clear HO460
      clear BK444
      clear BK445
      clear BK446
      clear HB
      have HO_445000:=n0_
      have HO_445001:=n1_
      have HO_445002:=n2_
      have HO451:=n3_
      have HO454:=n4_
      have HO457:=n5_
      have HO460:=n6_
      have HO463:=n7_
      have BK444:=n8_
      have BK445:=n9_
      have BK446:=n10_
      have HB:=n11_
      clear n0_ n1_ n2_ n3_ n4_ n5_ n6_ n7_ n8_ n9_ n10_ n11_
      (try clear hb)
      (try clear hb2)
      (try clear hk)
      (try clear hi)
      (try clear ho0)
      obtain ⟨Ao57,co57,eo57⟩:=yQ HO460.out
      (first|subst eo57|(injection eo57 with f1_ f2_ f3_;have f4_:=f1_.symm;have f5_:=f3_.symm;clear f1_ f2_ f3_;subst f4_;subst f5_))
      obtain ⟨Ao59,co59,eo59⟩:=yQ HO463.out
      (first|subst eo59|(injection eo59 with f1_ f2_ f3_;have f4_:=f1_.symm;have f5_:=f3_.symm;clear f1_ f2_ f3_;subst f4_;subst f5_))
      refine hK.out _ _ ⟨(zJ BK444.out 0).trans rfl,(zJ BK444.out 1).trans rfl,(zJ BK444.out 2).trans rfl⟩ (fun hHeld=>?_)
      clear hK K
      refine norm_ (a':=?_) ?_ ?_
      rotate_left
      ·show Act.put _ (some 35) _=_
       simp only [Act.put,List.setIfInBounds_toArray,List.set_cons_zero,List.set_cons_succ,yX,i32_w]
       rfl
      refine last_ (i:=9) (N:=none) #[true,true,true,true,true,true,true,true,true,true,false,false] rfl rfl (one_of HT_.out (by kernel_rfl)) (by decide) (fun K hK=>?_)
      have hs58:w56.cell? ⟨gb444,1,none⟩=some (.slice Ao51 t452.length co51):=(zJ BK444.out 1).trans rfl
      have hfs58:=zI BK444.out 1
      have hns58_1:=NB445_444.out
      have hns58_2:=NB446_444.out
      have hms58_1:=NB444_445.out
      have hms58_2:=NB444_446.out
      refine skip_ (w1:=?_) (by rfl) rfl ?_ ?_
      rotate_left
      ·go_simp
       rfl
      refine hK.out _ _ ?_
      clear hK K
      refine pure_ (i:=10) (N:=some 37) (v:=?_) (a':=?_) #[true,true,true,true,true,true,true,true,true,true,true,false] rfl rfl (any_of HT_.out (by kernel_rfl)) (fun _ _ _ h=>h) (Or.inl ⟨by rfl,?_⟩) ?_ ?_
      rotate_left
      ·intro w'
       go_simp
       with_reducible rfl
      rotate_left
      ·simp only [Act.put,List.setIfInBounds_toArray,List.set_cons_zero,List.set_cons_succ,yX,i32_w]
       rfl
      refine last_ (i:=11) (N:=none) #[true,true,true,true,true,true,true,true,true,true,true,true] rfl rfl (one_of HT_.out (by kernel_rfl)) (by decide) (fun K hK=>?_)
      have hs60:w56.cell? ⟨gb444,2,none⟩=some (.slice Ao52 t455.length co52):=(zJ BK444.out 2).trans rfl
      have hfs60:=zI BK444.out 2
      have hns60_1:=NB445_444.out
      have hns60_2:=NB446_444.out
      have hms60_1:=NB444_445.out
      have hms60_2:=NB444_446.out
      refine skip_ (w1:=?_) (by rfl) rfl ?_ ?_
      rotate_left
      ·go_simp
       rfl
      refine hK.out _ _ ?_
      clear hK K
      refine done_ (done_of HT_.out (by kernel_rfl)) ?_
      have hcz61_0:w56.cell? ⟨gb444,0,none⟩=some (.slice Ao49 t449.length co49):=(zJ BK444.out 0).trans rfl
      have hcz61_1:w56.cell? ⟨gb444,1,none⟩=some (.slice Ao51 t452.length co51):=(zJ BK444.out 1).trans rfl
      have hcz61_2:w56.cell? ⟨gb444,2,none⟩=some (.slice Ao52 t455.length co52):=(zJ BK444.out 2).trans rfl
      have hfz61_0:=zI BK444.out 0
      have hfz61_1:=zI BK444.out 1
      have hfz61_2:=zI BK444.out 2
      have hnb62:=NB445_446.out
      have hnc62:=NB446_445.out
      have hcz63_0:w56.cell? ⟨gb445,0,none⟩=some (.int .i64 a1):=(zJ BK445.out 0).trans rfl
      have hfz63_0:=zI BK445.out 0
      try go_wp2_with (first|((with_reducible refine yD (f:=45) rfl ?_);refine yM (some 44) rfl rfl Tryd.func45 (by kernel_rfl) rfl #[.slice Ao57 t458.length co57,.int .i64 a1] rfl (by (try simp only [List.map_toArray,List.map_cons,List.map_nil]);first|done|rfl|(simp only [List.length_drop,List.length_take];rfl)) ?_;(with_reducible refine (signal_with.calls kj3 _ _ t458 a1 t464 _ ?side1 ?side2 A43.out).mono ?_);(case side1=>refine (yZ (e:=3) (base:=w.heap.size) (ok:=fun k_=>(((((((w.heap.size≤k_)∧True)∧some k_≠(.slice Ao49 t449.length co49:Value).ownBlock)∧some k_≠(.slice Ao51 t452.length co51:Value).ownBlock)∧some k_≠(.slice Ao52 t455.length co52:Value).ownBlock)∧k_≠gb445)∧some k_≠(.slice Ao59 t461.length co59:Value).ownBlock)) (n:=t458.length) (c:=co57) ?_).2.2;exact (by (with_reducible repeat (first|apply zR|apply zQ|apply zU));exact (yB (zT (p:=⟨gb444,2,none⟩) (zT (p:=⟨gb444,1,none⟩) (zX HO460.out BK444.out (by decide)) (fun _ hk=>hk.2) (.slice Ao57 t458.length co57)) (fun _ hk=>hk.2) (.slice Ao59 t461.length co59)) (fun _ h_=>h_.1))));(case side2=>exact (yZ HO460.out).2.1);rintro e w64 ⟨v465,rfl,ho0,hb⟩;refine ⟨_,rfl,?_⟩;have n0_:=Zk (yL (by (with_reducible repeat (first|apply zL|apply zK|apply zM));exact (zO (zS (p:=⟨gb444,2,none⟩) (zS (p:=⟨gb444,1,none⟩) (zO HO_445000.out (fun k_ hk=>(⟨hk,hk.1.1.2.2.2.2.1⟩:_∧k_≠gb444))) (fun _ hk=>hk.2) (.slice Ao57 t458.length co57)) (fun _ hk=>hk.2) (.slice Ao59 t461.length co59)) (fun _ h_=>h_.1))) (zZ ho0) hb);have n1_:=Zk (yL (by (with_reducible repeat (first|apply zL|apply zK|apply zM));exact (zO (zS (p:=⟨gb444,2,none⟩) (zS (p:=⟨gb444,1,none⟩) (zO HO_445001.out (fun k_ hk=>(⟨hk,hk.1.1.2.2.2.2.1⟩:_∧k_≠gb444))) (fun _ hk=>hk.2) (.slice Ao57 t458.length co57)) (fun _ hk=>hk.2) (.slice Ao59 t461.length co59)) (fun _ h_=>h_.1))) (zZ ho0) hb);have n2_:=Zk (yL (by (with_reducible repeat (first|apply zL|apply zK|apply zM));exact (zO (zS (p:=⟨gb444,2,none⟩) (zS (p:=⟨gb444,1,none⟩) (zO HO_445002.out (fun k_ hk=>(⟨hk,hk.1.1.2.2.2.2.1⟩:_∧k_≠gb444))) (fun _ hk=>hk.2) (.slice Ao57 t458.length co57)) (fun _ hk=>hk.2) (.slice Ao59 t461.length co59)) (fun _ h_=>h_.1))) (zZ ho0) hb);have n3_:=Zk (yK (by (with_reducible repeat (first|apply zR|apply zQ|apply zU));exact (yB (zT (p:=⟨gb444,2,none⟩) (zT (p:=⟨gb444,1,none⟩) (zX HO451.out BK444.out (by decide)) (fun _ hk=>hk.2) (.slice Ao57 t458.length co57)) (fun _ hk=>hk.2) (.slice Ao59 t461.length co59)) (fun _ h_=>h_.1))) (zZ ho0) hb);have n4_:=Zk (yK (by (with_reducible repeat (first|apply zR|apply zQ|apply zU));exact (yB (zT (p:=⟨gb444,2,none⟩) (zT (p:=⟨gb444,1,none⟩) (zX HO454.out BK444.out (by decide)) (fun _ hk=>hk.2) (.slice Ao57 t458.length co57)) (fun _ hk=>hk.2) (.slice Ao59 t461.length co59)) (fun _ h_=>h_.1))) (zZ ho0) hb);have n5_:=Zk (yK (by (with_reducible repeat (first|apply zR|apply zQ|apply zU));exact (yB (zT (p:=⟨gb444,2,none⟩) (zT (p:=⟨gb444,1,none⟩) (zX HO457.out BK444.out (by decide)) (fun _ hk=>hk.2) (.slice Ao57 t458.length co57)) (fun _ hk=>hk.2) (.slice Ao59 t461.length co59)) (fun _ h_=>h_.1))) (zZ ho0) hb);have n6_:=Zk (yK (by (with_reducible repeat (first|apply zR|apply zQ|apply zU));exact (yB (zT (p:=⟨gb444,2,none⟩) (zT (p:=⟨gb444,1,none⟩) (zX HO460.out BK444.out (by decide)) (fun _ hk=>hk.2) (.slice Ao57 t458.length co57)) (fun _ hk=>hk.2) (.slice Ao59 t461.length co59)) (fun _ h_=>h_.1))) (zZ ho0) hb);have n7_:=Zk (yK (by (with_reducible repeat (first|apply zR|apply zQ|apply zU));exact (yB (zT (p:=⟨gb444,2,none⟩) (zT (p:=⟨gb444,1,none⟩) (zX HO463.out BK444.out (by decide)) (fun _ hk=>hk.2) (.slice Ao57 t458.length co57)) (fun _ hk=>hk.2) (.slice Ao59 t461.length co59)) (fun _ h_=>h_.1))) (zZ ho0) hb);have n8_:=Zk (yU (R_newB (yR (yR (yR (yR (yR (R_newM (M:=fun k_=>(w.heap.size≤k_)) ho0 (zP (by repeat (first|(with_reducible first|exact HB.out|apply zG|apply zD|apply zH|refine zC ?_ GE444.out|refine zC ?_ GE445.out|refine zC ?_ GE446.out)|exact HB.out))) (fun k_ h_=>h_)) (R_lt (by (with_reducible repeat (first|apply zR|apply zQ|apply zU));exact (yB (zT (p:=⟨gb444,2,none⟩) (zT (p:=⟨gb444,1,none⟩) (zX HO451.out BK444.out (by decide)) (fun _ hk=>hk.2) (.slice Ao57 t458.length co57)) (fun _ hk=>hk.2) (.slice Ao59 t461.length co59)) (fun _ h_=>h_.1))))) (R_lt (by (with_reducible repeat (first|apply zR|apply zQ|apply zU));exact (yB (zT (p:=⟨gb444,2,none⟩) (zT (p:=⟨gb444,1,none⟩) (zX HO454.out BK444.out (by decide)) (fun _ hk=>hk.2) (.slice Ao57 t458.length co57)) (fun _ hk=>hk.2) (.slice Ao59 t461.length co59)) (fun _ h_=>h_.1))))) (R_lt (by (with_reducible repeat (first|apply zR|apply zQ|apply zU));exact (yB (zT (p:=⟨gb444,2,none⟩) (zT (p:=⟨gb444,1,none⟩) (zX HO457.out BK444.out (by decide)) (fun _ hk=>hk.2) (.slice Ao57 t458.length co57)) (fun _ hk=>hk.2) (.slice Ao59 t461.length co59)) (fun _ h_=>h_.1))))) (R_lt (by (with_reducible repeat (first|apply zR|apply zQ|apply zU));exact (yB (zT (p:=⟨gb444,2,none⟩) (zT (p:=⟨gb444,1,none⟩) (zX HO460.out BK444.out (by decide)) (fun _ hk=>hk.2) (.slice Ao57 t458.length co57)) (fun _ hk=>hk.2) (.slice Ao59 t461.length co59)) (fun _ h_=>h_.1))))) (R_lt (by (with_reducible repeat (first|apply zR|apply zQ|apply zU));exact (yB (zT (p:=⟨gb444,2,none⟩) (zT (p:=⟨gb444,1,none⟩) (zX HO463.out BK444.out (by decide)) (fun _ hk=>hk.2) (.slice Ao57 t458.length co57)) (fun _ hk=>hk.2) (.slice Ao59 t461.length co59)) (fun _ h_=>h_.1))))) (g:=gb445) (o:=.cells #[.int .i64 a1] 3 (0,0)) (by (with_reducible repeat (first|refine zB ?_ _|refine zF ?_|refine zA ?_ _));refine zY ?_ NB445_444.out _;(with_reducible repeat (first|refine zB ?_ _|refine zF ?_|refine zA ?_ _));refine zY ?_ NB445_444.out _;(with_reducible repeat (first|refine zB ?_ _|refine zF ?_|refine zA ?_ _));exact BK445.out)) (zP (by repeat (first|(with_reducible first|exact HB.out|apply zG|apply zD|apply zH|refine zC ?_ GE444.out|refine zC ?_ GE445.out|refine zC ?_ GE446.out)|exact HB.out))));have n9_:=Zk (zW (g:=gb444) (o:=.cells #[.slice Ao49 t449.length co49,.slice Ao57 t458.length co57,.slice Ao59 t461.length co59] 30 (0,0)) (by (with_reducible repeat (first|refine zB ?_ _|refine zF ?_|refine zA ?_ _));refine yE (cs:=#[.slice Ao49 t449.length co49,.slice Ao57 t458.length co57,.slice Ao52 t455.length co52]) ?_ 2 _ rfl;(with_reducible repeat (first|refine zB ?_ _|refine zF ?_|refine zA ?_ _));refine yE (cs:=#[.slice Ao49 t449.length co49,.slice Ao51 t452.length co51,.slice Ao52 t455.length co52]) ?_ 1 _ rfl;(with_reducible repeat (first|refine zB ?_ _|refine zF ?_|refine zA ?_ _));exact BK444.out) hb);have n10_:=Zk (zW (g:=gb445) (o:=.cells #[.int .i64 a1] 3 (0,0)) (by (with_reducible repeat (first|refine zB ?_ _|refine zF ?_|refine zA ?_ _));refine zY ?_ NB445_444.out _;(with_reducible repeat (first|refine zB ?_ _|refine zF ?_|refine zA ?_ _));refine zY ?_ NB445_444.out _;(with_reducible repeat (first|refine zB ?_ _|refine zF ?_|refine zA ?_ _));exact BK445.out) hb);have n11_:=Zk (zW (g:=gb446) (o:=.cells #[.slice none 0 0,.slice none 0 0,.slice none 0 0] 30 (0,0)) (by (with_reducible repeat (first|refine zB ?_ _|refine zF ?_|refine zA ?_ _));refine zY ?_ NB446_444.out _;(with_reducible repeat (first|refine zB ?_ _|refine zF ?_|refine zA ?_ _));refine zY ?_ NB446_444.out _;(with_reducible repeat (first|refine zB ?_ _|refine zF ?_|refine zA ?_ _));exact BK446.out) hb);have n12_:=Zk (yA (by repeat (first|(with_reducible first|exact HB.out|apply zG|apply zD|apply zH|refine zC ?_ GE444.out|refine zC ?_ GE445.out|refine zC ?_ GE446.out)|exact HB.out)) hb);clear HO_445000;clear HO_445001;clear HO_445002;clear HO451;clear HO454;clear HO457;clear HO460;clear HO463;clear BK444;clear BK445;clear BK446;clear HB;have HO_445000:=n0_;have HO_445001:=n1_;have HO_445002:=n2_;have HO451:=n3_;have HO454:=n4_;have HO457:=n5_;have HO460:=n6_;have HO463:=n7_;have HO466:=n8_;have BK444:=n9_;have BK445:=n10_;have BK446:=n11_;have HB:=n12_;clear n0_ n1_ n2_ n3_ n4_ n5_ n6_ n7_ n8_ n9_ n10_ n11_ n12_;(try clear hb);(try clear hb2);(try clear hk);(try clear hi);(try clear ho0);obtain ⟨Ao65,co65,eo65⟩:=yQ HO466.out;subst eo65;have hcz66_0:w64.cell? ⟨gb444,0,none⟩=some (.slice Ao49 t449.length co49):=(zJ BK444.out 0).trans rfl;have hcz66_1:w64.cell? ⟨gb444,1,none⟩=some (.slice Ao57 t458.length co57):=(zJ BK444.out 1).trans rfl;have hcz66_2:w64.cell? ⟨gb444,2,none⟩=some (.slice Ao59 t461.length co59):=(zJ BK444.out 2).trans rfl;have hfz66_0:=zI BK444.out 0;have hfz66_1:=zI BK444.out 1;have hfz66_2:=zI BK444.out 2;have hcz67_0:w64.cell? ⟨gb445,0,none⟩=some (.int .i64 a1):=(zJ BK445.out 0).trans rfl;have hfz67_0:=zI BK445.out 0;have hcz68_0:w64.cell? ⟨gb446,0,none⟩=some (.slice none 0 0):=(zJ BK446.out 0).trans rfl;have hcz68_1:w64.cell? ⟨gb446,1,none⟩=some (.slice none 0 0):=(zJ BK446.out 1).trans rfl;have hcz68_2:w64.cell? ⟨gb446,2,none⟩=some (.slice none 0 0):=(zJ BK446.out 2).trans rfl;have hfz68_0:=zI BK446.out 0;have hfz68_1:=zI BK446.out 1;have hfz68_2:=zI BK446.out 2)|((with_reducible refine xA (t:=30) (p:=6) rfl ?_);refine yY (t:=30) (p:=6) (v:=?vo_w69) (w1:=((((w64.setCell ⟨gb444,1,none⟩ (.slice Ao65 t464.length co65)).setCell ⟨gb446,0,none⟩ (.slice Ao49 t449.length co49)).setCell ⟨gb446,1,none⟩ (.slice Ao65 t464.length co65)).setCell ⟨gb446,2,none⟩ (.slice Ao59 t461.length co59))) ?hg ?ho ?hn ?hr ?_;(case ho=>rfl);(case hg=>rfl);(case hn=>rfl);(case hr=>first|(go_simp;done)|(go_simp;rfl));intro w69 hw;have n0_:zN (Kd.V (Kd.int .i64) 3 w69 w.heap.size (fun k_=>((P0_0_ k_∨P0_1_ k_∨P0_2_ k_)∨w.heap.size≤k_)∧some k_≠(.slice Ao49 t449.length co49:Value).ownBlock∧some k_≠(.slice Ao51 t452.length co51:Value).ownBlock∧some k_≠(.slice Ao52 t455.length co52:Value).ownBlock∧some k_≠(.slice Ao57 t458.length co57:Value).ownBlock∧some k_≠(.slice Ao59 t461.length co59:Value).ownBlock∧some k_≠(.slice Ao65 t464.length co65:Value).ownBlock∧k_≠gb444∧k_≠gb445∧k_≠gb446) (.slice A0_0 l0_0.length c0_0) l0_0):=⟨(by rw [hw];exact (by (with_reducible repeat (first|apply zL|apply zK|apply zM));exact zO (zS (p:=⟨gb446,2,none⟩) (zS (p:=⟨gb446,1,none⟩) (zS (p:=⟨gb446,0,none⟩) (zS (p:=⟨gb444,1,none⟩) (zO (zO HO_445000.out (fun k_ hk=>(⟨hk,hk.1.1.1.2.2.2.2.1⟩:_∧k_≠gb444))) (fun k_ hk=>(⟨hk,hk.1.1.1.1.2.2.2.2.2.2⟩:_∧k_≠gb446))) (fun _ hk=>hk.1.2) (.slice Ao65 t464.length co65)) (fun _ hk=>hk.2) (.slice Ao49 t449.length co49)) (fun _ hk=>hk.2) (.slice Ao65 t464.length co65)) (fun _ hk=>hk.2) (.slice Ao59 t461.length co59)) (fun _ hk=>⟨hk.1.1.1.1.1.1,⟨hk.1.1.1.1.1.2.1,⟨hk.1.1.1.1.1.2.2.1,⟨hk.1.1.1.1.1.2.2.2.1,⟨hk.1.1.1.1.2,⟨hk.1.1.1.2,⟨hk.1.1.2,⟨hk.1.1.1.1.1.2.2.2.2.1,⟨hk.1.1.1.1.1.2.2.2.2.2.1,hk.1.1.1.1.1.2.2.2.2.2.2⟩⟩⟩⟩⟩⟩⟩⟩⟩)))⟩;have n1_:zN (Kd.V (Kd.int .i64) 3 w69 w.heap.size (fun k_=>((P0_0_ k_∨P0_1_ k_∨P0_2_ k_)∨w.heap.size≤k_)∧some k_≠(.slice Ao49 t449.length co49:Value).ownBlock∧some k_≠(.slice Ao51 t452.length co51:Value).ownBlock∧some k_≠(.slice Ao52 t455.length co52:Value).ownBlock∧some k_≠(.slice Ao57 t458.length co57:Value).ownBlock∧some k_≠(.slice Ao59 t461.length co59:Value).ownBlock∧some k_≠(.slice Ao65 t464.length co65:Value).ownBlock∧k_≠gb444∧k_≠gb445∧k_≠gb446) (.slice A0_1 l0_1.length c0_1) l0_1):=⟨(by rw [hw];exact (by (with_reducible repeat (first|apply zL|apply zK|apply zM));exact zO (zS (p:=⟨gb446,2,none⟩) (zS (p:=⟨gb446,1,none⟩) (zS (p:=⟨gb446,0,none⟩) (zS (p:=⟨gb444,1,none⟩) (zO (zO HO_445001.out (fun k_ hk=>(⟨hk,hk.1.1.1.2.2.2.2.1⟩:_∧k_≠gb444))) (fun k_ hk=>(⟨hk,hk.1.1.1.1.2.2.2.2.2.2⟩:_∧k_≠gb446))) (fun _ hk=>hk.1.2) (.slice Ao65 t464.length co65)) (fun _ hk=>hk.2) (.slice Ao49 t449.length co49)) (fun _ hk=>hk.2) (.slice Ao65 t464.length co65)) (fun _ hk=>hk.2) (.slice Ao59 t461.length co59)) (fun _ hk=>⟨hk.1.1.1.1.1.1,⟨hk.1.1.1.1.1.2.1,⟨hk.1.1.1.1.1.2.2.1,⟨hk.1.1.1.1.1.2.2.2.1,⟨hk.1.1.1.1.2,⟨hk.1.1.1.2,⟨hk.1.1.2,⟨hk.1.1.1.1.1.2.2.2.2.1,⟨hk.1.1.1.1.1.2.2.2.2.2.1,hk.1.1.1.1.1.2.2.2.2.2.2⟩⟩⟩⟩⟩⟩⟩⟩⟩)))⟩;have n2_:zN (Kd.V (Kd.int .i64) 3 w69 w.heap.size (fun k_=>((P0_0_ k_∨P0_1_ k_∨P0_2_ k_)∨w.heap.size≤k_)∧some k_≠(.slice Ao49 t449.length co49:Value).ownBlock∧some k_≠(.slice Ao51 t452.length co51:Value).ownBlock∧some k_≠(.slice Ao52 t455.length co52:Value).ownBlock∧some k_≠(.slice Ao57 t458.length co57:Value).ownBlock∧some k_≠(.slice Ao59 t461.length co59:Value).ownBlock∧some k_≠(.slice Ao65 t464.length co65:Value).ownBlock∧k_≠gb444∧k_≠gb445∧k_≠gb446) (.slice A0_2 l0_2.length c0_2) l0_2):=⟨(by rw [hw];exact (by (with_reducible repeat (first|apply zL|apply zK|apply zM));exact zO (zS (p:=⟨gb446,2,none⟩) (zS (p:=⟨gb446,1,none⟩) (zS (p:=⟨gb446,0,none⟩) (zS (p:=⟨gb444,1,none⟩) (zO (zO HO_445002.out (fun k_ hk=>(⟨hk,hk.1.1.1.2.2.2.2.1⟩:_∧k_≠gb444))) (fun k_ hk=>(⟨hk,hk.1.1.1.1.2.2.2.2.2.2⟩:_∧k_≠gb446))) (fun _ hk=>hk.1.2) (.slice Ao65 t464.length co65)) (fun _ hk=>hk.2) (.slice Ao49 t449.length co49)) (fun _ hk=>hk.2) (.slice Ao65 t464.length co65)) (fun _ hk=>hk.2) (.slice Ao59 t461.length co59)) (fun _ hk=>⟨hk.1.1.1.1.1.1,⟨hk.1.1.1.1.1.2.1,⟨hk.1.1.1.1.1.2.2.1,⟨hk.1.1.1.1.1.2.2.2.1,⟨hk.1.1.1.1.2,⟨hk.1.1.1.2,⟨hk.1.1.2,⟨hk.1.1.1.1.1.2.2.2.2.1,⟨hk.1.1.1.1.1.2.2.2.2.2.1,hk.1.1.1.1.1.2.2.2.2.2.2⟩⟩⟩⟩⟩⟩⟩⟩⟩)))⟩;have n3_:zN (Kd.R (Kd.int .i64) 3 w69 w.heap.size (fun k_=>(w.heap.size≤k_)∧some k_≠(.slice Ao51 t452.length co51:Value).ownBlock∧some k_≠(.slice Ao52 t455.length co52:Value).ownBlock∧some k_≠(.slice Ao57 t458.length co57:Value).ownBlock∧some k_≠(.slice Ao59 t461.length co59:Value).ownBlock∧some k_≠(.slice Ao65 t464.length co65:Value).ownBlock∧k_≠gb445) (.slice Ao49 t449.length co49) t449):=⟨(by rw [hw];exact (by (with_reducible repeat (first|apply zR|apply zQ|apply zU));exact yB (zT (p:=⟨gb446,2,none⟩) (zT (p:=⟨gb446,1,none⟩) (zT (p:=⟨gb446,0,none⟩) (zT (p:=⟨gb444,1,none⟩) (zX (zX HO451.out BK444.out (by decide)) BK446.out (by decide)) (fun _ hk=>hk.1.2) (.slice Ao65 t464.length co65)) (fun _ hk=>hk.2) (.slice Ao49 t449.length co49)) (fun _ hk=>hk.2) (.slice Ao65 t464.length co65)) (fun _ hk=>hk.2) (.slice Ao59 t461.length co59)) (fun _ hk=>⟨hk.1.1.1.1.1.1,⟨hk.1.1.1.1.1.2.1,⟨hk.1.1.1.1.1.2.2.1,⟨hk.1.1.1.1.2,⟨hk.1.1.1.2,⟨hk.1.1.2,hk.1.1.1.1.1.2.2.2⟩⟩⟩⟩⟩⟩)))⟩;have n4_:zN (Kd.R (Kd.int .i64) 3 w69 w.heap.size (fun k_=>(w.heap.size≤k_)∧some k_≠(.slice Ao49 t449.length co49:Value).ownBlock∧some k_≠(.slice Ao52 t455.length co52:Value).ownBlock∧some k_≠(.slice Ao57 t458.length co57:Value).ownBlock∧some k_≠(.slice Ao59 t461.length co59:Value).ownBlock∧some k_≠(.slice Ao65 t464.length co65:Value).ownBlock∧k_≠gb445) (.slice Ao51 t452.length co51) t452):=⟨(by rw [hw];exact (by (with_reducible repeat (first|apply zR|apply zQ|apply zU));exact yB (zT (p:=⟨gb446,2,none⟩) (zT (p:=⟨gb446,1,none⟩) (zT (p:=⟨gb446,0,none⟩) (zT (p:=⟨gb444,1,none⟩) (zX (zX HO454.out BK444.out (by decide)) BK446.out (by decide)) (fun _ hk=>hk.1.2) (.slice Ao65 t464.length co65)) (fun _ hk=>hk.2) (.slice Ao49 t449.length co49)) (fun _ hk=>hk.2) (.slice Ao65 t464.length co65)) (fun _ hk=>hk.2) (.slice Ao59 t461.length co59)) (fun _ hk=>⟨hk.1.1.1.1.1.1,⟨hk.1.1.1.1.1.2.1,⟨hk.1.1.1.1.1.2.2.1,⟨hk.1.1.1.1.2,⟨hk.1.1.1.2,⟨hk.1.1.2,hk.1.1.1.1.1.2.2.2⟩⟩⟩⟩⟩⟩)))⟩;have n5_:zN (Kd.R (Kd.int .i64) 3 w69 w.heap.size (fun k_=>(w.heap.size≤k_)∧some k_≠(.slice Ao49 t449.length co49:Value).ownBlock∧some k_≠(.slice Ao51 t452.length co51:Value).ownBlock∧some k_≠(.slice Ao57 t458.length co57:Value).ownBlock∧some k_≠(.slice Ao59 t461.length co59:Value).ownBlock∧some k_≠(.slice Ao65 t464.length co65:Value).ownBlock∧k_≠gb445) (.slice Ao52 t455.length co52) t455):=⟨(by rw [hw];exact (by (with_reducible repeat (first|apply zR|apply zQ|apply zU));exact yB (zT (p:=⟨gb446,2,none⟩) (zT (p:=⟨gb446,1,none⟩) (zT (p:=⟨gb446,0,none⟩) (zT (p:=⟨gb444,1,none⟩) (zX (zX HO457.out BK444.out (by decide)) BK446.out (by decide)) (fun _ hk=>hk.1.2) (.slice Ao65 t464.length co65)) (fun _ hk=>hk.2) (.slice Ao49 t449.length co49)) (fun _ hk=>hk.2) (.slice Ao65 t464.length co65)) (fun _ hk=>hk.2) (.slice Ao59 t461.length co59)) (fun _ hk=>⟨hk.1.1.1.1.1.1,⟨hk.1.1.1.1.1.2.1,⟨hk.1.1.1.1.1.2.2.1,⟨hk.1.1.1.1.2,⟨hk.1.1.1.2,⟨hk.1.1.2,hk.1.1.1.1.1.2.2.2⟩⟩⟩⟩⟩⟩)))⟩;have n6_:zN (Kd.R (Kd.int .i64) 3 w69 w.heap.size (fun k_=>(w.heap.size≤k_)∧some k_≠(.slice Ao49 t449.length co49:Value).ownBlock∧some k_≠(.slice Ao51 t452.length co51:Value).ownBlock∧some k_≠(.slice Ao52 t455.length co52:Value).ownBlock∧some k_≠(.slice Ao59 t461.length co59:Value).ownBlock∧some k_≠(.slice Ao65 t464.length co65:Value).ownBlock∧k_≠gb445) (.slice Ao57 t458.length co57) t458):=⟨(by rw [hw];exact (by (with_reducible repeat (first|apply zR|apply zQ|apply zU));exact yB (zT (p:=⟨gb446,2,none⟩) (zT (p:=⟨gb446,1,none⟩) (zT (p:=⟨gb446,0,none⟩) (zT (p:=⟨gb444,1,none⟩) (zX (zX HO460.out BK444.out (by decide)) BK446.out (by decide)) (fun _ hk=>hk.1.2) (.slice Ao65 t464.length co65)) (fun _ hk=>hk.2) (.slice Ao49 t449.length co49)) (fun _ hk=>hk.2) (.slice Ao65 t464.length co65)) (fun _ hk=>hk.2) (.slice Ao59 t461.length co59)) (fun _ hk=>⟨hk.1.1.1.1.1.1.1.1.1,⟨hk.1.1.1.1.1.1.1.2,⟨hk.1.1.1.1.1.1.2,⟨hk.1.1.1.1.1.2,⟨hk.1.1.1.2,⟨hk.1.1.2,hk.1.1.1.1.2⟩⟩⟩⟩⟩⟩)))⟩;have n7_:zN (Kd.R (Kd.int .i64) 3 w69 w.heap.size (fun k_=>(w.heap.size≤k_)∧some k_≠(.slice Ao49 t449.length co49:Value).ownBlock∧some k_≠(.slice Ao51 t452.length co51:Value).ownBlock∧some k_≠(.slice Ao52 t455.length co52:Value).ownBlock∧some k_≠(.slice Ao57 t458.length co57:Value).ownBlock∧some k_≠(.slice Ao65 t464.length co65:Value).ownBlock∧k_≠gb445) (.slice Ao59 t461.length co59) t461):=⟨(by rw [hw];exact (by (with_reducible repeat (first|apply zR|apply zQ|apply zU));exact yB (zT (p:=⟨gb446,2,none⟩) (zT (p:=⟨gb446,1,none⟩) (zT (p:=⟨gb446,0,none⟩) (zT (p:=⟨gb444,1,none⟩) (zX (zX HO463.out BK444.out (by decide)) BK446.out (by decide)) (fun _ hk=>hk.1.2) (.slice Ao65 t464.length co65)) (fun _ hk=>hk.2) (.slice Ao49 t449.length co49)) (fun _ hk=>hk.2) (.slice Ao65 t464.length co65)) (fun _ hk=>hk.2) (.slice Ao59 t461.length co59)) (fun _ hk=>⟨hk.1.1.1.1.1.1.1.1.1,⟨hk.1.1.1.1.1.1.1.2,⟨hk.1.1.1.1.1.1.2,⟨hk.1.1.1.1.1.2,⟨hk.1.1.1.1.2,⟨hk.1.1.2,hk.1.1.1.2⟩⟩⟩⟩⟩⟩)))⟩;have n8_:zN (Kd.R (Kd.int .i64) 3 w69 w.heap.size (fun k_=>(w.heap.size≤k_)∧some k_≠(.slice Ao49 t449.length co49:Value).ownBlock∧some k_≠(.slice Ao51 t452.length co51:Value).ownBlock∧some k_≠(.slice Ao52 t455.length co52:Value).ownBlock∧some k_≠(.slice Ao57 t458.length co57:Value).ownBlock∧some k_≠(.slice Ao59 t461.length co59:Value).ownBlock∧k_≠gb445) (.slice Ao65 t464.length co65) t464):=⟨(by rw [hw];exact (by (with_reducible repeat (first|apply zR|apply zQ|apply zU));exact yB (zT (p:=⟨gb446,2,none⟩) (zT (p:=⟨gb446,1,none⟩) (zT (p:=⟨gb446,0,none⟩) (zT (p:=⟨gb444,1,none⟩) (zX (zX HO466.out BK444.out (by decide)) BK446.out (by decide)) (fun _ hk=>hk.1.2) (.slice Ao65 t464.length co65)) (fun _ hk=>hk.2) (.slice Ao49 t449.length co49)) (fun _ hk=>hk.2) (.slice Ao65 t464.length co65)) (fun _ hk=>hk.2) (.slice Ao59 t461.length co59)) (fun _ hk=>⟨hk.1.1.1.1.1.1.1.1.1,⟨hk.1.1.1.1.1.1.1.2,⟨hk.1.1.1.1.1.1.2,⟨hk.1.1.1.1.1.2,⟨hk.1.1.1.1.2,⟨hk.1.1.1.2,hk.1.1.2⟩⟩⟩⟩⟩⟩)))⟩;have n9_:zN (w69.heap[gb444]?=some (.cells #[.slice Ao49 t449.length co49,.slice Ao65 t464.length co65,.slice Ao59 t461.length co59] 30 (0,0))):=⟨(by rw [hw];exact (by (with_reducible repeat (first|refine zB ?_ _|refine zF ?_|refine zA ?_ _));refine zY ?_ NB444_446.out _;(with_reducible repeat (first|refine zB ?_ _|refine zF ?_|refine zA ?_ _));refine zY ?_ NB444_446.out _;(with_reducible repeat (first|refine zB ?_ _|refine zF ?_|refine zA ?_ _));refine zY ?_ NB444_446.out _;(with_reducible repeat (first|refine zB ?_ _|refine zF ?_|refine zA ?_ _));refine yE (cs:=#[.slice Ao49 t449.length co49,.slice Ao57 t458.length co57,.slice Ao59 t461.length co59]) ?_ 1 _ rfl;(with_reducible repeat (first|refine zB ?_ _|refine zF ?_|refine zA ?_ _));exact BK444.out))⟩;have n10_:zN (w69.heap[gb445]?=some (.cells #[.int .i64 a1] 3 (0,0))):=⟨(by rw [hw];exact (by (with_reducible repeat (first|refine zB ?_ _|refine zF ?_|refine zA ?_ _));refine zY ?_ NB445_446.out _;(with_reducible repeat (first|refine zB ?_ _|refine zF ?_|refine zA ?_ _));refine zY ?_ NB445_446.out _;(with_reducible repeat (first|refine zB ?_ _|refine zF ?_|refine zA ?_ _));refine zY ?_ NB445_446.out _;(with_reducible repeat (first|refine zB ?_ _|refine zF ?_|refine zA ?_ _));refine zY ?_ NB445_444.out _;(with_reducible repeat (first|refine zB ?_ _|refine zF ?_|refine zA ?_ _));exact BK445.out))⟩;have n11_:zN (w69.heap[gb446]?=some (.cells #[.slice Ao49 t449.length co49,.slice Ao65 t464.length co65,.slice Ao59 t461.length co59] 30 (0,0))):=⟨(by rw [hw];exact (by (with_reducible repeat (first|refine zB ?_ _|refine zF ?_|refine zA ?_ _));refine yE (cs:=#[.slice Ao49 t449.length co49,.slice Ao65 t464.length co65,.slice none 0 0]) ?_ 2 _ rfl;(with_reducible repeat (first|refine zB ?_ _|refine zF ?_|refine zA ?_ _));refine yE (cs:=#[.slice Ao49 t449.length co49,.slice none 0 0,.slice none 0 0]) ?_ 1 _ rfl;(with_reducible repeat (first|refine zB ?_ _|refine zF ?_|refine zA ?_ _));refine yE (cs:=#[.slice none 0 0,.slice none 0 0,.slice none 0 0]) ?_ 0 _ rfl;(with_reducible repeat (first|refine zB ?_ _|refine zF ?_|refine zA ?_ _));refine zY ?_ NB446_444.out _;(with_reducible repeat (first|refine zB ?_ _|refine zF ?_|refine zA ?_ _));exact BK446.out))⟩;have n12_:zN (Below w.heap.size w w69):=⟨(by rw [hw];exact (by repeat (first|(with_reducible first|exact HB.out|apply zG|apply zD|apply zH|refine zC ?_ GE444.out|refine zC ?_ GE445.out|refine zC ?_ GE446.out)|exact HB.out)))⟩;clear hw;clear HO_445000;clear HO_445001;clear HO_445002;clear HO451;clear HO454;clear HO457;clear HO460;clear HO463;clear HO466;clear BK444;clear BK445;clear BK446;clear HB;have HO_445000:=n0_;have HO_445001:=n1_;have HO_445002:=n2_;have HO451:=n3_;have HO454:=n4_;have HO457:=n5_;have HO460:=n6_;have HO463:=n7_;have HO466:=n8_;have BK444:=n9_;have BK445:=n10_;have BK446:=n11_;have HB:=n12_;clear n0_ n1_ n2_ n3_ n4_ n5_ n6_ n7_ n8_ n9_ n10_ n11_ n12_))
      refine bodyPost_ret (results_ct rfl _ _ gb446 30 #[.slice Ao49 t449.length co49,.slice Ao65 t464.length co65,.slice Ao59 t461.length co59] (0,0) _ rfl (by (with_reducible repeat (first|refine zB ?_ _|refine zF ?_|refine zA ?_ _));exact BK446.out) Tryd.underlying30 rfl (by kernel_rfl)) rfl ?_
      exact ⟨_,_,_,by first|rfl|(simp [errW_none,errW_some] <;> rfl)|(simp [*,errW_none,errW_some] <;> rfl),zO (R_V (by (with_reducible repeat (first|apply zR|apply zQ|apply zU));exact yB HO451.out (fun _ hk=>hk.1))) (fun k_ hk=>by first|exact ⟨(.inr (hk.1)),hk.2⟩|exact (.inr (hk))),zO (R_V (by (with_reducible repeat (first|apply zR|apply zQ|apply zU));exact yB HO466.out (fun _ hk=>hk.1))) (fun k_ hk=>by first|exact ⟨(.inr (hk.1)),hk.2⟩|exact (.inr (hk))),zO (R_V (by (with_reducible repeat (first|apply zR|apply zQ|apply zU));exact yB HO463.out (fun _ hk=>hk.1))) (fun k_ hk=>by first|exact ⟨(.inr (hk.1)),hk.2⟩|exact (.inr (hk))),by repeat (first|(with_reducible first|exact HB.out|apply zG|apply zD|apply zH|refine zC ?_ GE444.out|refine zC ?_ GE445.out|refine zC ?_ GE446.out)|exact HB.out)⟩
     ·rw [if_neg c44] at H
      have c44b0:(a1 == 18)=false:=beq_eq_false_iff_ne.mpr c44
      have c44b1:(a1 != 18)=true:=bne_iff_ne.mpr c44
      replace H:=Option.bind_eq_some_iff.mp H
      obtain ⟨t467,A700,H⟩:=H
      replace H:(some (t467,t464,t461,0))=some (r1,r2,r3,r4):=H
      have A70:=Zk A700
      clear A700
      simp only [Option.some.injEq,Prod.mk.injEq] at H
      obtain ⟨rfl,rfl,rfl,rfl⟩:=H
      have hnb71:=NB444_445.out
      have hnc71:=NB445_444.out
      have hnb72:=NB444_446.out
      have hnc72:=NB446_444.out
      have hcz73_0:wc.cell? ⟨gb444,0,none⟩=some (.slice A0_0 l0_0.length c0_0):=(zJ BK444.out 0).trans rfl
      have hcz73_1:wc.cell? ⟨gb444,1,none⟩=some (.slice A0_1 l0_1.length c0_1):=(zJ BK444.out 1).trans rfl
      have hcz73_2:wc.cell? ⟨gb444,2,none⟩=some (.slice A0_2 l0_2.length c0_2):=(zJ BK444.out 2).trans rfl
      have hfz73_0:=zI BK444.out 0
      have hfz73_1:=zI BK444.out 1
      have hfz73_2:=zI BK444.out 2
      try go_wp2_with (first|((with_reducible refine yD (f:=39) rfl ?_);refine yM (some 27) rfl rfl Tryd.func39 (by kernel_rfl) rfl #[.agg #[.slice A0_0 l0_0.length c0_0,.slice A0_1 l0_1.length c0_1,.slice A0_2 l0_2.length c0_2]] rfl (by (try simp only [List.map_toArray,List.map_cons,List.map_nil]);first|done|rfl|(simp only [List.length_drop,List.length_take];rfl)) ?_;(with_reducible refine (signal_copied.calls _ _ l0_0 _ _ l0_1 _ _ l0_2 t449 t452 t455 _ ?side1 ?side2 ?side3 ?side4 ?side5 ?side6 A39.out).mono ?_);(case side1=>repeat (first|exact (yH HO_445000.out).2.2|(with_reducible refine yG ?_ _)|(with_reducible refine yF ?_ _)|(with_reducible refine yI ?_)));(case side2=>exact (yH HO_445000.out).2.1);(case side3=>repeat (first|exact (yH HO_445001.out).2.2|(with_reducible refine yG ?_ _)|(with_reducible refine yF ?_ _)|(with_reducible refine yI ?_)));(case side4=>exact (yH HO_445001.out).2.1);(case side5=>repeat (first|exact (yH HO_445002.out).2.2|(with_reducible refine yG ?_ _)|(with_reducible refine yF ?_ _)|(with_reducible refine yI ?_)));(case side6=>exact (yH HO_445002.out).2.1);rintro e w74 ⟨v450,v453,v456,rfl,ho0,ho1,ho2,hb⟩;refine ⟨_,rfl,?_⟩;have n0_:=Zk (zO (yO (yO (yO (V_old (by (with_reducible repeat (first|apply zL|apply zK|apply zM));exact HO_445000.out) hb) (zZ ho0)) (zZ ho1)) (zZ ho2)) (fun _ h_=>h_.1));have n1_:=Zk (zO (yO (yO (yO (V_old (by (with_reducible repeat (first|apply zL|apply zK|apply zM));exact HO_445001.out) hb) (zZ ho0)) (zZ ho1)) (zZ ho2)) (fun _ h_=>h_.1));have n2_:=Zk (zO (yO (yO (yO (V_old (by (with_reducible repeat (first|apply zL|apply zK|apply zM));exact HO_445002.out) hb) (zZ ho0)) (zZ ho1)) (zZ ho2)) (fun _ h_=>h_.1));have n3_:=Zk (yU (R_newB (R_newM (M:=fun k_=>(w.heap.size≤k_)) ho0 (zP (by repeat (first|(with_reducible first|exact HB.out|apply zG|apply zD|apply zH|refine zC ?_ GE444.out|refine zC ?_ GE445.out|refine zC ?_ GE446.out)|exact HB.out))) (fun k_ h_=>h_)) (g:=gb445) (o:=.cells #[.int .i64 a1] 3 (0,0)) (by (with_reducible repeat (first|refine zB ?_ _|refine zF ?_|refine zA ?_ _));exact BK445.out)) (zP (by repeat (first|(with_reducible first|exact HB.out|apply zG|apply zD|apply zH|refine zC ?_ GE444.out|refine zC ?_ GE445.out|refine zC ?_ GE446.out)|exact HB.out))));have n4_:=Zk (yU (R_newB (R_newM (M:=fun k_=>(w.heap.size≤k_)) ho1 (zP (by repeat (first|(with_reducible first|exact HB.out|apply zG|apply zD|apply zH|refine zC ?_ GE444.out|refine zC ?_ GE445.out|refine zC ?_ GE446.out)|exact HB.out))) (fun k_ h_=>h_)) (g:=gb445) (o:=.cells #[.int .i64 a1] 3 (0,0)) (by (with_reducible repeat (first|refine zB ?_ _|refine zF ?_|refine zA ?_ _));exact BK445.out)) (zP (by repeat (first|(with_reducible first|exact HB.out|apply zG|apply zD|apply zH|refine zC ?_ GE444.out|refine zC ?_ GE445.out|refine zC ?_ GE446.out)|exact HB.out))));have n5_:=Zk (yU (R_newB (R_newM (M:=fun k_=>(w.heap.size≤k_)) ho2 (zP (by repeat (first|(with_reducible first|exact HB.out|apply zG|apply zD|apply zH|refine zC ?_ GE444.out|refine zC ?_ GE445.out|refine zC ?_ GE446.out)|exact HB.out))) (fun k_ h_=>h_)) (g:=gb445) (o:=.cells #[.int .i64 a1] 3 (0,0)) (by (with_reducible repeat (first|refine zB ?_ _|refine zF ?_|refine zA ?_ _));exact BK445.out)) (zP (by repeat (first|(with_reducible first|exact HB.out|apply zG|apply zD|apply zH|refine zC ?_ GE444.out|refine zC ?_ GE445.out|refine zC ?_ GE446.out)|exact HB.out))));have n6_:=Zk (zW (g:=gb444) (o:=.cells #[.slice A0_0 l0_0.length c0_0,.slice A0_1 l0_1.length c0_1,.slice A0_2 l0_2.length c0_2] 30 (0,0)) (by (with_reducible repeat (first|refine zB ?_ _|refine zF ?_|refine zA ?_ _));exact BK444.out) hb);have n7_:=Zk (zW (g:=gb445) (o:=.cells #[.int .i64 a1] 3 (0,0)) (by (with_reducible repeat (first|refine zB ?_ _|refine zF ?_|refine zA ?_ _));exact BK445.out) hb);have n8_:=Zk (zW (g:=gb446) (o:=.cells #[.slice none 0 0,.slice none 0 0,.slice none 0 0] 30 (0,0)) (by (with_reducible repeat (first|refine zB ?_ _|refine zF ?_|refine zA ?_ _));exact BK446.out) hb);have n9_:=Zk (yA (by repeat (first|(with_reducible first|exact HB.out|apply zG|apply zD|apply zH|refine zC ?_ GE444.out|refine zC ?_ GE445.out|refine zC ?_ GE446.out)|exact HB.out)) hb);clear HO_445000;clear HO_445001;clear HO_445002;clear BK444;clear BK445;clear BK446;clear HB;have HO_445000:=n0_;have HO_445001:=n1_;have HO_445002:=n2_;have HO451:=n3_;have HO454:=n4_;have HO457:=n5_;have BK444:=n6_;have BK445:=n7_;have BK446:=n8_;have HB:=n9_;clear n0_ n1_ n2_ n3_ n4_ n5_ n6_ n7_ n8_ n9_;(try clear hb);(try clear hb2);(try clear hk);(try clear hi);(try clear ho0);(try clear ho1);(try clear ho2);obtain ⟨Ao75,co75,eo75⟩:=yQ HO451.out;subst eo75;have hcz76_0:w74.cell? ⟨gb444,0,none⟩=some (.slice A0_0 l0_0.length c0_0):=(zJ BK444.out 0).trans rfl;have hcz76_1:w74.cell? ⟨gb444,1,none⟩=some (.slice A0_1 l0_1.length c0_1):=(zJ BK444.out 1).trans rfl;have hcz76_2:w74.cell? ⟨gb444,2,none⟩=some (.slice A0_2 l0_2.length c0_2):=(zJ BK444.out 2).trans rfl;have hfz76_0:=zI BK444.out 0;have hfz76_1:=zI BK444.out 1;have hfz76_2:=zI BK444.out 2;obtain ⟨Ao77,co77,eo77⟩:=yQ HO454.out;subst eo77;obtain ⟨Ao78,co78,eo78⟩:=yQ HO457.out;subst eo78)|((with_reducible refine xA (t:=30) (p:=3) rfl ?_);refine yY (t:=30) (p:=3) (v:=?vo_w79) (w1:=(((w74.setCell ⟨gb444,0,none⟩ (.slice Ao75 t449.length co75)).setCell ⟨gb444,1,none⟩ (.slice Ao77 t452.length co77)).setCell ⟨gb444,2,none⟩ (.slice Ao78 t455.length co78))) ?hg ?ho ?hn ?hr ?_;(case ho=>rfl);(case hg=>rfl);(case hn=>rfl);(case hr=>first|(go_simp;done)|(go_simp;rfl));intro w79 hw;have n0_:zN (Kd.V (Kd.int .i64) 3 w79 w.heap.size (fun k_=>((P0_0_ k_∨P0_1_ k_∨P0_2_ k_)∨w.heap.size≤k_)∧some k_≠(.slice Ao75 t449.length co75:Value).ownBlock∧some k_≠(.slice Ao77 t452.length co77:Value).ownBlock∧some k_≠(.slice Ao78 t455.length co78:Value).ownBlock∧k_≠gb444∧k_≠gb445∧k_≠gb446) (.slice A0_0 l0_0.length c0_0) l0_0):=⟨(by rw [hw];exact (by (with_reducible repeat (first|apply zL|apply zK|apply zM));exact zO (zS (p:=⟨gb444,2,none⟩) (zS (p:=⟨gb444,1,none⟩) (zS (p:=⟨gb444,0,none⟩) (zO HO_445000.out (fun k_ hk=>(⟨hk,hk.1.1.1.2.1⟩:_∧k_≠gb444))) (fun _ hk=>hk.2) (.slice Ao75 t449.length co75)) (fun _ hk=>hk.2) (.slice Ao77 t452.length co77)) (fun _ hk=>hk.2) (.slice Ao78 t455.length co78)) (fun _ hk=>⟨hk.1.1.1.1.1,⟨hk.1.1.1.2,⟨hk.1.1.2,⟨hk.1.2,⟨hk.1.1.1.1.2.1,⟨hk.1.1.1.1.2.2.1,hk.1.1.1.1.2.2.2⟩⟩⟩⟩⟩⟩)))⟩;have n1_:zN (Kd.V (Kd.int .i64) 3 w79 w.heap.size (fun k_=>((P0_0_ k_∨P0_1_ k_∨P0_2_ k_)∨w.heap.size≤k_)∧some k_≠(.slice Ao75 t449.length co75:Value).ownBlock∧some k_≠(.slice Ao77 t452.length co77:Value).ownBlock∧some k_≠(.slice Ao78 t455.length co78:Value).ownBlock∧k_≠gb444∧k_≠gb445∧k_≠gb446) (.slice A0_1 l0_1.length c0_1) l0_1):=⟨(by rw [hw];exact (by (with_reducible repeat (first|apply zL|apply zK|apply zM));exact zO (zS (p:=⟨gb444,2,none⟩) (zS (p:=⟨gb444,1,none⟩) (zS (p:=⟨gb444,0,none⟩) (zO HO_445001.out (fun k_ hk=>(⟨hk,hk.1.1.1.2.1⟩:_∧k_≠gb444))) (fun _ hk=>hk.2) (.slice Ao75 t449.length co75)) (fun _ hk=>hk.2) (.slice Ao77 t452.length co77)) (fun _ hk=>hk.2) (.slice Ao78 t455.length co78)) (fun _ hk=>⟨hk.1.1.1.1.1,⟨hk.1.1.1.2,⟨hk.1.1.2,⟨hk.1.2,⟨hk.1.1.1.1.2.1,⟨hk.1.1.1.1.2.2.1,hk.1.1.1.1.2.2.2⟩⟩⟩⟩⟩⟩)))⟩;have n2_:zN (Kd.V (Kd.int .i64) 3 w79 w.heap.size (fun k_=>((P0_0_ k_∨P0_1_ k_∨P0_2_ k_)∨w.heap.size≤k_)∧some k_≠(.slice Ao75 t449.length co75:Value).ownBlock∧some k_≠(.slice Ao77 t452.length co77:Value).ownBlock∧some k_≠(.slice Ao78 t455.length co78:Value).ownBlock∧k_≠gb444∧k_≠gb445∧k_≠gb446) (.slice A0_2 l0_2.length c0_2) l0_2):=⟨(by rw [hw];exact (by (with_reducible repeat (first|apply zL|apply zK|apply zM));exact zO (zS (p:=⟨gb444,2,none⟩) (zS (p:=⟨gb444,1,none⟩) (zS (p:=⟨gb444,0,none⟩) (zO HO_445002.out (fun k_ hk=>(⟨hk,hk.1.1.1.2.1⟩:_∧k_≠gb444))) (fun _ hk=>hk.2) (.slice Ao75 t449.length co75)) (fun _ hk=>hk.2) (.slice Ao77 t452.length co77)) (fun _ hk=>hk.2) (.slice Ao78 t455.length co78)) (fun _ hk=>⟨hk.1.1.1.1.1,⟨hk.1.1.1.2,⟨hk.1.1.2,⟨hk.1.2,⟨hk.1.1.1.1.2.1,⟨hk.1.1.1.1.2.2.1,hk.1.1.1.1.2.2.2⟩⟩⟩⟩⟩⟩)))⟩;have n3_:zN (Kd.R (Kd.int .i64) 3 w79 w.heap.size (fun k_=>(w.heap.size≤k_)∧some k_≠(.slice Ao77 t452.length co77:Value).ownBlock∧some k_≠(.slice Ao78 t455.length co78:Value).ownBlock∧k_≠gb445) (.slice Ao75 t449.length co75) t449):=⟨(by rw [hw];exact (by (with_reducible repeat (first|apply zR|apply zQ|apply zU));exact yB (zT (p:=⟨gb444,2,none⟩) (zT (p:=⟨gb444,1,none⟩) (zT (p:=⟨gb444,0,none⟩) (zX HO451.out BK444.out (by decide)) (fun _ hk=>hk.2) (.slice Ao75 t449.length co75)) (fun _ hk=>hk.2) (.slice Ao77 t452.length co77)) (fun _ hk=>hk.2) (.slice Ao78 t455.length co78)) (fun _ hk=>⟨hk.1.1.1,⟨hk.1.1.2.1,⟨hk.1.1.2.2,hk.1.2⟩⟩⟩)))⟩;have n4_:zN (Kd.R (Kd.int .i64) 3 w79 w.heap.size (fun k_=>(w.heap.size≤k_)∧some k_≠(.slice Ao75 t449.length co75:Value).ownBlock∧some k_≠(.slice Ao78 t455.length co78:Value).ownBlock∧k_≠gb445) (.slice Ao77 t452.length co77) t452):=⟨(by rw [hw];exact (by (with_reducible repeat (first|apply zR|apply zQ|apply zU));exact yB (zT (p:=⟨gb444,2,none⟩) (zT (p:=⟨gb444,1,none⟩) (zT (p:=⟨gb444,0,none⟩) (zX HO454.out BK444.out (by decide)) (fun _ hk=>hk.2) (.slice Ao75 t449.length co75)) (fun _ hk=>hk.2) (.slice Ao77 t452.length co77)) (fun _ hk=>hk.2) (.slice Ao78 t455.length co78)) (fun _ hk=>⟨hk.1.1.1,⟨hk.1.1.2.1,⟨hk.1.1.2.2,hk.1.2⟩⟩⟩)))⟩;have n5_:zN (Kd.R (Kd.int .i64) 3 w79 w.heap.size (fun k_=>(w.heap.size≤k_)∧some k_≠(.slice Ao75 t449.length co75:Value).ownBlock∧some k_≠(.slice Ao77 t452.length co77:Value).ownBlock∧k_≠gb445) (.slice Ao78 t455.length co78) t455):=⟨(by rw [hw];exact (by (with_reducible repeat (first|apply zR|apply zQ|apply zU));exact yB (zT (p:=⟨gb444,2,none⟩) (zT (p:=⟨gb444,1,none⟩) (zT (p:=⟨gb444,0,none⟩) (zX HO457.out BK444.out (by decide)) (fun _ hk=>hk.2) (.slice Ao75 t449.length co75)) (fun _ hk=>hk.2) (.slice Ao77 t452.length co77)) (fun _ hk=>hk.2) (.slice Ao78 t455.length co78)) (fun _ hk=>⟨hk.1.1.1,⟨hk.1.1.2.1,⟨hk.1.1.2.2,hk.1.2⟩⟩⟩)))⟩;have n6_:zN (w79.heap[gb444]?=some (.cells #[.slice Ao75 t449.length co75,.slice Ao77 t452.length co77,.slice Ao78 t455.length co78] 30 (0,0))):=⟨(by rw [hw];exact (by (with_reducible repeat (first|refine zB ?_ _|refine zF ?_|refine zA ?_ _));refine yE (cs:=#[.slice Ao75 t449.length co75,.slice Ao77 t452.length co77,.slice A0_2 l0_2.length c0_2]) ?_ 2 _ rfl;(with_reducible repeat (first|refine zB ?_ _|refine zF ?_|refine zA ?_ _));refine yE (cs:=#[.slice Ao75 t449.length co75,.slice A0_1 l0_1.length c0_1,.slice A0_2 l0_2.length c0_2]) ?_ 1 _ rfl;(with_reducible repeat (first|refine zB ?_ _|refine zF ?_|refine zA ?_ _));refine yE (cs:=#[.slice A0_0 l0_0.length c0_0,.slice A0_1 l0_1.length c0_1,.slice A0_2 l0_2.length c0_2]) ?_ 0 _ rfl;(with_reducible repeat (first|refine zB ?_ _|refine zF ?_|refine zA ?_ _));exact BK444.out))⟩;have n7_:zN (w79.heap[gb445]?=some (.cells #[.int .i64 a1] 3 (0,0))):=⟨(by rw [hw];exact (by (with_reducible repeat (first|refine zB ?_ _|refine zF ?_|refine zA ?_ _));refine zY ?_ NB445_444.out _;(with_reducible repeat (first|refine zB ?_ _|refine zF ?_|refine zA ?_ _));refine zY ?_ NB445_444.out _;(with_reducible repeat (first|refine zB ?_ _|refine zF ?_|refine zA ?_ _));refine zY ?_ NB445_444.out _;(with_reducible repeat (first|refine zB ?_ _|refine zF ?_|refine zA ?_ _));exact BK445.out))⟩;have n8_:zN (w79.heap[gb446]?=some (.cells #[.slice none 0 0,.slice none 0 0,.slice none 0 0] 30 (0,0))):=⟨(by rw [hw];exact (by (with_reducible repeat (first|refine zB ?_ _|refine zF ?_|refine zA ?_ _));refine zY ?_ NB446_444.out _;(with_reducible repeat (first|refine zB ?_ _|refine zF ?_|refine zA ?_ _));refine zY ?_ NB446_444.out _;(with_reducible repeat (first|refine zB ?_ _|refine zF ?_|refine zA ?_ _));refine zY ?_ NB446_444.out _;(with_reducible repeat (first|refine zB ?_ _|refine zF ?_|refine zA ?_ _));exact BK446.out))⟩;have n9_:zN (Below w.heap.size w w79):=⟨(by rw [hw];exact (by repeat (first|(with_reducible first|exact HB.out|apply zG|apply zD|apply zH|refine zC ?_ GE444.out|refine zC ?_ GE445.out|refine zC ?_ GE446.out)|exact HB.out)))⟩;clear hw;clear HO_445000;clear HO_445001;clear HO_445002;clear HO451;clear HO454;clear HO457;clear BK444;clear BK445;clear BK446;clear HB;have HO_445000:=n0_;have HO_445001:=n1_;have HO_445002:=n2_;have HO451:=n3_;have HO454:=n4_;have HO457:=n5_;have BK444:=n6_;have BK445:=n7_;have BK446:=n8_;have HB:=n9_;clear n0_ n1_ n2_ n3_ n4_ n5_ n6_ n7_ n8_ n9_))
      have n0_:=Zk (zM HO_445000.out)
      have n1_:=Zk (zM HO_445001.out)
      have n2_:=Zk (zM HO_445002.out)
      have n3_:=Zk (zU HO451.out)
      have n4_:=Zk (zU HO454.out)
      have n5_:=Zk (zU HO457.out)
      have n6_:=Zk (zF BK444.out)
      have n7_:=Zk (zF BK445.out)
      have n8_:=Zk (zF BK446.out)
      have n9_:=Zk (zH HB.out)
      clear HO_445000
      clear HO_445001
      clear HO_445002
      clear HO451
      clear HO454
      clear HO457
      clear BK444
      clear BK445
      clear BK446
      clear HB
      have HO_445000:=n0_
      have HO_445001:=n1_
      have HO_445002:=n2_
      have HO451:=n3_
      have HO454:=n4_
      have HO457:=n5_
      have BK444:=n6_
      have BK445:=n7_
      have BK446:=n8_
      have HB:=n9_
      clear n0_ n1_ n2_ n3_ n4_ n5_ n6_ n7_ n8_ n9_
      refine start_ (n:=12) (S:=fun w'=>w'.cell? ⟨gb444,0,none⟩=some (.slice Ao75 t449.length co75)∧w'.cell? ⟨gb444,1,none⟩=some (.slice Ao77 t452.length co77)∧w'.cell? ⟨gb444,2,none⟩=some (.slice Ao78 t455.length co78)) (ds:=[9,11]) #[false,false,false,false,false,false,false,false,false,false,false,false] (by kernel_rfl) rfl rfl ⟨(zJ BK444.out 0).trans rfl,(zJ BK444.out 1).trans rfl,(zJ BK444.out 2).trans rfl⟩ (fun hHeld=>?_);refine with_tabW signal_Set.tab5 signal_Set.bits5 (fun HT_ HW_=>?_)
      generalize w79.drew=w80 at HO_445000 HO_445001 HO_445002 HO451 HO454 HO457 BK444 BK445 BK446 HB hHeld ⊢
      refine pure_ (i:=0) (N:=some 28) (v:=?_) (a':=?_) #[true,false,false,false,false,false,false,false,false,false,false,false] rfl rfl (any_of HT_.out (by kernel_rfl)) (fun _ _ _ h=>h) (Or.inl ⟨by rfl,?_⟩) ?_ ?_
      rotate_left
      ·intro w'
       go_simp
       with_reducible rfl
      rotate_left
      ·simp only [Act.put,List.setIfInBounds_toArray,List.set_cons_zero,List.set_cons_succ,yX,i32_w]
       rfl
      refine pure_ (i:=2) (N:=some 30) (v:=?_) (a':=?_) #[true,false,true,false,false,false,false,false,false,false,false,false] rfl rfl (any_of HT_.out (by kernel_rfl)) (fun _ _ _ h=>h) (Or.inl ⟨by rfl,?_⟩) ?_ ?_
      rotate_left
      ·intro w'
       go_simp
       with_reducible rfl
      rotate_left
      ·simp only [Act.put,List.setIfInBounds_toArray,List.set_cons_zero,List.set_cons_succ,yX,i32_w]
       rfl
      refine pure_ (i:=4) (N:=some 32) (v:=?_) (a':=?_) #[true,false,true,false,true,false,false,false,false,false,false,false] rfl rfl (any_of HT_.out (by kernel_rfl)) (fun _ _ _ h=>h) (Or.inl ⟨by rfl,?_⟩) ?_ ?_
      rotate_left
      ·intro w'
       go_simp
       with_reducible rfl
      rotate_left
      ·simp only [Act.put,List.setIfInBounds_toArray,List.set_cons_zero,List.set_cons_succ,yX,i32_w]
       rfl
      refine pure_ (i:=6) (N:=some 34) (v:=?_) (a':=?_) #[true,false,true,false,true,false,true,false,false,false,false,false] rfl rfl (any_of HT_.out (by kernel_rfl)) (fun _ _ _ h=>h) (Or.inl ⟨by rfl,?_⟩) ?_ ?_
      rotate_left
      ·intro w'
       go_simp
       with_reducible rfl
      rotate_left
      ·simp only [Act.put,List.setIfInBounds_toArray,List.set_cons_zero,List.set_cons_succ,yX,i32_w]
       rfl
      refine take_ (i:=1) (N:=some 29) (v:=?_) (a':=?_) #[true,true,true,false,true,false,true,false,false,false,false,false] rfl rfl (take_ofW HT_.out HW_.out (by kernel_rfl)) (fun _ _ _ h=>h) (Or.inl ⟨by rfl,?_⟩) hHeld ?_ ?_
      rotate_left
      ·rintro w' ⟨s0,s1,s2⟩
       go_simp
       with_reducible rfl
      rotate_left
      ·simp only [Act.put,List.setIfInBounds_toArray,List.set_cons_zero,List.set_cons_succ,yX,i32_w]
       rfl
      refine take_ (i:=5) (N:=some 33) (v:=?_) (a':=?_) #[true,true,true,false,true,true,true,false,false,false,false,false] rfl rfl (take_ofW HT_.out HW_.out (by kernel_rfl)) (fun _ _ _ h=>h) (Or.inl ⟨by rfl,?_⟩) hHeld ?_ ?_
      rotate_left
      ·rintro w' ⟨s0,s1,s2⟩
       go_simp
       with_reducible rfl
      rotate_left
      ·simp only [Act.put,List.setIfInBounds_toArray,List.set_cons_zero,List.set_cons_succ,yX,i32_w]
       rfl
      refine one_ (i:=3) (N:=some 31) #[true,true,true,true,true,true,true,false,false,false,false,false] rfl rfl (one_of HT_.out (by kernel_rfl)) (by decide) (fun K hK=>?_)
      refine goes_ Tryd.func40 (by kernel_rfl) rfl #[.slice Ao77 t452.length co77,.func (.func 48) #[] #[.pointer (some ⟨gb445,0,none⟩)]] (by rfl) rfl rfl (by (try simp only [List.map_toArray,List.map_cons,List.map_nil]);first|done|rfl|(simp only [List.length_drop,List.length_take];rfl)) ?_
      with_reducible refine (signal_without_1_48.calls _ _ t452 a1 t458 _ ?side1 ?side2 ?side3 A40.out).mono ?_
      (case side1=>repeat (first|exact (yZ HO454.out).2.2|(with_reducible refine yG ?_ _)|(with_reducible refine yF ?_ _)|(with_reducible refine yI ?_)))
      (case side2=>exact (yZ HO454.out).2.1)
      (case side3=>exact by (with_reducible repeat (first|refine zB ?_ _|refine zF ?_|refine zA ?_ _));exact BK445.out)
      rintro e w81 ⟨v459,rfl,ho0,hb⟩
      refine ⟨_,rfl,?_⟩
      have n0_:=Zk (yL (by (with_reducible repeat (first|apply zL|apply zK|apply zM));exact HO_445000.out) (zZ ho0) hb)
      have n1_:=Zk (yL (by (with_reducible repeat (first|apply zL|apply zK|apply zM));exact HO_445001.out) (zZ ho0) hb)
      have n2_:=Zk (yL (by (with_reducible repeat (first|apply zL|apply zK|apply zM));exact HO_445002.out) (zZ ho0) hb)
      have n3_:=Zk (yK (by (with_reducible repeat (first|apply zR|apply zQ|apply zU));exact HO451.out) (zZ ho0) hb)
      have n4_:=Zk (yK (by (with_reducible repeat (first|apply zR|apply zQ|apply zU));exact HO454.out) (zZ ho0) hb)
      have n5_:=Zk (yK (by (with_reducible repeat (first|apply zR|apply zQ|apply zU));exact HO457.out) (zZ ho0) hb)
      have n6_:=Zk (yU (R_newB (yR (yR (yR (R_newM (M:=fun k_=>(w.heap.size≤k_)) ho0 (zP (by repeat (first|(with_reducible first|exact HB.out|apply zG|apply zD|apply zH|refine zC ?_ GE444.out|refine zC ?_ GE445.out|refine zC ?_ GE446.out)|exact HB.out))) (fun k_ h_=>h_)) (R_lt (by (with_reducible repeat (first|apply zR|apply zQ|apply zU));exact HO451.out))) (R_lt (by (with_reducible repeat (first|apply zR|apply zQ|apply zU));exact HO454.out))) (R_lt (by (with_reducible repeat (first|apply zR|apply zQ|apply zU));exact HO457.out))) (g:=gb445) (o:=.cells #[.int .i64 a1] 3 (0,0)) (by (with_reducible repeat (first|refine zB ?_ _|refine zF ?_|refine zA ?_ _));exact BK445.out)) (zP (by repeat (first|(with_reducible first|exact HB.out|apply zG|apply zD|apply zH|refine zC ?_ GE444.out|refine zC ?_ GE445.out|refine zC ?_ GE446.out)|exact HB.out))))
      have n7_:=Zk (zW (g:=gb444) (o:=.cells #[.slice Ao75 t449.length co75,.slice Ao77 t452.length co77,.slice Ao78 t455.length co78] 30 (0,0)) (by (with_reducible repeat (first|refine zB ?_ _|refine zF ?_|refine zA ?_ _));exact BK444.out) hb)
      have n8_:=Zk (zW (g:=gb445) (o:=.cells #[.int .i64 a1] 3 (0,0)) (by (with_reducible repeat (first|refine zB ?_ _|refine zF ?_|refine zA ?_ _));exact BK445.out) hb)
      have n9_:=Zk (zW (g:=gb446) (o:=.cells #[.slice none 0 0,.slice none 0 0,.slice none 0 0] 30 (0,0)) (by (with_reducible repeat (first|refine zB ?_ _|refine zF ?_|refine zA ?_ _));exact BK446.out) hb)
      have n10_:=Zk (yA (by repeat (first|(with_reducible first|exact HB.out|apply zG|apply zD|apply zH|refine zC ?_ GE444.out|refine zC ?_ GE445.out|refine zC ?_ GE446.out)|exact HB.out)) hb)
      clear HO_445000
      clear HO_445001
      clear HO_445002
      clear HO451
      clear HO454
      clear HO457
      clear BK444
      clear BK445
      clear BK446
      clear HB
      have HO_445000:=n0_
      have HO_445001:=n1_
      have HO_445002:=n2_
      have HO451:=n3_
      have HO454:=n4_
      have HO457:=n5_
      have HO460:=n6_
      have BK444:=n7_
      have BK445:=n8_
      have BK446:=n9_
      have HB:=n10_
      clear n0_ n1_ n2_ n3_ n4_ n5_ n6_ n7_ n8_ n9_ n10_
      (try clear hb)
      (try clear hb2)
      (try clear hk)
      (try clear hi)
      (try clear ho0)
      refine hK.out _ _ ⟨(zJ BK444.out 0).trans rfl,(zJ BK444.out 1).trans rfl,(zJ BK444.out 2).trans rfl⟩ (fun hHeld=>?_)
      clear hK K
      refine norm_ (a':=?_) ?_ ?_
      rotate_left
      ·show Act.put _ (some 31) _=_
       simp only [Act.put,List.setIfInBounds_toArray,List.set_cons_zero,List.set_cons_succ,yX,i32_w]
       rfl
      refine pure_ (i:=8) (N:=some 36) (v:=?_) (a':=?_) #[true,true,true,true,true,true,true,false,true,false,false,false] rfl rfl (any_of HT_.out (by kernel_rfl)) (fun _ _ _ h=>h) (Or.inl ⟨by rfl,?_⟩) ?_ ?_
      rotate_left
      ·intro w'
       go_simp
       with_reducible rfl
      rotate_left
      ·simp only [Act.put,List.setIfInBounds_toArray,List.set_cons_zero,List.set_cons_succ,yX,i32_w]
       rfl
      refine one_ (i:=7) (N:=some 35) #[true,true,true,true,true,true,true,true,true,false,false,false] rfl rfl (one_of HT_.out (by kernel_rfl)) (by decide) (fun K hK=>?_)
      refine goes_ Tryd.func40 (by kernel_rfl) rfl #[.slice Ao78 t455.length co78,.func (.func 48) #[] #[.pointer (some ⟨gb445,0,none⟩)]] (by rfl) rfl rfl (by (try simp only [List.map_toArray,List.map_cons,List.map_nil]);first|done|rfl|(simp only [List.length_drop,List.length_take];rfl)) ?_
      with_reducible refine (signal_without_1_48.calls _ _ t455 a1 t461 _ ?side1 ?side2 ?side3 A41.out).mono ?_
      (case side1=>repeat (first|exact (yZ HO457.out).2.2|(with_reducible refine yG ?_ _)|(with_reducible refine yF ?_ _)|(with_reducible refine yI ?_)))
      (case side2=>exact (yZ HO457.out).2.1)
      (case side3=>exact by (with_reducible repeat (first|refine zB ?_ _|refine zF ?_|refine zA ?_ _));exact BK445.out)
      rintro e w82 ⟨v462,rfl,ho0,hb⟩
      refine ⟨_,rfl,?_⟩
      have n0_:=Zk (yL (by (with_reducible repeat (first|apply zL|apply zK|apply zM));exact HO_445000.out) (zZ ho0) hb)
      have n1_:=Zk (yL (by (with_reducible repeat (first|apply zL|apply zK|apply zM));exact HO_445001.out) (zZ ho0) hb)
      have n2_:=Zk (yL (by (with_reducible repeat (first|apply zL|apply zK|apply zM));exact HO_445002.out) (zZ ho0) hb)
      have n3_:=Zk (yK (by (with_reducible repeat (first|apply zR|apply zQ|apply zU));exact HO451.out) (zZ ho0) hb)
      have n4_:=Zk (yK (by (with_reducible repeat (first|apply zR|apply zQ|apply zU));exact HO454.out) (zZ ho0) hb)
      have n5_:=Zk (yK (by (with_reducible repeat (first|apply zR|apply zQ|apply zU));exact HO457.out) (zZ ho0) hb)
      have n6_:=Zk (yK (by (with_reducible repeat (first|apply zR|apply zQ|apply zU));exact HO460.out) (zZ ho0) hb)
      have n7_:=Zk (yU (R_newB (yR (yR (yR (yR (R_newM (M:=fun k_=>(w.heap.size≤k_)) ho0 (zP (by repeat (first|(with_reducible first|exact HB.out|apply zG|apply zD|apply zH|refine zC ?_ GE444.out|refine zC ?_ GE445.out|refine zC ?_ GE446.out)|exact HB.out))) (fun k_ h_=>h_)) (R_lt (by (with_reducible repeat (first|apply zR|apply zQ|apply zU));exact HO451.out))) (R_lt (by (with_reducible repeat (first|apply zR|apply zQ|apply zU));exact HO454.out))) (R_lt (by (with_reducible repeat (first|apply zR|apply zQ|apply zU));exact HO457.out))) (R_lt (by (with_reducible repeat (first|apply zR|apply zQ|apply zU));exact HO460.out))) (g:=gb445) (o:=.cells #[.int .i64 a1] 3 (0,0)) (by (with_reducible repeat (first|refine zB ?_ _|refine zF ?_|refine zA ?_ _));exact BK445.out)) (zP (by repeat (first|(with_reducible first|exact HB.out|apply zG|apply zD|apply zH|refine zC ?_ GE444.out|refine zC ?_ GE445.out|refine zC ?_ GE446.out)|exact HB.out))))
      have n8_:=Zk (zW (g:=gb444) (o:=.cells #[.slice Ao75 t449.length co75,.slice Ao77 t452.length co77,.slice Ao78 t455.length co78] 30 (0,0)) (by (with_reducible repeat (first|refine zB ?_ _|refine zF ?_|refine zA ?_ _));exact BK444.out) hb)
      have n9_:=Zk (zW (g:=gb445) (o:=.cells #[.int .i64 a1] 3 (0,0)) (by (with_reducible repeat (first|refine zB ?_ _|refine zF ?_|refine zA ?_ _));exact BK445.out) hb)
      have n10_:=Zk (zW (g:=gb446) (o:=.cells #[.slice none 0 0,.slice none 0 0,.slice none 0 0] 30 (0,0)) (by (with_reducible repeat (first|refine zB ?_ _|refine zF ?_|refine zA ?_ _));exact BK446.out) hb)
      have n11_:=Zk (yA (by repeat (first|(with_reducible first|exact HB.out|apply zG|apply zD|apply zH|refine zC ?_ GE444.out|refine zC ?_ GE445.out|refine zC ?_ GE446.out)|exact HB.out)) hb)
      clear HO_445000
      clear HO_445001
      clear HO_445002
      clear HO451
      clear HO454
      clear HO457
      clear HO460
      clear BK444
      clear BK445
      clear BK446
      clear HB
      have HO_445000:=n0_
      have HO_445001:=n1_
      have HO_445002:=n2_
      have HO451:=n3_
      have HO454:=n4_
      have HO457:=n5_
      have HO460:=n6_
      have HO463:=n7_
      have BK444:=n8_
      have BK445:=n9_
      have BK446:=n10_
      have HB:=n11_
      clear n0_ n1_ n2_ n3_ n4_ n5_ n6_ n7_ n8_ n9_ n10_ n11_
      (try clear hb)
      (try clear hb2)
      (try clear hk)
      (try clear hi)
      (try clear ho0)
      obtain ⟨Ao83,co83,eo83⟩:=yQ HO460.out
      (first|subst eo83|(injection eo83 with f1_ f2_ f3_;have f4_:=f1_.symm;have f5_:=f3_.symm;clear f1_ f2_ f3_;subst f4_;subst f5_))
      obtain ⟨Ao85,co85,eo85⟩:=yQ HO463.out
      (first|subst eo85|(injection eo85 with f1_ f2_ f3_;have f4_:=f1_.symm;have f5_:=f3_.symm;clear f1_ f2_ f3_;subst f4_;subst f5_))
      refine hK.out _ _ ⟨(zJ BK444.out 0).trans rfl,(zJ BK444.out 1).trans rfl,(zJ BK444.out 2).trans rfl⟩ (fun hHeld=>?_)
      clear hK K
      refine norm_ (a':=?_) ?_ ?_
      rotate_left
      ·show Act.put _ (some 35) _=_
       simp only [Act.put,List.setIfInBounds_toArray,List.set_cons_zero,List.set_cons_succ,yX,i32_w]
       rfl
      refine last_ (i:=9) (N:=none) #[true,true,true,true,true,true,true,true,true,true,false,false] rfl rfl (one_of HT_.out (by kernel_rfl)) (by decide) (fun K hK=>?_)
      have hs84:w82.cell? ⟨gb444,1,none⟩=some (.slice Ao77 t452.length co77):=(zJ BK444.out 1).trans rfl
      have hfs84:=zI BK444.out 1
      have hns84_1:=NB445_444.out
      have hns84_2:=NB446_444.out
      have hms84_1:=NB444_445.out
      have hms84_2:=NB444_446.out
      refine skip_ (w1:=?_) (by rfl) rfl ?_ ?_
      rotate_left
      ·go_simp
       rfl
      refine hK.out _ _ ?_
      clear hK K
      refine pure_ (i:=10) (N:=some 37) (v:=?_) (a':=?_) #[true,true,true,true,true,true,true,true,true,true,true,false] rfl rfl (any_of HT_.out (by kernel_rfl)) (fun _ _ _ h=>h) (Or.inl ⟨by rfl,?_⟩) ?_ ?_
      rotate_left
      ·intro w'
       go_simp
       with_reducible rfl
      rotate_left
      ·simp only [Act.put,List.setIfInBounds_toArray,List.set_cons_zero,List.set_cons_succ,yX,i32_w]
       rfl
      refine last_ (i:=11) (N:=none) #[true,true,true,true,true,true,true,true,true,true,true,true] rfl rfl (one_of HT_.out (by kernel_rfl)) (by decide) (fun K hK=>?_)
      have hs86:w82.cell? ⟨gb444,2,none⟩=some (.slice Ao78 t455.length co78):=(zJ BK444.out 2).trans rfl
      have hfs86:=zI BK444.out 2
      have hns86_1:=NB445_444.out
      have hns86_2:=NB446_444.out
      have hms86_1:=NB444_445.out
      have hms86_2:=NB444_446.out
      refine skip_ (w1:=?_) (by rfl) rfl ?_ ?_
      rotate_left
      ·go_simp
       rfl
      refine hK.out _ _ ?_
      clear hK K
      refine done_ (done_of HT_.out (by kernel_rfl)) ?_
      have hcz87_0:w82.cell? ⟨gb444,0,none⟩=some (.slice Ao75 t449.length co75):=(zJ BK444.out 0).trans rfl
      have hcz87_1:w82.cell? ⟨gb444,1,none⟩=some (.slice Ao77 t452.length co77):=(zJ BK444.out 1).trans rfl
      have hcz87_2:w82.cell? ⟨gb444,2,none⟩=some (.slice Ao78 t455.length co78):=(zJ BK444.out 2).trans rfl
      have hfz87_0:=zI BK444.out 0
      have hfz87_1:=zI BK444.out 1
      have hfz87_2:=zI BK444.out 2
      have hnb88:=NB445_446.out
      have hnc88:=NB446_445.out
      have hcz89_0:w82.cell? ⟨gb445,0,none⟩=some (.int .i64 a1):=(zJ BK445.out 0).trans rfl
      have hfz89_0:=zI BK445.out 0
      try go_wp2_with (first|((with_reducible refine yD (f:=45) rfl ?_);refine yM (some 44) rfl rfl Tryd.func45 (by kernel_rfl) rfl #[.slice Ao83 t458.length co83,.int .i64 a1] rfl (by (try simp only [List.map_toArray,List.map_cons,List.map_nil]);first|done|rfl|(simp only [List.length_drop,List.length_take];rfl)) ?_;(with_reducible refine (signal_with.calls kj3 _ _ t458 a1 t464 _ ?side1 ?side2 A43.out).mono ?_);(case side1=>refine (yZ (e:=3) (base:=w.heap.size) (ok:=fun k_=>(((((((w.heap.size≤k_)∧True)∧some k_≠(.slice Ao75 t449.length co75:Value).ownBlock)∧some k_≠(.slice Ao77 t452.length co77:Value).ownBlock)∧some k_≠(.slice Ao78 t455.length co78:Value).ownBlock)∧k_≠gb445)∧some k_≠(.slice Ao85 t461.length co85:Value).ownBlock)) (n:=t458.length) (c:=co83) ?_).2.2;exact (by (with_reducible repeat (first|apply zR|apply zQ|apply zU));exact (yB (zT (p:=⟨gb444,2,none⟩) (zT (p:=⟨gb444,1,none⟩) (zX HO460.out BK444.out (by decide)) (fun _ hk=>hk.2) (.slice Ao83 t458.length co83)) (fun _ hk=>hk.2) (.slice Ao85 t461.length co85)) (fun _ h_=>h_.1))));(case side2=>exact (yZ HO460.out).2.1);rintro e w90 ⟨v465,rfl,ho0,hb⟩;refine ⟨_,rfl,?_⟩;have n0_:=Zk (yL (by (with_reducible repeat (first|apply zL|apply zK|apply zM));exact (zO (zS (p:=⟨gb444,2,none⟩) (zS (p:=⟨gb444,1,none⟩) (zO HO_445000.out (fun k_ hk=>(⟨hk,hk.1.1.2.2.2.2.1⟩:_∧k_≠gb444))) (fun _ hk=>hk.2) (.slice Ao83 t458.length co83)) (fun _ hk=>hk.2) (.slice Ao85 t461.length co85)) (fun _ h_=>h_.1))) (zZ ho0) hb);have n1_:=Zk (yL (by (with_reducible repeat (first|apply zL|apply zK|apply zM));exact (zO (zS (p:=⟨gb444,2,none⟩) (zS (p:=⟨gb444,1,none⟩) (zO HO_445001.out (fun k_ hk=>(⟨hk,hk.1.1.2.2.2.2.1⟩:_∧k_≠gb444))) (fun _ hk=>hk.2) (.slice Ao83 t458.length co83)) (fun _ hk=>hk.2) (.slice Ao85 t461.length co85)) (fun _ h_=>h_.1))) (zZ ho0) hb);have n2_:=Zk (yL (by (with_reducible repeat (first|apply zL|apply zK|apply zM));exact (zO (zS (p:=⟨gb444,2,none⟩) (zS (p:=⟨gb444,1,none⟩) (zO HO_445002.out (fun k_ hk=>(⟨hk,hk.1.1.2.2.2.2.1⟩:_∧k_≠gb444))) (fun _ hk=>hk.2) (.slice Ao83 t458.length co83)) (fun _ hk=>hk.2) (.slice Ao85 t461.length co85)) (fun _ h_=>h_.1))) (zZ ho0) hb);have n3_:=Zk (yK (by (with_reducible repeat (first|apply zR|apply zQ|apply zU));exact (yB (zT (p:=⟨gb444,2,none⟩) (zT (p:=⟨gb444,1,none⟩) (zX HO451.out BK444.out (by decide)) (fun _ hk=>hk.2) (.slice Ao83 t458.length co83)) (fun _ hk=>hk.2) (.slice Ao85 t461.length co85)) (fun _ h_=>h_.1))) (zZ ho0) hb);have n4_:=Zk (yK (by (with_reducible repeat (first|apply zR|apply zQ|apply zU));exact (yB (zT (p:=⟨gb444,2,none⟩) (zT (p:=⟨gb444,1,none⟩) (zX HO454.out BK444.out (by decide)) (fun _ hk=>hk.2) (.slice Ao83 t458.length co83)) (fun _ hk=>hk.2) (.slice Ao85 t461.length co85)) (fun _ h_=>h_.1))) (zZ ho0) hb);have n5_:=Zk (yK (by (with_reducible repeat (first|apply zR|apply zQ|apply zU));exact (yB (zT (p:=⟨gb444,2,none⟩) (zT (p:=⟨gb444,1,none⟩) (zX HO457.out BK444.out (by decide)) (fun _ hk=>hk.2) (.slice Ao83 t458.length co83)) (fun _ hk=>hk.2) (.slice Ao85 t461.length co85)) (fun _ h_=>h_.1))) (zZ ho0) hb);have n6_:=Zk (yK (by (with_reducible repeat (first|apply zR|apply zQ|apply zU));exact (yB (zT (p:=⟨gb444,2,none⟩) (zT (p:=⟨gb444,1,none⟩) (zX HO460.out BK444.out (by decide)) (fun _ hk=>hk.2) (.slice Ao83 t458.length co83)) (fun _ hk=>hk.2) (.slice Ao85 t461.length co85)) (fun _ h_=>h_.1))) (zZ ho0) hb);have n7_:=Zk (yK (by (with_reducible repeat (first|apply zR|apply zQ|apply zU));exact (yB (zT (p:=⟨gb444,2,none⟩) (zT (p:=⟨gb444,1,none⟩) (zX HO463.out BK444.out (by decide)) (fun _ hk=>hk.2) (.slice Ao83 t458.length co83)) (fun _ hk=>hk.2) (.slice Ao85 t461.length co85)) (fun _ h_=>h_.1))) (zZ ho0) hb);have n8_:=Zk (yU (R_newB (yR (yR (yR (yR (yR (R_newM (M:=fun k_=>(w.heap.size≤k_)) ho0 (zP (by repeat (first|(with_reducible first|exact HB.out|apply zG|apply zD|apply zH|refine zC ?_ GE444.out|refine zC ?_ GE445.out|refine zC ?_ GE446.out)|exact HB.out))) (fun k_ h_=>h_)) (R_lt (by (with_reducible repeat (first|apply zR|apply zQ|apply zU));exact (yB (zT (p:=⟨gb444,2,none⟩) (zT (p:=⟨gb444,1,none⟩) (zX HO451.out BK444.out (by decide)) (fun _ hk=>hk.2) (.slice Ao83 t458.length co83)) (fun _ hk=>hk.2) (.slice Ao85 t461.length co85)) (fun _ h_=>h_.1))))) (R_lt (by (with_reducible repeat (first|apply zR|apply zQ|apply zU));exact (yB (zT (p:=⟨gb444,2,none⟩) (zT (p:=⟨gb444,1,none⟩) (zX HO454.out BK444.out (by decide)) (fun _ hk=>hk.2) (.slice Ao83 t458.length co83)) (fun _ hk=>hk.2) (.slice Ao85 t461.length co85)) (fun _ h_=>h_.1))))) (R_lt (by (with_reducible repeat (first|apply zR|apply zQ|apply zU));exact (yB (zT (p:=⟨gb444,2,none⟩) (zT (p:=⟨gb444,1,none⟩) (zX HO457.out BK444.out (by decide)) (fun _ hk=>hk.2) (.slice Ao83 t458.length co83)) (fun _ hk=>hk.2) (.slice Ao85 t461.length co85)) (fun _ h_=>h_.1))))) (R_lt (by (with_reducible repeat (first|apply zR|apply zQ|apply zU));exact (yB (zT (p:=⟨gb444,2,none⟩) (zT (p:=⟨gb444,1,none⟩) (zX HO460.out BK444.out (by decide)) (fun _ hk=>hk.2) (.slice Ao83 t458.length co83)) (fun _ hk=>hk.2) (.slice Ao85 t461.length co85)) (fun _ h_=>h_.1))))) (R_lt (by (with_reducible repeat (first|apply zR|apply zQ|apply zU));exact (yB (zT (p:=⟨gb444,2,none⟩) (zT (p:=⟨gb444,1,none⟩) (zX HO463.out BK444.out (by decide)) (fun _ hk=>hk.2) (.slice Ao83 t458.length co83)) (fun _ hk=>hk.2) (.slice Ao85 t461.length co85)) (fun _ h_=>h_.1))))) (g:=gb445) (o:=.cells #[.int .i64 a1] 3 (0,0)) (by (with_reducible repeat (first|refine zB ?_ _|refine zF ?_|refine zA ?_ _));refine zY ?_ NB445_444.out _;(with_reducible repeat (first|refine zB ?_ _|refine zF ?_|refine zA ?_ _));refine zY ?_ NB445_444.out _;(with_reducible repeat (first|refine zB ?_ _|refine zF ?_|refine zA ?_ _));exact BK445.out)) (zP (by repeat (first|(with_reducible first|exact HB.out|apply zG|apply zD|apply zH|refine zC ?_ GE444.out|refine zC ?_ GE445.out|refine zC ?_ GE446.out)|exact HB.out))));have n9_:=Zk (zW (g:=gb444) (o:=.cells #[.slice Ao75 t449.length co75,.slice Ao83 t458.length co83,.slice Ao85 t461.length co85] 30 (0,0)) (by (with_reducible repeat (first|refine zB ?_ _|refine zF ?_|refine zA ?_ _));refine yE (cs:=#[.slice Ao75 t449.length co75,.slice Ao83 t458.length co83,.slice Ao78 t455.length co78]) ?_ 2 _ rfl;(with_reducible repeat (first|refine zB ?_ _|refine zF ?_|refine zA ?_ _));refine yE (cs:=#[.slice Ao75 t449.length co75,.slice Ao77 t452.length co77,.slice Ao78 t455.length co78]) ?_ 1 _ rfl;(with_reducible repeat (first|refine zB ?_ _|refine zF ?_|refine zA ?_ _));exact BK444.out) hb);have n10_:=Zk (zW (g:=gb445) (o:=.cells #[.int .i64 a1] 3 (0,0)) (by (with_reducible repeat (first|refine zB ?_ _|refine zF ?_|refine zA ?_ _));refine zY ?_ NB445_444.out _;(with_reducible repeat (first|refine zB ?_ _|refine zF ?_|refine zA ?_ _));refine zY ?_ NB445_444.out _;(with_reducible repeat (first|refine zB ?_ _|refine zF ?_|refine zA ?_ _));exact BK445.out) hb);have n11_:=Zk (zW (g:=gb446) (o:=.cells #[.slice none 0 0,.slice none 0 0,.slice none 0 0] 30 (0,0)) (by (with_reducible repeat (first|refine zB ?_ _|refine zF ?_|refine zA ?_ _));refine zY ?_ NB446_444.out _;(with_reducible repeat (first|refine zB ?_ _|refine zF ?_|refine zA ?_ _));refine zY ?_ NB446_444.out _;(with_reducible repeat (first|refine zB ?_ _|refine zF ?_|refine zA ?_ _));exact BK446.out) hb);have n12_:=Zk (yA (by repeat (first|(with_reducible first|exact HB.out|apply zG|apply zD|apply zH|refine zC ?_ GE444.out|refine zC ?_ GE445.out|refine zC ?_ GE446.out)|exact HB.out)) hb);clear HO_445000;clear HO_445001;clear HO_445002;clear HO451;clear HO454;clear HO457;clear HO460;clear HO463;clear BK444;clear BK445;clear BK446;clear HB;have HO_445000:=n0_;have HO_445001:=n1_;have HO_445002:=n2_;have HO451:=n3_;have HO454:=n4_;have HO457:=n5_;have HO460:=n6_;have HO463:=n7_;have HO466:=n8_;have BK444:=n9_;have BK445:=n10_;have BK446:=n11_;have HB:=n12_;clear n0_ n1_ n2_ n3_ n4_ n5_ n6_ n7_ n8_ n9_ n10_ n11_ n12_;(try clear hb);(try clear hb2);(try clear hk);(try clear hi);(try clear ho0);obtain ⟨Ao91,co91,eo91⟩:=yQ HO466.out;subst eo91;have hcz92_0:w90.cell? ⟨gb444,0,none⟩=some (.slice Ao75 t449.length co75):=(zJ BK444.out 0).trans rfl;have hcz92_1:w90.cell? ⟨gb444,1,none⟩=some (.slice Ao83 t458.length co83):=(zJ BK444.out 1).trans rfl;have hcz92_2:w90.cell? ⟨gb444,2,none⟩=some (.slice Ao85 t461.length co85):=(zJ BK444.out 2).trans rfl;have hfz92_0:=zI BK444.out 0;have hfz92_1:=zI BK444.out 1;have hfz92_2:=zI BK444.out 2;have hcz93_0:w90.cell? ⟨gb445,0,none⟩=some (.int .i64 a1):=(zJ BK445.out 0).trans rfl;have hfz93_0:=zI BK445.out 0)|((with_reducible refine yD (f:=40) rfl ?_);refine yM (some 51) rfl rfl Tryd.func40 (by kernel_rfl) rfl #[.slice Ao75 t449.length co75,.func (.func 48) #[] #[.pointer (some ⟨gb445,0,none⟩)]] rfl (by (try simp only [List.map_toArray,List.map_cons,List.map_nil]);first|done|rfl|(simp only [List.length_drop,List.length_take];rfl)) ?_;(with_reducible refine (signal_without_1_48.calls _ _ t449 a1 t467 _ ?side1 ?side2 ?side3 A70.out).mono ?_);(case side1=>refine (yZ (e:=3) (base:=w.heap.size) (ok:=fun k_=>(((((w.heap.size≤k_)∧(some k_≠(.slice Ao77 t452.length co77:Value).ownBlock∧(some k_≠(.slice Ao78 t455.length co78:Value).ownBlock∧k_≠gb445)))∧some k_≠(.slice Ao83 t458.length co83:Value).ownBlock)∧some k_≠(.slice Ao85 t461.length co85:Value).ownBlock)∧some k_≠(.slice Ao91 t464.length co91:Value).ownBlock)) (n:=t449.length) (c:=co75) ?_).2.2;exact (by (with_reducible repeat (first|apply zR|apply zQ|apply zU));exact (yB (zT (p:=⟨gb444,1,none⟩) (zX HO451.out BK444.out (by decide)) (fun _ hk=>hk.2) (.slice Ao91 t464.length co91)) (fun _ h_=>h_.1))));(case side2=>exact (yZ HO451.out).2.1);(case side3=>exact by (with_reducible repeat (first|refine zB ?_ _|refine zF ?_|refine zA ?_ _));refine zY ?_ NB445_444.out _;(with_reducible repeat (first|refine zB ?_ _|refine zF ?_|refine zA ?_ _));exact BK445.out);rintro e w94 ⟨v468,rfl,ho0,hb⟩;refine ⟨_,rfl,?_⟩;have n0_:=Zk (yL (by (with_reducible repeat (first|apply zL|apply zK|apply zM));exact (zO (zS (p:=⟨gb444,1,none⟩) (zO HO_445000.out (fun k_ hk=>(⟨hk,hk.1.1.1.2.2.2.2.1⟩:_∧k_≠gb444))) (fun _ hk=>hk.2) (.slice Ao91 t464.length co91)) (fun _ h_=>h_.1))) (zZ ho0) hb);have n1_:=Zk (yL (by (with_reducible repeat (first|apply zL|apply zK|apply zM));exact (zO (zS (p:=⟨gb444,1,none⟩) (zO HO_445001.out (fun k_ hk=>(⟨hk,hk.1.1.1.2.2.2.2.1⟩:_∧k_≠gb444))) (fun _ hk=>hk.2) (.slice Ao91 t464.length co91)) (fun _ h_=>h_.1))) (zZ ho0) hb);have n2_:=Zk (yL (by (with_reducible repeat (first|apply zL|apply zK|apply zM));exact (zO (zS (p:=⟨gb444,1,none⟩) (zO HO_445002.out (fun k_ hk=>(⟨hk,hk.1.1.1.2.2.2.2.1⟩:_∧k_≠gb444))) (fun _ hk=>hk.2) (.slice Ao91 t464.length co91)) (fun _ h_=>h_.1))) (zZ ho0) hb);have n3_:=Zk (yK (by (with_reducible repeat (first|apply zR|apply zQ|apply zU));exact (yB (zT (p:=⟨gb444,1,none⟩) (zX HO451.out BK444.out (by decide)) (fun _ hk=>hk.2) (.slice Ao91 t464.length co91)) (fun _ h_=>h_.1))) (zZ ho0) hb);have n4_:=Zk (yK (by (with_reducible repeat (first|apply zR|apply zQ|apply zU));exact (yB (zT (p:=⟨gb444,1,none⟩) (zX HO454.out BK444.out (by decide)) (fun _ hk=>hk.2) (.slice Ao91 t464.length co91)) (fun _ h_=>h_.1))) (zZ ho0) hb);have n5_:=Zk (yK (by (with_reducible repeat (first|apply zR|apply zQ|apply zU));exact (yB (zT (p:=⟨gb444,1,none⟩) (zX HO457.out BK444.out (by decide)) (fun _ hk=>hk.2) (.slice Ao91 t464.length co91)) (fun _ h_=>h_.1))) (zZ ho0) hb);have n6_:=Zk (yK (by (with_reducible repeat (first|apply zR|apply zQ|apply zU));exact (yB (zT (p:=⟨gb444,1,none⟩) (zX HO460.out BK444.out (by decide)) (fun _ hk=>hk.2) (.slice Ao91 t464.length co91)) (fun _ h_=>h_.1))) (zZ ho0) hb);have n7_:=Zk (yK (by (with_reducible repeat (first|apply zR|apply zQ|apply zU));exact (yB (zT (p:=⟨gb444,1,none⟩) (zX HO463.out BK444.out (by decide)) (fun _ hk=>hk.2) (.slice Ao91 t464.length co91)) (fun _ h_=>h_.1))) (zZ ho0) hb);have n8_:=Zk (yK (by (with_reducible repeat (first|apply zR|apply zQ|apply zU));exact (yB (zT (p:=⟨gb444,1,none⟩) (zX HO466.out BK444.out (by decide)) (fun _ hk=>hk.2) (.slice Ao91 t464.length co91)) (fun _ h_=>h_.1))) (zZ ho0) hb);have n9_:=Zk (yU (R_newB (yR (yR (yR (yR (yR (yR (R_newM (M:=fun k_=>(w.heap.size≤k_)) ho0 (zP (by repeat (first|(with_reducible first|exact HB.out|apply zG|apply zD|apply zH|refine zC ?_ GE444.out|refine zC ?_ GE445.out|refine zC ?_ GE446.out)|exact HB.out))) (fun k_ h_=>h_)) (R_lt (by (with_reducible repeat (first|apply zR|apply zQ|apply zU));exact (yB (zT (p:=⟨gb444,1,none⟩) (zX HO451.out BK444.out (by decide)) (fun _ hk=>hk.2) (.slice Ao91 t464.length co91)) (fun _ h_=>h_.1))))) (R_lt (by (with_reducible repeat (first|apply zR|apply zQ|apply zU));exact (yB (zT (p:=⟨gb444,1,none⟩) (zX HO454.out BK444.out (by decide)) (fun _ hk=>hk.2) (.slice Ao91 t464.length co91)) (fun _ h_=>h_.1))))) (R_lt (by (with_reducible repeat (first|apply zR|apply zQ|apply zU));exact (yB (zT (p:=⟨gb444,1,none⟩) (zX HO457.out BK444.out (by decide)) (fun _ hk=>hk.2) (.slice Ao91 t464.length co91)) (fun _ h_=>h_.1))))) (R_lt (by (with_reducible repeat (first|apply zR|apply zQ|apply zU));exact (yB (zT (p:=⟨gb444,1,none⟩) (zX HO460.out BK444.out (by decide)) (fun _ hk=>hk.2) (.slice Ao91 t464.length co91)) (fun _ h_=>h_.1))))) (R_lt (by (with_reducible repeat (first|apply zR|apply zQ|apply zU));exact (yB (zT (p:=⟨gb444,1,none⟩) (zX HO463.out BK444.out (by decide)) (fun _ hk=>hk.2) (.slice Ao91 t464.length co91)) (fun _ h_=>h_.1))))) (R_lt (by (with_reducible repeat (first|apply zR|apply zQ|apply zU));exact (yB (zT (p:=⟨gb444,1,none⟩) (zX HO466.out BK444.out (by decide)) (fun _ hk=>hk.2) (.slice Ao91 t464.length co91)) (fun _ h_=>h_.1))))) (g:=gb445) (o:=.cells #[.int .i64 a1] 3 (0,0)) (by (with_reducible repeat (first|refine zB ?_ _|refine zF ?_|refine zA ?_ _));refine zY ?_ NB445_444.out _;(with_reducible repeat (first|refine zB ?_ _|refine zF ?_|refine zA ?_ _));exact BK445.out)) (zP (by repeat (first|(with_reducible first|exact HB.out|apply zG|apply zD|apply zH|refine zC ?_ GE444.out|refine zC ?_ GE445.out|refine zC ?_ GE446.out)|exact HB.out))));have n10_:=Zk (zW (g:=gb444) (o:=.cells #[.slice Ao75 t449.length co75,.slice Ao91 t464.length co91,.slice Ao85 t461.length co85] 30 (0,0)) (by (with_reducible repeat (first|refine zB ?_ _|refine zF ?_|refine zA ?_ _));refine yE (cs:=#[.slice Ao75 t449.length co75,.slice Ao83 t458.length co83,.slice Ao85 t461.length co85]) ?_ 1 _ rfl;(with_reducible repeat (first|refine zB ?_ _|refine zF ?_|refine zA ?_ _));exact BK444.out) hb);have n11_:=Zk (zW (g:=gb445) (o:=.cells #[.int .i64 a1] 3 (0,0)) (by (with_reducible repeat (first|refine zB ?_ _|refine zF ?_|refine zA ?_ _));refine zY ?_ NB445_444.out _;(with_reducible repeat (first|refine zB ?_ _|refine zF ?_|refine zA ?_ _));exact BK445.out) hb);have n12_:=Zk (zW (g:=gb446) (o:=.cells #[.slice none 0 0,.slice none 0 0,.slice none 0 0] 30 (0,0)) (by (with_reducible repeat (first|refine zB ?_ _|refine zF ?_|refine zA ?_ _));refine zY ?_ NB446_444.out _;(with_reducible repeat (first|refine zB ?_ _|refine zF ?_|refine zA ?_ _));exact BK446.out) hb);have n13_:=Zk (yA (by repeat (first|(with_reducible first|exact HB.out|apply zG|apply zD|apply zH|refine zC ?_ GE444.out|refine zC ?_ GE445.out|refine zC ?_ GE446.out)|exact HB.out)) hb);clear HO_445000;clear HO_445001;clear HO_445002;clear HO451;clear HO454;clear HO457;clear HO460;clear HO463;clear HO466;clear BK444;clear BK445;clear BK446;clear HB;have HO_445000:=n0_;have HO_445001:=n1_;have HO_445002:=n2_;have HO451:=n3_;have HO454:=n4_;have HO457:=n5_;have HO460:=n6_;have HO463:=n7_;have HO466:=n8_;have HO469:=n9_;have BK444:=n10_;have BK445:=n11_;have BK446:=n12_;have HB:=n13_;clear n0_ n1_ n2_ n3_ n4_ n5_ n6_ n7_ n8_ n9_ n10_ n11_ n12_ n13_;(try clear hb);(try clear hb2);(try clear hk);(try clear hi);(try clear ho0);obtain ⟨Ao95,co95,eo95⟩:=yQ HO469.out;subst eo95;have hcz96_0:w94.cell? ⟨gb444,0,none⟩=some (.slice Ao75 t449.length co75):=(zJ BK444.out 0).trans rfl;have hcz96_1:w94.cell? ⟨gb444,1,none⟩=some (.slice Ao91 t464.length co91):=(zJ BK444.out 1).trans rfl;have hcz96_2:w94.cell? ⟨gb444,2,none⟩=some (.slice Ao85 t461.length co85):=(zJ BK444.out 2).trans rfl;have hfz96_0:=zI BK444.out 0;have hfz96_1:=zI BK444.out 1;have hfz96_2:=zI BK444.out 2;have hcz97_0:w94.cell? ⟨gb446,0,none⟩=some (.slice none 0 0):=(zJ BK446.out 0).trans rfl;have hcz97_1:w94.cell? ⟨gb446,1,none⟩=some (.slice none 0 0):=(zJ BK446.out 1).trans rfl;have hcz97_2:w94.cell? ⟨gb446,2,none⟩=some (.slice none 0 0):=(zJ BK446.out 2).trans rfl;have hfz97_0:=zI BK446.out 0;have hfz97_1:=zI BK446.out 1;have hfz97_2:=zI BK446.out 2)|((with_reducible refine xA (t:=30) (p:=6) rfl ?_);refine yY (t:=30) (p:=6) (v:=?vo_w98) (w1:=((((w94.setCell ⟨gb444,0,none⟩ (.slice Ao95 t467.length co95)).setCell ⟨gb446,0,none⟩ (.slice Ao95 t467.length co95)).setCell ⟨gb446,1,none⟩ (.slice Ao91 t464.length co91)).setCell ⟨gb446,2,none⟩ (.slice Ao85 t461.length co85))) ?hg ?ho ?hn ?hr ?_;(case ho=>rfl);(case hg=>rfl);(case hn=>rfl);(case hr=>first|(go_simp;done)|(go_simp;rfl));intro w98 hw;have n0_:zN (Kd.V (Kd.int .i64) 3 w98 w.heap.size (fun k_=>((P0_0_ k_∨P0_1_ k_∨P0_2_ k_)∨w.heap.size≤k_)∧some k_≠(.slice Ao75 t449.length co75:Value).ownBlock∧some k_≠(.slice Ao77 t452.length co77:Value).ownBlock∧some k_≠(.slice Ao78 t455.length co78:Value).ownBlock∧some k_≠(.slice Ao83 t458.length co83:Value).ownBlock∧some k_≠(.slice Ao85 t461.length co85:Value).ownBlock∧some k_≠(.slice Ao91 t464.length co91:Value).ownBlock∧some k_≠(.slice Ao95 t467.length co95:Value).ownBlock∧k_≠gb444∧k_≠gb445∧k_≠gb446) (.slice A0_0 l0_0.length c0_0) l0_0):=⟨(by rw [hw];exact (by (with_reducible repeat (first|apply zL|apply zK|apply zM));exact zO (zS (p:=⟨gb446,2,none⟩) (zS (p:=⟨gb446,1,none⟩) (zS (p:=⟨gb446,0,none⟩) (zS (p:=⟨gb444,0,none⟩) (zO (zO HO_445000.out (fun k_ hk=>(⟨hk,hk.1.1.1.1.2.2.2.2.1⟩:_∧k_≠gb444))) (fun k_ hk=>(⟨hk,hk.1.1.1.1.1.2.2.2.2.2.2⟩:_∧k_≠gb446))) (fun _ hk=>hk.1.2) (.slice Ao95 t467.length co95)) (fun _ hk=>hk.2) (.slice Ao95 t467.length co95)) (fun _ hk=>hk.2) (.slice Ao91 t464.length co91)) (fun _ hk=>hk.2) (.slice Ao85 t461.length co85)) (fun _ hk=>⟨hk.1.1.1.1.1.1.1,⟨hk.1.1.1.1.1.1.2.1,⟨hk.1.1.1.1.1.1.2.2.1,⟨hk.1.1.1.1.1.1.2.2.2.1,⟨hk.1.1.1.1.1.2,⟨hk.1.1.1.1.2,⟨hk.1.1.1.2,⟨hk.1.1.2,⟨hk.1.1.1.1.1.1.2.2.2.2.1,⟨hk.1.1.1.1.1.1.2.2.2.2.2.1,hk.1.1.1.1.1.1.2.2.2.2.2.2⟩⟩⟩⟩⟩⟩⟩⟩⟩⟩)))⟩;have n1_:zN (Kd.V (Kd.int .i64) 3 w98 w.heap.size (fun k_=>((P0_0_ k_∨P0_1_ k_∨P0_2_ k_)∨w.heap.size≤k_)∧some k_≠(.slice Ao75 t449.length co75:Value).ownBlock∧some k_≠(.slice Ao77 t452.length co77:Value).ownBlock∧some k_≠(.slice Ao78 t455.length co78:Value).ownBlock∧some k_≠(.slice Ao83 t458.length co83:Value).ownBlock∧some k_≠(.slice Ao85 t461.length co85:Value).ownBlock∧some k_≠(.slice Ao91 t464.length co91:Value).ownBlock∧some k_≠(.slice Ao95 t467.length co95:Value).ownBlock∧k_≠gb444∧k_≠gb445∧k_≠gb446) (.slice A0_1 l0_1.length c0_1) l0_1):=⟨(by rw [hw];exact (by (with_reducible repeat (first|apply zL|apply zK|apply zM));exact zO (zS (p:=⟨gb446,2,none⟩) (zS (p:=⟨gb446,1,none⟩) (zS (p:=⟨gb446,0,none⟩) (zS (p:=⟨gb444,0,none⟩) (zO (zO HO_445001.out (fun k_ hk=>(⟨hk,hk.1.1.1.1.2.2.2.2.1⟩:_∧k_≠gb444))) (fun k_ hk=>(⟨hk,hk.1.1.1.1.1.2.2.2.2.2.2⟩:_∧k_≠gb446))) (fun _ hk=>hk.1.2) (.slice Ao95 t467.length co95)) (fun _ hk=>hk.2) (.slice Ao95 t467.length co95)) (fun _ hk=>hk.2) (.slice Ao91 t464.length co91)) (fun _ hk=>hk.2) (.slice Ao85 t461.length co85)) (fun _ hk=>⟨hk.1.1.1.1.1.1.1,⟨hk.1.1.1.1.1.1.2.1,⟨hk.1.1.1.1.1.1.2.2.1,⟨hk.1.1.1.1.1.1.2.2.2.1,⟨hk.1.1.1.1.1.2,⟨hk.1.1.1.1.2,⟨hk.1.1.1.2,⟨hk.1.1.2,⟨hk.1.1.1.1.1.1.2.2.2.2.1,⟨hk.1.1.1.1.1.1.2.2.2.2.2.1,hk.1.1.1.1.1.1.2.2.2.2.2.2⟩⟩⟩⟩⟩⟩⟩⟩⟩⟩)))⟩;have n2_:zN (Kd.V (Kd.int .i64) 3 w98 w.heap.size (fun k_=>((P0_0_ k_∨P0_1_ k_∨P0_2_ k_)∨w.heap.size≤k_)∧some k_≠(.slice Ao75 t449.length co75:Value).ownBlock∧some k_≠(.slice Ao77 t452.length co77:Value).ownBlock∧some k_≠(.slice Ao78 t455.length co78:Value).ownBlock∧some k_≠(.slice Ao83 t458.length co83:Value).ownBlock∧some k_≠(.slice Ao85 t461.length co85:Value).ownBlock∧some k_≠(.slice Ao91 t464.length co91:Value).ownBlock∧some k_≠(.slice Ao95 t467.length co95:Value).ownBlock∧k_≠gb444∧k_≠gb445∧k_≠gb446) (.slice A0_2 l0_2.length c0_2) l0_2):=⟨(by rw [hw];exact (by (with_reducible repeat (first|apply zL|apply zK|apply zM));exact zO (zS (p:=⟨gb446,2,none⟩) (zS (p:=⟨gb446,1,none⟩) (zS (p:=⟨gb446,0,none⟩) (zS (p:=⟨gb444,0,none⟩) (zO (zO HO_445002.out (fun k_ hk=>(⟨hk,hk.1.1.1.1.2.2.2.2.1⟩:_∧k_≠gb444))) (fun k_ hk=>(⟨hk,hk.1.1.1.1.1.2.2.2.2.2.2⟩:_∧k_≠gb446))) (fun _ hk=>hk.1.2) (.slice Ao95 t467.length co95)) (fun _ hk=>hk.2) (.slice Ao95 t467.length co95)) (fun _ hk=>hk.2) (.slice Ao91 t464.length co91)) (fun _ hk=>hk.2) (.slice Ao85 t461.length co85)) (fun _ hk=>⟨hk.1.1.1.1.1.1.1,⟨hk.1.1.1.1.1.1.2.1,⟨hk.1.1.1.1.1.1.2.2.1,⟨hk.1.1.1.1.1.1.2.2.2.1,⟨hk.1.1.1.1.1.2,⟨hk.1.1.1.1.2,⟨hk.1.1.1.2,⟨hk.1.1.2,⟨hk.1.1.1.1.1.1.2.2.2.2.1,⟨hk.1.1.1.1.1.1.2.2.2.2.2.1,hk.1.1.1.1.1.1.2.2.2.2.2.2⟩⟩⟩⟩⟩⟩⟩⟩⟩⟩)))⟩;have n3_:zN (Kd.R (Kd.int .i64) 3 w98 w.heap.size (fun k_=>(w.heap.size≤k_)∧some k_≠(.slice Ao77 t452.length co77:Value).ownBlock∧some k_≠(.slice Ao78 t455.length co78:Value).ownBlock∧some k_≠(.slice Ao83 t458.length co83:Value).ownBlock∧some k_≠(.slice Ao85 t461.length co85:Value).ownBlock∧some k_≠(.slice Ao91 t464.length co91:Value).ownBlock∧some k_≠(.slice Ao95 t467.length co95:Value).ownBlock∧k_≠gb445) (.slice Ao75 t449.length co75) t449):=⟨(by rw [hw];exact (by (with_reducible repeat (first|apply zR|apply zQ|apply zU));exact yB (zT (p:=⟨gb446,2,none⟩) (zT (p:=⟨gb446,1,none⟩) (zT (p:=⟨gb446,0,none⟩) (zT (p:=⟨gb444,0,none⟩) (zX (zX HO451.out BK444.out (by decide)) BK446.out (by decide)) (fun _ hk=>hk.1.2) (.slice Ao95 t467.length co95)) (fun _ hk=>hk.2) (.slice Ao95 t467.length co95)) (fun _ hk=>hk.2) (.slice Ao91 t464.length co91)) (fun _ hk=>hk.2) (.slice Ao85 t461.length co85)) (fun _ hk=>⟨hk.1.1.1.1.1.1.1,⟨hk.1.1.1.1.1.1.2.1,⟨hk.1.1.1.1.1.1.2.2.1,⟨hk.1.1.1.1.1.2,⟨hk.1.1.1.1.2,⟨hk.1.1.1.2,⟨hk.1.1.2,hk.1.1.1.1.1.1.2.2.2⟩⟩⟩⟩⟩⟩⟩)))⟩;have n4_:zN (Kd.R (Kd.int .i64) 3 w98 w.heap.size (fun k_=>(w.heap.size≤k_)∧some k_≠(.slice Ao75 t449.length co75:Value).ownBlock∧some k_≠(.slice Ao78 t455.length co78:Value).ownBlock∧some k_≠(.slice Ao83 t458.length co83:Value).ownBlock∧some k_≠(.slice Ao85 t461.length co85:Value).ownBlock∧some k_≠(.slice Ao91 t464.length co91:Value).ownBlock∧some k_≠(.slice Ao95 t467.length co95:Value).ownBlock∧k_≠gb445) (.slice Ao77 t452.length co77) t452):=⟨(by rw [hw];exact (by (with_reducible repeat (first|apply zR|apply zQ|apply zU));exact yB (zT (p:=⟨gb446,2,none⟩) (zT (p:=⟨gb446,1,none⟩) (zT (p:=⟨gb446,0,none⟩) (zT (p:=⟨gb444,0,none⟩) (zX (zX HO454.out BK444.out (by decide)) BK446.out (by decide)) (fun _ hk=>hk.1.2) (.slice Ao95 t467.length co95)) (fun _ hk=>hk.2) (.slice Ao95 t467.length co95)) (fun _ hk=>hk.2) (.slice Ao91 t464.length co91)) (fun _ hk=>hk.2) (.slice Ao85 t461.length co85)) (fun _ hk=>⟨hk.1.1.1.1.1.1.1,⟨hk.1.1.1.1.1.1.2.1,⟨hk.1.1.1.1.1.1.2.2.1,⟨hk.1.1.1.1.1.2,⟨hk.1.1.1.1.2,⟨hk.1.1.1.2,⟨hk.1.1.2,hk.1.1.1.1.1.1.2.2.2⟩⟩⟩⟩⟩⟩⟩)))⟩;have n5_:zN (Kd.R (Kd.int .i64) 3 w98 w.heap.size (fun k_=>(w.heap.size≤k_)∧some k_≠(.slice Ao75 t449.length co75:Value).ownBlock∧some k_≠(.slice Ao77 t452.length co77:Value).ownBlock∧some k_≠(.slice Ao83 t458.length co83:Value).ownBlock∧some k_≠(.slice Ao85 t461.length co85:Value).ownBlock∧some k_≠(.slice Ao91 t464.length co91:Value).ownBlock∧some k_≠(.slice Ao95 t467.length co95:Value).ownBlock∧k_≠gb445) (.slice Ao78 t455.length co78) t455):=⟨(by rw [hw];exact (by (with_reducible repeat (first|apply zR|apply zQ|apply zU));exact yB (zT (p:=⟨gb446,2,none⟩) (zT (p:=⟨gb446,1,none⟩) (zT (p:=⟨gb446,0,none⟩) (zT (p:=⟨gb444,0,none⟩) (zX (zX HO457.out BK444.out (by decide)) BK446.out (by decide)) (fun _ hk=>hk.1.2) (.slice Ao95 t467.length co95)) (fun _ hk=>hk.2) (.slice Ao95 t467.length co95)) (fun _ hk=>hk.2) (.slice Ao91 t464.length co91)) (fun _ hk=>hk.2) (.slice Ao85 t461.length co85)) (fun _ hk=>⟨hk.1.1.1.1.1.1.1,⟨hk.1.1.1.1.1.1.2.1,⟨hk.1.1.1.1.1.1.2.2.1,⟨hk.1.1.1.1.1.2,⟨hk.1.1.1.1.2,⟨hk.1.1.1.2,⟨hk.1.1.2,hk.1.1.1.1.1.1.2.2.2⟩⟩⟩⟩⟩⟩⟩)))⟩;have n6_:zN (Kd.R (Kd.int .i64) 3 w98 w.heap.size (fun k_=>(w.heap.size≤k_)∧some k_≠(.slice Ao75 t449.length co75:Value).ownBlock∧some k_≠(.slice Ao77 t452.length co77:Value).ownBlock∧some k_≠(.slice Ao78 t455.length co78:Value).ownBlock∧some k_≠(.slice Ao85 t461.length co85:Value).ownBlock∧some k_≠(.slice Ao91 t464.length co91:Value).ownBlock∧some k_≠(.slice Ao95 t467.length co95:Value).ownBlock∧k_≠gb445) (.slice Ao83 t458.length co83) t458):=⟨(by rw [hw];exact (by (with_reducible repeat (first|apply zR|apply zQ|apply zU));exact yB (zT (p:=⟨gb446,2,none⟩) (zT (p:=⟨gb446,1,none⟩) (zT (p:=⟨gb446,0,none⟩) (zT (p:=⟨gb444,0,none⟩) (zX (zX HO460.out BK444.out (by decide)) BK446.out (by decide)) (fun _ hk=>hk.1.2) (.slice Ao95 t467.length co95)) (fun _ hk=>hk.2) (.slice Ao95 t467.length co95)) (fun _ hk=>hk.2) (.slice Ao91 t464.length co91)) (fun _ hk=>hk.2) (.slice Ao85 t461.length co85)) (fun _ hk=>⟨hk.1.1.1.1.1.1.1.1.1.1,⟨hk.1.1.1.1.1.1.1.1.2,⟨hk.1.1.1.1.1.1.1.2,⟨hk.1.1.1.1.1.1.2,⟨hk.1.1.1.1.2,⟨hk.1.1.1.2,⟨hk.1.1.2,hk.1.1.1.1.1.2⟩⟩⟩⟩⟩⟩⟩)))⟩;have n7_:zN (Kd.R (Kd.int .i64) 3 w98 w.heap.size (fun k_=>(w.heap.size≤k_)∧some k_≠(.slice Ao75 t449.length co75:Value).ownBlock∧some k_≠(.slice Ao77 t452.length co77:Value).ownBlock∧some k_≠(.slice Ao78 t455.length co78:Value).ownBlock∧some k_≠(.slice Ao83 t458.length co83:Value).ownBlock∧some k_≠(.slice Ao91 t464.length co91:Value).ownBlock∧some k_≠(.slice Ao95 t467.length co95:Value).ownBlock∧k_≠gb445) (.slice Ao85 t461.length co85) t461):=⟨(by rw [hw];exact (by (with_reducible repeat (first|apply zR|apply zQ|apply zU));exact yB (zT (p:=⟨gb446,2,none⟩) (zT (p:=⟨gb446,1,none⟩) (zT (p:=⟨gb446,0,none⟩) (zT (p:=⟨gb444,0,none⟩) (zX (zX HO463.out BK444.out (by decide)) BK446.out (by decide)) (fun _ hk=>hk.1.2) (.slice Ao95 t467.length co95)) (fun _ hk=>hk.2) (.slice Ao95 t467.length co95)) (fun _ hk=>hk.2) (.slice Ao91 t464.length co91)) (fun _ hk=>hk.2) (.slice Ao85 t461.length co85)) (fun _ hk=>⟨hk.1.1.1.1.1.1.1.1.1.1,⟨hk.1.1.1.1.1.1.1.1.2,⟨hk.1.1.1.1.1.1.1.2,⟨hk.1.1.1.1.1.1.2,⟨hk.1.1.1.1.1.2,⟨hk.1.1.1.2,⟨hk.1.1.2,hk.1.1.1.1.2⟩⟩⟩⟩⟩⟩⟩)))⟩;have n8_:zN (Kd.R (Kd.int .i64) 3 w98 w.heap.size (fun k_=>(w.heap.size≤k_)∧some k_≠(.slice Ao75 t449.length co75:Value).ownBlock∧some k_≠(.slice Ao77 t452.length co77:Value).ownBlock∧some k_≠(.slice Ao78 t455.length co78:Value).ownBlock∧some k_≠(.slice Ao83 t458.length co83:Value).ownBlock∧some k_≠(.slice Ao85 t461.length co85:Value).ownBlock∧some k_≠(.slice Ao95 t467.length co95:Value).ownBlock∧k_≠gb445) (.slice Ao91 t464.length co91) t464):=⟨(by rw [hw];exact (by (with_reducible repeat (first|apply zR|apply zQ|apply zU));exact yB (zT (p:=⟨gb446,2,none⟩) (zT (p:=⟨gb446,1,none⟩) (zT (p:=⟨gb446,0,none⟩) (zT (p:=⟨gb444,0,none⟩) (zX (zX HO466.out BK444.out (by decide)) BK446.out (by decide)) (fun _ hk=>hk.1.2) (.slice Ao95 t467.length co95)) (fun _ hk=>hk.2) (.slice Ao95 t467.length co95)) (fun _ hk=>hk.2) (.slice Ao91 t464.length co91)) (fun _ hk=>hk.2) (.slice Ao85 t461.length co85)) (fun _ hk=>⟨hk.1.1.1.1.1.1.1.1.1.1,⟨hk.1.1.1.1.1.1.1.1.2,⟨hk.1.1.1.1.1.1.1.2,⟨hk.1.1.1.1.1.1.2,⟨hk.1.1.1.1.1.2,⟨hk.1.1.1.1.2,⟨hk.1.1.2,hk.1.1.1.2⟩⟩⟩⟩⟩⟩⟩)))⟩;have n9_:zN (Kd.R (Kd.int .i64) 3 w98 w.heap.size (fun k_=>(w.heap.size≤k_)∧some k_≠(.slice Ao75 t449.length co75:Value).ownBlock∧some k_≠(.slice Ao77 t452.length co77:Value).ownBlock∧some k_≠(.slice Ao78 t455.length co78:Value).ownBlock∧some k_≠(.slice Ao83 t458.length co83:Value).ownBlock∧some k_≠(.slice Ao85 t461.length co85:Value).ownBlock∧some k_≠(.slice Ao91 t464.length co91:Value).ownBlock∧k_≠gb445) (.slice Ao95 t467.length co95) t467):=⟨(by rw [hw];exact (by (with_reducible repeat (first|apply zR|apply zQ|apply zU));exact yB (zT (p:=⟨gb446,2,none⟩) (zT (p:=⟨gb446,1,none⟩) (zT (p:=⟨gb446,0,none⟩) (zT (p:=⟨gb444,0,none⟩) (zX (zX HO469.out BK444.out (by decide)) BK446.out (by decide)) (fun _ hk=>hk.1.2) (.slice Ao95 t467.length co95)) (fun _ hk=>hk.2) (.slice Ao95 t467.length co95)) (fun _ hk=>hk.2) (.slice Ao91 t464.length co91)) (fun _ hk=>hk.2) (.slice Ao85 t461.length co85)) (fun _ hk=>⟨hk.1.1.1.1.1.1.1.1.1.1,⟨hk.1.1.1.1.1.1.1.1.2,⟨hk.1.1.1.1.1.1.1.2,⟨hk.1.1.1.1.1.1.2,⟨hk.1.1.1.1.1.2,⟨hk.1.1.1.1.2,⟨hk.1.1.1.2,hk.1.1.2⟩⟩⟩⟩⟩⟩⟩)))⟩;have n10_:zN (w98.heap[gb444]?=some (.cells #[.slice Ao95 t467.length co95,.slice Ao91 t464.length co91,.slice Ao85 t461.length co85] 30 (0,0))):=⟨(by rw [hw];exact (by (with_reducible repeat (first|refine zB ?_ _|refine zF ?_|refine zA ?_ _));refine zY ?_ NB444_446.out _;(with_reducible repeat (first|refine zB ?_ _|refine zF ?_|refine zA ?_ _));refine zY ?_ NB444_446.out _;(with_reducible repeat (first|refine zB ?_ _|refine zF ?_|refine zA ?_ _));refine zY ?_ NB444_446.out _;(with_reducible repeat (first|refine zB ?_ _|refine zF ?_|refine zA ?_ _));refine yE (cs:=#[.slice Ao75 t449.length co75,.slice Ao91 t464.length co91,.slice Ao85 t461.length co85]) ?_ 0 _ rfl;(with_reducible repeat (first|refine zB ?_ _|refine zF ?_|refine zA ?_ _));exact BK444.out))⟩;have n11_:zN (w98.heap[gb445]?=some (.cells #[.int .i64 a1] 3 (0,0))):=⟨(by rw [hw];exact (by (with_reducible repeat (first|refine zB ?_ _|refine zF ?_|refine zA ?_ _));refine zY ?_ NB445_446.out _;(with_reducible repeat (first|refine zB ?_ _|refine zF ?_|refine zA ?_ _));refine zY ?_ NB445_446.out _;(with_reducible repeat (first|refine zB ?_ _|refine zF ?_|refine zA ?_ _));refine zY ?_ NB445_446.out _;(with_reducible repeat (first|refine zB ?_ _|refine zF ?_|refine zA ?_ _));refine zY ?_ NB445_444.out _;(with_reducible repeat (first|refine zB ?_ _|refine zF ?_|refine zA ?_ _));exact BK445.out))⟩;have n12_:zN (w98.heap[gb446]?=some (.cells #[.slice Ao95 t467.length co95,.slice Ao91 t464.length co91,.slice Ao85 t461.length co85] 30 (0,0))):=⟨(by rw [hw];exact (by (with_reducible repeat (first|refine zB ?_ _|refine zF ?_|refine zA ?_ _));refine yE (cs:=#[.slice Ao95 t467.length co95,.slice Ao91 t464.length co91,.slice none 0 0]) ?_ 2 _ rfl;(with_reducible repeat (first|refine zB ?_ _|refine zF ?_|refine zA ?_ _));refine yE (cs:=#[.slice Ao95 t467.length co95,.slice none 0 0,.slice none 0 0]) ?_ 1 _ rfl;(with_reducible repeat (first|refine zB ?_ _|refine zF ?_|refine zA ?_ _));refine yE (cs:=#[.slice none 0 0,.slice none 0 0,.slice none 0 0]) ?_ 0 _ rfl;(with_reducible repeat (first|refine zB ?_ _|refine zF ?_|refine zA ?_ _));refine zY ?_ NB446_444.out _;(with_reducible repeat (first|refine zB ?_ _|refine zF ?_|refine zA ?_ _));exact BK446.out))⟩;have n13_:zN (Below w.heap.size w w98):=⟨(by rw [hw];exact (by repeat (first|(with_reducible first|exact HB.out|apply zG|apply zD|apply zH|refine zC ?_ GE444.out|refine zC ?_ GE445.out|refine zC ?_ GE446.out)|exact HB.out)))⟩;clear hw;clear HO_445000;clear HO_445001;clear HO_445002;clear HO451;clear HO454;clear HO457;clear HO460;clear HO463;clear HO466;clear HO469;clear BK444;clear BK445;clear BK446;clear HB;have HO_445000:=n0_;have HO_445001:=n1_;have HO_445002:=n2_;have HO451:=n3_;have HO454:=n4_;have HO457:=n5_;have HO460:=n6_;have HO463:=n7_;have HO466:=n8_;have HO469:=n9_;have BK444:=n10_;have BK445:=n11_;have BK446:=n12_;have HB:=n13_;clear n0_ n1_ n2_ n3_ n4_ n5_ n6_ n7_ n8_ n9_ n10_ n11_ n12_ n13_))
      refine bodyPost_ret (results_ct rfl _ _ gb446 30 #[.slice Ao95 t467.length co95,.slice Ao91 t464.length co91,.slice Ao85 t461.length co85] (0,0) _ rfl (by (with_reducible repeat (first|refine zB ?_ _|refine zF ?_|refine zA ?_ _));exact BK446.out) Tryd.underlying30 rfl (by kernel_rfl)) rfl ?_
      exact ⟨_,_,_,by first|rfl|(simp [errW_none,errW_some] <;> rfl)|(simp [*,errW_none,errW_some] <;> rfl),zO (R_V (by (with_reducible repeat (first|apply zR|apply zQ|apply zU));exact yB HO469.out (fun _ hk=>hk.1))) (fun k_ hk=>by first|exact ⟨(.inr (hk.1)),hk.2⟩|exact (.inr (hk))),zO (R_V (by (with_reducible repeat (first|apply zR|apply zQ|apply zU));exact yB HO466.out (fun _ hk=>hk.1))) (fun k_ hk=>by first|exact ⟨(.inr (hk.1)),hk.2⟩|exact (.inr (hk))),zO (R_V (by (with_reducible repeat (first|apply zR|apply zQ|apply zU));exact yB HO463.out (fun _ hk=>hk.1))) (fun k_ hk=>by first|exact ⟨(.inr (hk.1)),hk.2⟩|exact (.inr (hk))),by repeat (first|(with_reducible first|exact HB.out|apply zG|apply zD|apply zH|refine zC ?_ GE444.out|refine zC ?_ GE445.out|refine zC ?_ GE446.out)|exact HB.out)⟩
    ·rw [if_neg c42] at H
     have c42b0:(a2 == 1)=false:=beq_eq_false_iff_ne.mpr c42
     have c42b1:(a2 != 1)=true:=bne_iff_ne.mpr c42
     by_cases c99:a2=2
     ·rw [if_pos c99] at H
      have c99b0:(a2 == 2)=true:=beq_iff_eq.mpr c99
      have c99b1:(a2 != 2)=false:=bne_eq_false_iff_eq.mpr c99
      clear c99
      replace H:=Option.bind_eq_some_iff.mp H
      obtain ⟨t470,A1000,H⟩:=H
      replace H:(some (t449,t458,t470,0))=some (r1,r2,r3,r4):=H
      have A100:=Zk A1000
      clear A1000
      simp only [Option.some.injEq,Prod.mk.injEq] at H
      obtain ⟨rfl,rfl,rfl,rfl⟩:=H
      have hnb101:=NB444_445.out
      have hnc101:=NB445_444.out
      have hnb102:=NB444_446.out
      have hnc102:=NB446_444.out
      have hcz103_0:wc.cell? ⟨gb444,0,none⟩=some (.slice A0_0 l0_0.length c0_0):=(zJ BK444.out 0).trans rfl
      have hcz103_1:wc.cell? ⟨gb444,1,none⟩=some (.slice A0_1 l0_1.length c0_1):=(zJ BK444.out 1).trans rfl
      have hcz103_2:wc.cell? ⟨gb444,2,none⟩=some (.slice A0_2 l0_2.length c0_2):=(zJ BK444.out 2).trans rfl
      have hfz103_0:=zI BK444.out 0
      have hfz103_1:=zI BK444.out 1
      have hfz103_2:=zI BK444.out 2
      try go_wp2_with (first|((with_reducible refine yD (f:=39) rfl ?_);refine yM (some 27) rfl rfl Tryd.func39 (by kernel_rfl) rfl #[.agg #[.slice A0_0 l0_0.length c0_0,.slice A0_1 l0_1.length c0_1,.slice A0_2 l0_2.length c0_2]] rfl (by (try simp only [List.map_toArray,List.map_cons,List.map_nil]);first|done|rfl|(simp only [List.length_drop,List.length_take];rfl)) ?_;(with_reducible refine (signal_copied.calls _ _ l0_0 _ _ l0_1 _ _ l0_2 t449 t452 t455 _ ?side1 ?side2 ?side3 ?side4 ?side5 ?side6 A39.out).mono ?_);(case side1=>repeat (first|exact (yH HO_445000.out).2.2|(with_reducible refine yG ?_ _)|(with_reducible refine yF ?_ _)|(with_reducible refine yI ?_)));(case side2=>exact (yH HO_445000.out).2.1);(case side3=>repeat (first|exact (yH HO_445001.out).2.2|(with_reducible refine yG ?_ _)|(with_reducible refine yF ?_ _)|(with_reducible refine yI ?_)));(case side4=>exact (yH HO_445001.out).2.1);(case side5=>repeat (first|exact (yH HO_445002.out).2.2|(with_reducible refine yG ?_ _)|(with_reducible refine yF ?_ _)|(with_reducible refine yI ?_)));(case side6=>exact (yH HO_445002.out).2.1);rintro e w104 ⟨v450,v453,v456,rfl,ho0,ho1,ho2,hb⟩;refine ⟨_,rfl,?_⟩;have n0_:=Zk (zO (yO (yO (yO (V_old (by (with_reducible repeat (first|apply zL|apply zK|apply zM));exact HO_445000.out) hb) (zZ ho0)) (zZ ho1)) (zZ ho2)) (fun _ h_=>h_.1));have n1_:=Zk (zO (yO (yO (yO (V_old (by (with_reducible repeat (first|apply zL|apply zK|apply zM));exact HO_445001.out) hb) (zZ ho0)) (zZ ho1)) (zZ ho2)) (fun _ h_=>h_.1));have n2_:=Zk (zO (yO (yO (yO (V_old (by (with_reducible repeat (first|apply zL|apply zK|apply zM));exact HO_445002.out) hb) (zZ ho0)) (zZ ho1)) (zZ ho2)) (fun _ h_=>h_.1));have n3_:=Zk (yU (R_newB (R_newM (M:=fun k_=>(w.heap.size≤k_)) ho0 (zP (by repeat (first|(with_reducible first|exact HB.out|apply zG|apply zD|apply zH|refine zC ?_ GE444.out|refine zC ?_ GE445.out|refine zC ?_ GE446.out)|exact HB.out))) (fun k_ h_=>h_)) (g:=gb445) (o:=.cells #[.int .i64 a1] 3 (0,0)) (by (with_reducible repeat (first|refine zB ?_ _|refine zF ?_|refine zA ?_ _));exact BK445.out)) (zP (by repeat (first|(with_reducible first|exact HB.out|apply zG|apply zD|apply zH|refine zC ?_ GE444.out|refine zC ?_ GE445.out|refine zC ?_ GE446.out)|exact HB.out))));have n4_:=Zk (yU (R_newB (R_newM (M:=fun k_=>(w.heap.size≤k_)) ho1 (zP (by repeat (first|(with_reducible first|exact HB.out|apply zG|apply zD|apply zH|refine zC ?_ GE444.out|refine zC ?_ GE445.out|refine zC ?_ GE446.out)|exact HB.out))) (fun k_ h_=>h_)) (g:=gb445) (o:=.cells #[.int .i64 a1] 3 (0,0)) (by (with_reducible repeat (first|refine zB ?_ _|refine zF ?_|refine zA ?_ _));exact BK445.out)) (zP (by repeat (first|(with_reducible first|exact HB.out|apply zG|apply zD|apply zH|refine zC ?_ GE444.out|refine zC ?_ GE445.out|refine zC ?_ GE446.out)|exact HB.out))));have n5_:=Zk (yU (R_newB (R_newM (M:=fun k_=>(w.heap.size≤k_)) ho2 (zP (by repeat (first|(with_reducible first|exact HB.out|apply zG|apply zD|apply zH|refine zC ?_ GE444.out|refine zC ?_ GE445.out|refine zC ?_ GE446.out)|exact HB.out))) (fun k_ h_=>h_)) (g:=gb445) (o:=.cells #[.int .i64 a1] 3 (0,0)) (by (with_reducible repeat (first|refine zB ?_ _|refine zF ?_|refine zA ?_ _));exact BK445.out)) (zP (by repeat (first|(with_reducible first|exact HB.out|apply zG|apply zD|apply zH|refine zC ?_ GE444.out|refine zC ?_ GE445.out|refine zC ?_ GE446.out)|exact HB.out))));have n6_:=Zk (zW (g:=gb444) (o:=.cells #[.slice A0_0 l0_0.length c0_0,.slice A0_1 l0_1.length c0_1,.slice A0_2 l0_2.length c0_2] 30 (0,0)) (by (with_reducible repeat (first|refine zB ?_ _|refine zF ?_|refine zA ?_ _));exact BK444.out) hb);have n7_:=Zk (zW (g:=gb445) (o:=.cells #[.int .i64 a1] 3 (0,0)) (by (with_reducible repeat (first|refine zB ?_ _|refine zF ?_|refine zA ?_ _));exact BK445.out) hb);have n8_:=Zk (zW (g:=gb446) (o:=.cells #[.slice none 0 0,.slice none 0 0,.slice none 0 0] 30 (0,0)) (by (with_reducible repeat (first|refine zB ?_ _|refine zF ?_|refine zA ?_ _));exact BK446.out) hb);have n9_:=Zk (yA (by repeat (first|(with_reducible first|exact HB.out|apply zG|apply zD|apply zH|refine zC ?_ GE444.out|refine zC ?_ GE445.out|refine zC ?_ GE446.out)|exact HB.out)) hb);clear HO_445000;clear HO_445001;clear HO_445002;clear BK444;clear BK445;clear BK446;clear HB;have HO_445000:=n0_;have HO_445001:=n1_;have HO_445002:=n2_;have HO451:=n3_;have HO454:=n4_;have HO457:=n5_;have BK444:=n6_;have BK445:=n7_;have BK446:=n8_;have HB:=n9_;clear n0_ n1_ n2_ n3_ n4_ n5_ n6_ n7_ n8_ n9_;(try clear hb);(try clear hb2);(try clear hk);(try clear hi);(try clear ho0);(try clear ho1);(try clear ho2);obtain ⟨Ao105,co105,eo105⟩:=yQ HO451.out;subst eo105;have hcz106_0:w104.cell? ⟨gb444,0,none⟩=some (.slice A0_0 l0_0.length c0_0):=(zJ BK444.out 0).trans rfl;have hcz106_1:w104.cell? ⟨gb444,1,none⟩=some (.slice A0_1 l0_1.length c0_1):=(zJ BK444.out 1).trans rfl;have hcz106_2:w104.cell? ⟨gb444,2,none⟩=some (.slice A0_2 l0_2.length c0_2):=(zJ BK444.out 2).trans rfl;have hfz106_0:=zI BK444.out 0;have hfz106_1:=zI BK444.out 1;have hfz106_2:=zI BK444.out 2;obtain ⟨Ao107,co107,eo107⟩:=yQ HO454.out;subst eo107;obtain ⟨Ao108,co108,eo108⟩:=yQ HO457.out;subst eo108)|((with_reducible refine xA (t:=30) (p:=3) rfl ?_);refine yY (t:=30) (p:=3) (v:=?vo_w109) (w1:=(((w104.setCell ⟨gb444,0,none⟩ (.slice Ao105 t449.length co105)).setCell ⟨gb444,1,none⟩ (.slice Ao107 t452.length co107)).setCell ⟨gb444,2,none⟩ (.slice Ao108 t455.length co108))) ?hg ?ho ?hn ?hr ?_;(case ho=>rfl);(case hg=>rfl);(case hn=>rfl);(case hr=>first|(go_simp;done)|(go_simp;rfl));intro w109 hw;have n0_:zN (Kd.V (Kd.int .i64) 3 w109 w.heap.size (fun k_=>((P0_0_ k_∨P0_1_ k_∨P0_2_ k_)∨w.heap.size≤k_)∧some k_≠(.slice Ao105 t449.length co105:Value).ownBlock∧some k_≠(.slice Ao107 t452.length co107:Value).ownBlock∧some k_≠(.slice Ao108 t455.length co108:Value).ownBlock∧k_≠gb444∧k_≠gb445∧k_≠gb446) (.slice A0_0 l0_0.length c0_0) l0_0):=⟨(by rw [hw];exact (by (with_reducible repeat (first|apply zL|apply zK|apply zM));exact zO (zS (p:=⟨gb444,2,none⟩) (zS (p:=⟨gb444,1,none⟩) (zS (p:=⟨gb444,0,none⟩) (zO HO_445000.out (fun k_ hk=>(⟨hk,hk.1.1.1.2.1⟩:_∧k_≠gb444))) (fun _ hk=>hk.2) (.slice Ao105 t449.length co105)) (fun _ hk=>hk.2) (.slice Ao107 t452.length co107)) (fun _ hk=>hk.2) (.slice Ao108 t455.length co108)) (fun _ hk=>⟨hk.1.1.1.1.1,⟨hk.1.1.1.2,⟨hk.1.1.2,⟨hk.1.2,⟨hk.1.1.1.1.2.1,⟨hk.1.1.1.1.2.2.1,hk.1.1.1.1.2.2.2⟩⟩⟩⟩⟩⟩)))⟩;have n1_:zN (Kd.V (Kd.int .i64) 3 w109 w.heap.size (fun k_=>((P0_0_ k_∨P0_1_ k_∨P0_2_ k_)∨w.heap.size≤k_)∧some k_≠(.slice Ao105 t449.length co105:Value).ownBlock∧some k_≠(.slice Ao107 t452.length co107:Value).ownBlock∧some k_≠(.slice Ao108 t455.length co108:Value).ownBlock∧k_≠gb444∧k_≠gb445∧k_≠gb446) (.slice A0_1 l0_1.length c0_1) l0_1):=⟨(by rw [hw];exact (by (with_reducible repeat (first|apply zL|apply zK|apply zM));exact zO (zS (p:=⟨gb444,2,none⟩) (zS (p:=⟨gb444,1,none⟩) (zS (p:=⟨gb444,0,none⟩) (zO HO_445001.out (fun k_ hk=>(⟨hk,hk.1.1.1.2.1⟩:_∧k_≠gb444))) (fun _ hk=>hk.2) (.slice Ao105 t449.length co105)) (fun _ hk=>hk.2) (.slice Ao107 t452.length co107)) (fun _ hk=>hk.2) (.slice Ao108 t455.length co108)) (fun _ hk=>⟨hk.1.1.1.1.1,⟨hk.1.1.1.2,⟨hk.1.1.2,⟨hk.1.2,⟨hk.1.1.1.1.2.1,⟨hk.1.1.1.1.2.2.1,hk.1.1.1.1.2.2.2⟩⟩⟩⟩⟩⟩)))⟩;have n2_:zN (Kd.V (Kd.int .i64) 3 w109 w.heap.size (fun k_=>((P0_0_ k_∨P0_1_ k_∨P0_2_ k_)∨w.heap.size≤k_)∧some k_≠(.slice Ao105 t449.length co105:Value).ownBlock∧some k_≠(.slice Ao107 t452.length co107:Value).ownBlock∧some k_≠(.slice Ao108 t455.length co108:Value).ownBlock∧k_≠gb444∧k_≠gb445∧k_≠gb446) (.slice A0_2 l0_2.length c0_2) l0_2):=⟨(by rw [hw];exact (by (with_reducible repeat (first|apply zL|apply zK|apply zM));exact zO (zS (p:=⟨gb444,2,none⟩) (zS (p:=⟨gb444,1,none⟩) (zS (p:=⟨gb444,0,none⟩) (zO HO_445002.out (fun k_ hk=>(⟨hk,hk.1.1.1.2.1⟩:_∧k_≠gb444))) (fun _ hk=>hk.2) (.slice Ao105 t449.length co105)) (fun _ hk=>hk.2) (.slice Ao107 t452.length co107)) (fun _ hk=>hk.2) (.slice Ao108 t455.length co108)) (fun _ hk=>⟨hk.1.1.1.1.1,⟨hk.1.1.1.2,⟨hk.1.1.2,⟨hk.1.2,⟨hk.1.1.1.1.2.1,⟨hk.1.1.1.1.2.2.1,hk.1.1.1.1.2.2.2⟩⟩⟩⟩⟩⟩)))⟩;have n3_:zN (Kd.R (Kd.int .i64) 3 w109 w.heap.size (fun k_=>(w.heap.size≤k_)∧some k_≠(.slice Ao107 t452.length co107:Value).ownBlock∧some k_≠(.slice Ao108 t455.length co108:Value).ownBlock∧k_≠gb445) (.slice Ao105 t449.length co105) t449):=⟨(by rw [hw];exact (by (with_reducible repeat (first|apply zR|apply zQ|apply zU));exact yB (zT (p:=⟨gb444,2,none⟩) (zT (p:=⟨gb444,1,none⟩) (zT (p:=⟨gb444,0,none⟩) (zX HO451.out BK444.out (by decide)) (fun _ hk=>hk.2) (.slice Ao105 t449.length co105)) (fun _ hk=>hk.2) (.slice Ao107 t452.length co107)) (fun _ hk=>hk.2) (.slice Ao108 t455.length co108)) (fun _ hk=>⟨hk.1.1.1,⟨hk.1.1.2.1,⟨hk.1.1.2.2,hk.1.2⟩⟩⟩)))⟩;have n4_:zN (Kd.R (Kd.int .i64) 3 w109 w.heap.size (fun k_=>(w.heap.size≤k_)∧some k_≠(.slice Ao105 t449.length co105:Value).ownBlock∧some k_≠(.slice Ao108 t455.length co108:Value).ownBlock∧k_≠gb445) (.slice Ao107 t452.length co107) t452):=⟨(by rw [hw];exact (by (with_reducible repeat (first|apply zR|apply zQ|apply zU));exact yB (zT (p:=⟨gb444,2,none⟩) (zT (p:=⟨gb444,1,none⟩) (zT (p:=⟨gb444,0,none⟩) (zX HO454.out BK444.out (by decide)) (fun _ hk=>hk.2) (.slice Ao105 t449.length co105)) (fun _ hk=>hk.2) (.slice Ao107 t452.length co107)) (fun _ hk=>hk.2) (.slice Ao108 t455.length co108)) (fun _ hk=>⟨hk.1.1.1,⟨hk.1.1.2.1,⟨hk.1.1.2.2,hk.1.2⟩⟩⟩)))⟩;have n5_:zN (Kd.R (Kd.int .i64) 3 w109 w.heap.size (fun k_=>(w.heap.size≤k_)∧some k_≠(.slice Ao105 t449.length co105:Value).ownBlock∧some k_≠(.slice Ao107 t452.length co107:Value).ownBlock∧k_≠gb445) (.slice Ao108 t455.length co108) t455):=⟨(by rw [hw];exact (by (with_reducible repeat (first|apply zR|apply zQ|apply zU));exact yB (zT (p:=⟨gb444,2,none⟩) (zT (p:=⟨gb444,1,none⟩) (zT (p:=⟨gb444,0,none⟩) (zX HO457.out BK444.out (by decide)) (fun _ hk=>hk.2) (.slice Ao105 t449.length co105)) (fun _ hk=>hk.2) (.slice Ao107 t452.length co107)) (fun _ hk=>hk.2) (.slice Ao108 t455.length co108)) (fun _ hk=>⟨hk.1.1.1,⟨hk.1.1.2.1,⟨hk.1.1.2.2,hk.1.2⟩⟩⟩)))⟩;have n6_:zN (w109.heap[gb444]?=some (.cells #[.slice Ao105 t449.length co105,.slice Ao107 t452.length co107,.slice Ao108 t455.length co108] 30 (0,0))):=⟨(by rw [hw];exact (by (with_reducible repeat (first|refine zB ?_ _|refine zF ?_|refine zA ?_ _));refine yE (cs:=#[.slice Ao105 t449.length co105,.slice Ao107 t452.length co107,.slice A0_2 l0_2.length c0_2]) ?_ 2 _ rfl;(with_reducible repeat (first|refine zB ?_ _|refine zF ?_|refine zA ?_ _));refine yE (cs:=#[.slice Ao105 t449.length co105,.slice A0_1 l0_1.length c0_1,.slice A0_2 l0_2.length c0_2]) ?_ 1 _ rfl;(with_reducible repeat (first|refine zB ?_ _|refine zF ?_|refine zA ?_ _));refine yE (cs:=#[.slice A0_0 l0_0.length c0_0,.slice A0_1 l0_1.length c0_1,.slice A0_2 l0_2.length c0_2]) ?_ 0 _ rfl;(with_reducible repeat (first|refine zB ?_ _|refine zF ?_|refine zA ?_ _));exact BK444.out))⟩;have n7_:zN (w109.heap[gb445]?=some (.cells #[.int .i64 a1] 3 (0,0))):=⟨(by rw [hw];exact (by (with_reducible repeat (first|refine zB ?_ _|refine zF ?_|refine zA ?_ _));refine zY ?_ NB445_444.out _;(with_reducible repeat (first|refine zB ?_ _|refine zF ?_|refine zA ?_ _));refine zY ?_ NB445_444.out _;(with_reducible repeat (first|refine zB ?_ _|refine zF ?_|refine zA ?_ _));refine zY ?_ NB445_444.out _;(with_reducible repeat (first|refine zB ?_ _|refine zF ?_|refine zA ?_ _));exact BK445.out))⟩;have n8_:zN (w109.heap[gb446]?=some (.cells #[.slice none 0 0,.slice none 0 0,.slice none 0 0] 30 (0,0))):=⟨(by rw [hw];exact (by (with_reducible repeat (first|refine zB ?_ _|refine zF ?_|refine zA ?_ _));refine zY ?_ NB446_444.out _;(with_reducible repeat (first|refine zB ?_ _|refine zF ?_|refine zA ?_ _));refine zY ?_ NB446_444.out _;(with_reducible repeat (first|refine zB ?_ _|refine zF ?_|refine zA ?_ _));refine zY ?_ NB446_444.out _;(with_reducible repeat (first|refine zB ?_ _|refine zF ?_|refine zA ?_ _));exact BK446.out))⟩;have n9_:zN (Below w.heap.size w w109):=⟨(by rw [hw];exact (by repeat (first|(with_reducible first|exact HB.out|apply zG|apply zD|apply zH|refine zC ?_ GE444.out|refine zC ?_ GE445.out|refine zC ?_ GE446.out)|exact HB.out)))⟩;clear hw;clear HO_445000;clear HO_445001;clear HO_445002;clear HO451;clear HO454;clear HO457;clear BK444;clear BK445;clear BK446;clear HB;have HO_445000:=n0_;have HO_445001:=n1_;have HO_445002:=n2_;have HO451:=n3_;have HO454:=n4_;have HO457:=n5_;have BK444:=n6_;have BK445:=n7_;have BK446:=n8_;have HB:=n9_;clear n0_ n1_ n2_ n3_ n4_ n5_ n6_ n7_ n8_ n9_))
      have n0_:=Zk (zM HO_445000.out)
      have n1_:=Zk (zM HO_445001.out)
      have n2_:=Zk (zM HO_445002.out)
      have n3_:=Zk (zU HO451.out)
      have n4_:=Zk (zU HO454.out)
      have n5_:=Zk (zU HO457.out)
      have n6_:=Zk (zF BK444.out)
      have n7_:=Zk (zF BK445.out)
      have n8_:=Zk (zF BK446.out)
      have n9_:=Zk (zH HB.out)
      clear HO_445000
      clear HO_445001
      clear HO_445002
      clear HO451
      clear HO454
      clear HO457
      clear BK444
      clear BK445
      clear BK446
      clear HB
      have HO_445000:=n0_
      have HO_445001:=n1_
      have HO_445002:=n2_
      have HO451:=n3_
      have HO454:=n4_
      have HO457:=n5_
      have BK444:=n6_
      have BK445:=n7_
      have BK446:=n8_
      have HB:=n9_
      clear n0_ n1_ n2_ n3_ n4_ n5_ n6_ n7_ n8_ n9_
      refine start_ (n:=12) (S:=fun w'=>w'.cell? ⟨gb444,0,none⟩=some (.slice Ao105 t449.length co105)∧w'.cell? ⟨gb444,1,none⟩=some (.slice Ao107 t452.length co107)∧w'.cell? ⟨gb444,2,none⟩=some (.slice Ao108 t455.length co108)) (ds:=[9,11]) #[false,false,false,false,false,false,false,false,false,false,false,false] (by kernel_rfl) rfl rfl ⟨(zJ BK444.out 0).trans rfl,(zJ BK444.out 1).trans rfl,(zJ BK444.out 2).trans rfl⟩ (fun hHeld=>?_);refine with_tabW signal_Set.tab5 signal_Set.bits5 (fun HT_ HW_=>?_)
      generalize w109.drew=w110 at HO_445000 HO_445001 HO_445002 HO451 HO454 HO457 BK444 BK445 BK446 HB hHeld ⊢
      refine pure_ (i:=0) (N:=some 28) (v:=?_) (a':=?_) #[true,false,false,false,false,false,false,false,false,false,false,false] rfl rfl (any_of HT_.out (by kernel_rfl)) (fun _ _ _ h=>h) (Or.inl ⟨by rfl,?_⟩) ?_ ?_
      rotate_left
      ·intro w'
       go_simp
       with_reducible rfl
      rotate_left
      ·simp only [Act.put,List.setIfInBounds_toArray,List.set_cons_zero,List.set_cons_succ,yX,i32_w]
       rfl
      refine pure_ (i:=2) (N:=some 30) (v:=?_) (a':=?_) #[true,false,true,false,false,false,false,false,false,false,false,false] rfl rfl (any_of HT_.out (by kernel_rfl)) (fun _ _ _ h=>h) (Or.inl ⟨by rfl,?_⟩) ?_ ?_
      rotate_left
      ·intro w'
       go_simp
       with_reducible rfl
      rotate_left
      ·simp only [Act.put,List.setIfInBounds_toArray,List.set_cons_zero,List.set_cons_succ,yX,i32_w]
       rfl
      refine pure_ (i:=4) (N:=some 32) (v:=?_) (a':=?_) #[true,false,true,false,true,false,false,false,false,false,false,false] rfl rfl (any_of HT_.out (by kernel_rfl)) (fun _ _ _ h=>h) (Or.inl ⟨by rfl,?_⟩) ?_ ?_
      rotate_left
      ·intro w'
       go_simp
       with_reducible rfl
      rotate_left
      ·simp only [Act.put,List.setIfInBounds_toArray,List.set_cons_zero,List.set_cons_succ,yX,i32_w]
       rfl
      refine pure_ (i:=6) (N:=some 34) (v:=?_) (a':=?_) #[true,false,true,false,true,false,true,false,false,false,false,false] rfl rfl (any_of HT_.out (by kernel_rfl)) (fun _ _ _ h=>h) (Or.inl ⟨by rfl,?_⟩) ?_ ?_
      rotate_left
      ·intro w'
       go_simp
       with_reducible rfl
      rotate_left
      ·simp only [Act.put,List.setIfInBounds_toArray,List.set_cons_zero,List.set_cons_succ,yX,i32_w]
       rfl
      refine take_ (i:=1) (N:=some 29) (v:=?_) (a':=?_) #[true,true,true,false,true,false,true,false,false,false,false,false] rfl rfl (take_ofW HT_.out HW_.out (by kernel_rfl)) (fun _ _ _ h=>h) (Or.inl ⟨by rfl,?_⟩) hHeld ?_ ?_
      rotate_left
      ·rintro w' ⟨s0,s1,s2⟩
       go_simp
       with_reducible rfl
      rotate_left
      ·simp only [Act.put,List.setIfInBounds_toArray,List.set_cons_zero,List.set_cons_succ,yX,i32_w]
       rfl
      refine take_ (i:=5) (N:=some 33) (v:=?_) (a':=?_) #[true,true,true,false,true,true,true,false,false,false,false,false] rfl rfl (take_ofW HT_.out HW_.out (by kernel_rfl)) (fun _ _ _ h=>h) (Or.inl ⟨by rfl,?_⟩) hHeld ?_ ?_
      rotate_left
      ·rintro w' ⟨s0,s1,s2⟩
       go_simp
       with_reducible rfl
      rotate_left
      ·simp only [Act.put,List.setIfInBounds_toArray,List.set_cons_zero,List.set_cons_succ,yX,i32_w]
       rfl
      refine one_ (i:=3) (N:=some 31) #[true,true,true,true,true,true,true,false,false,false,false,false] rfl rfl (one_of HT_.out (by kernel_rfl)) (by decide) (fun K hK=>?_)
      refine goes_ Tryd.func40 (by kernel_rfl) rfl #[.slice Ao107 t452.length co107,.func (.func 48) #[] #[.pointer (some ⟨gb445,0,none⟩)]] (by rfl) rfl rfl (by (try simp only [List.map_toArray,List.map_cons,List.map_nil]);first|done|rfl|(simp only [List.length_drop,List.length_take];rfl)) ?_
      with_reducible refine (signal_without_1_48.calls _ _ t452 a1 t458 _ ?side1 ?side2 ?side3 A40.out).mono ?_
      (case side1=>repeat (first|exact (yZ HO454.out).2.2|(with_reducible refine yG ?_ _)|(with_reducible refine yF ?_ _)|(with_reducible refine yI ?_)))
      (case side2=>exact (yZ HO454.out).2.1)
      (case side3=>exact by (with_reducible repeat (first|refine zB ?_ _|refine zF ?_|refine zA ?_ _));exact BK445.out)
      rintro e w111 ⟨v459,rfl,ho0,hb⟩
      refine ⟨_,rfl,?_⟩
      have n0_:=Zk (yL (by (with_reducible repeat (first|apply zL|apply zK|apply zM));exact HO_445000.out) (zZ ho0) hb)
      have n1_:=Zk (yL (by (with_reducible repeat (first|apply zL|apply zK|apply zM));exact HO_445001.out) (zZ ho0) hb)
      have n2_:=Zk (yL (by (with_reducible repeat (first|apply zL|apply zK|apply zM));exact HO_445002.out) (zZ ho0) hb)
      have n3_:=Zk (yK (by (with_reducible repeat (first|apply zR|apply zQ|apply zU));exact HO451.out) (zZ ho0) hb)
      have n4_:=Zk (yK (by (with_reducible repeat (first|apply zR|apply zQ|apply zU));exact HO454.out) (zZ ho0) hb)
      have n5_:=Zk (yK (by (with_reducible repeat (first|apply zR|apply zQ|apply zU));exact HO457.out) (zZ ho0) hb)
      have n6_:=Zk (yU (R_newB (yR (yR (yR (R_newM (M:=fun k_=>(w.heap.size≤k_)) ho0 (zP (by repeat (first|(with_reducible first|exact HB.out|apply zG|apply zD|apply zH|refine zC ?_ GE444.out|refine zC ?_ GE445.out|refine zC ?_ GE446.out)|exact HB.out))) (fun k_ h_=>h_)) (R_lt (by (with_reducible repeat (first|apply zR|apply zQ|apply zU));exact HO451.out))) (R_lt (by (with_reducible repeat (first|apply zR|apply zQ|apply zU));exact HO454.out))) (R_lt (by (with_reducible repeat (first|apply zR|apply zQ|apply zU));exact HO457.out))) (g:=gb445) (o:=.cells #[.int .i64 a1] 3 (0,0)) (by (with_reducible repeat (first|refine zB ?_ _|refine zF ?_|refine zA ?_ _));exact BK445.out)) (zP (by repeat (first|(with_reducible first|exact HB.out|apply zG|apply zD|apply zH|refine zC ?_ GE444.out|refine zC ?_ GE445.out|refine zC ?_ GE446.out)|exact HB.out))))
      have n7_:=Zk (zW (g:=gb444) (o:=.cells #[.slice Ao105 t449.length co105,.slice Ao107 t452.length co107,.slice Ao108 t455.length co108] 30 (0,0)) (by (with_reducible repeat (first|refine zB ?_ _|refine zF ?_|refine zA ?_ _));exact BK444.out) hb)
      have n8_:=Zk (zW (g:=gb445) (o:=.cells #[.int .i64 a1] 3 (0,0)) (by (with_reducible repeat (first|refine zB ?_ _|refine zF ?_|refine zA ?_ _));exact BK445.out) hb)
      have n9_:=Zk (zW (g:=gb446) (o:=.cells #[.slice none 0 0,.slice none 0 0,.slice none 0 0] 30 (0,0)) (by (with_reducible repeat (first|refine zB ?_ _|refine zF ?_|refine zA ?_ _));exact BK446.out) hb)
      have n10_:=Zk (yA (by repeat (first|(with_reducible first|exact HB.out|apply zG|apply zD|apply zH|refine zC ?_ GE444.out|refine zC ?_ GE445.out|refine zC ?_ GE446.out)|exact HB.out)) hb)
      clear HO_445000
      clear HO_445001
      clear HO_445002
      clear HO451
      clear HO454
      clear HO457
      clear BK444
      clear BK445
      clear BK446
      clear HB
      have HO_445000:=n0_
      have HO_445001:=n1_
      have HO_445002:=n2_
      have HO451:=n3_
      have HO454:=n4_
      have HO457:=n5_
      have HO460:=n6_
      have BK444:=n7_
      have BK445:=n8_
      have BK446:=n9_
      have HB:=n10_
      clear n0_ n1_ n2_ n3_ n4_ n5_ n6_ n7_ n8_ n9_ n10_
      (try clear hb)
      (try clear hb2)
      (try clear hk)
      (try clear hi)
      (try clear ho0)
      refine hK.out _ _ ⟨(zJ BK444.out 0).trans rfl,(zJ BK444.out 1).trans rfl,(zJ BK444.out 2).trans rfl⟩ (fun hHeld=>?_)
      clear hK K
      refine norm_ (a':=?_) ?_ ?_
      rotate_left
      ·show Act.put _ (some 31) _=_
       simp only [Act.put,List.setIfInBounds_toArray,List.set_cons_zero,List.set_cons_succ,yX,i32_w]
       rfl
      refine pure_ (i:=8) (N:=some 36) (v:=?_) (a':=?_) #[true,true,true,true,true,true,true,false,true,false,false,false] rfl rfl (any_of HT_.out (by kernel_rfl)) (fun _ _ _ h=>h) (Or.inl ⟨by rfl,?_⟩) ?_ ?_
      rotate_left
      ·intro w'
       go_simp
       with_reducible rfl
      rotate_left
      ·simp only [Act.put,List.setIfInBounds_toArray,List.set_cons_zero,List.set_cons_succ,yX,i32_w]
       rfl
      refine one_ (i:=7) (N:=some 35) #[true,true,true,true,true,true,true,true,true,false,false,false] rfl rfl (one_of HT_.out (by kernel_rfl)) (by decide) (fun K hK=>?_)
      refine goes_ Tryd.func40 (by kernel_rfl) rfl #[.slice Ao108 t455.length co108,.func (.func 48) #[] #[.pointer (some ⟨gb445,0,none⟩)]] (by rfl) rfl rfl (by (try simp only [List.map_toArray,List.map_cons,List.map_nil]);first|done|rfl|(simp only [List.length_drop,List.length_take];rfl)) ?_
      with_reducible refine (signal_without_1_48.calls _ _ t455 a1 t461 _ ?side1 ?side2 ?side3 A41.out).mono ?_
      (case side1=>repeat (first|exact (yZ HO457.out).2.2|(with_reducible refine yG ?_ _)|(with_reducible refine yF ?_ _)|(with_reducible refine yI ?_)))
      (case side2=>exact (yZ HO457.out).2.1)
      (case side3=>exact by (with_reducible repeat (first|refine zB ?_ _|refine zF ?_|refine zA ?_ _));exact BK445.out)
      rintro e w112 ⟨v462,rfl,ho0,hb⟩
      refine ⟨_,rfl,?_⟩
      have n0_:=Zk (yL (by (with_reducible repeat (first|apply zL|apply zK|apply zM));exact HO_445000.out) (zZ ho0) hb)
      have n1_:=Zk (yL (by (with_reducible repeat (first|apply zL|apply zK|apply zM));exact HO_445001.out) (zZ ho0) hb)
      have n2_:=Zk (yL (by (with_reducible repeat (first|apply zL|apply zK|apply zM));exact HO_445002.out) (zZ ho0) hb)
      have n3_:=Zk (yK (by (with_reducible repeat (first|apply zR|apply zQ|apply zU));exact HO451.out) (zZ ho0) hb)
      have n4_:=Zk (yK (by (with_reducible repeat (first|apply zR|apply zQ|apply zU));exact HO454.out) (zZ ho0) hb)
      have n5_:=Zk (yK (by (with_reducible repeat (first|apply zR|apply zQ|apply zU));exact HO457.out) (zZ ho0) hb)
      have n6_:=Zk (yK (by (with_reducible repeat (first|apply zR|apply zQ|apply zU));exact HO460.out) (zZ ho0) hb)
      have n7_:=Zk (yU (R_newB (yR (yR (yR (yR (R_newM (M:=fun k_=>(w.heap.size≤k_)) ho0 (zP (by repeat (first|(with_reducible first|exact HB.out|apply zG|apply zD|apply zH|refine zC ?_ GE444.out|refine zC ?_ GE445.out|refine zC ?_ GE446.out)|exact HB.out))) (fun k_ h_=>h_)) (R_lt (by (with_reducible repeat (first|apply zR|apply zQ|apply zU));exact HO451.out))) (R_lt (by (with_reducible repeat (first|apply zR|apply zQ|apply zU));exact HO454.out))) (R_lt (by (with_reducible repeat (first|apply zR|apply zQ|apply zU));exact HO457.out))) (R_lt (by (with_reducible repeat (first|apply zR|apply zQ|apply zU));exact HO460.out))) (g:=gb445) (o:=.cells #[.int .i64 a1] 3 (0,0)) (by (with_reducible repeat (first|refine zB ?_ _|refine zF ?_|refine zA ?_ _));exact BK445.out)) (zP (by repeat (first|(with_reducible first|exact HB.out|apply zG|apply zD|apply zH|refine zC ?_ GE444.out|refine zC ?_ GE445.out|refine zC ?_ GE446.out)|exact HB.out))))
      have n8_:=Zk (zW (g:=gb444) (o:=.cells #[.slice Ao105 t449.length co105,.slice Ao107 t452.length co107,.slice Ao108 t455.length co108] 30 (0,0)) (by (with_reducible repeat (first|refine zB ?_ _|refine zF ?_|refine zA ?_ _));exact BK444.out) hb)
      have n9_:=Zk (zW (g:=gb445) (o:=.cells #[.int .i64 a1] 3 (0,0)) (by (with_reducible repeat (first|refine zB ?_ _|refine zF ?_|refine zA ?_ _));exact BK445.out) hb)
      have n10_:=Zk (zW (g:=gb446) (o:=.cells #[.slice none 0 0,.slice none 0 0,.slice none 0 0] 30 (0,0)) (by (with_reducible repeat (first|refine zB ?_ _|refine zF ?_|refine zA ?_ _));exact BK446.out) hb)
      have n11_:=Zk (yA (by repeat (first|(with_reducible first|exact HB.out|apply zG|apply zD|apply zH|refine zC ?_ GE444.out|refine zC ?_ GE445.out|refine zC ?_ GE446.out)|exact HB.out)) hb)
      clear HO_445000
      clear HO_445001
      clear HO_445002
      clear HO451
      clear HO454
      clear HO457
      clear HO460
      clear BK444
      clear BK445
      clear BK446
      clear HB
      have HO_445000:=n0_
      have HO_445001:=n1_
      have HO_445002:=n2_
      have HO451:=n3_
      have HO454:=n4_
      have HO457:=n5_
      have HO460:=n6_
      have HO463:=n7_
      have BK444:=n8_
      have BK445:=n9_
      have BK446:=n10_
      have HB:=n11_
      clear n0_ n1_ n2_ n3_ n4_ n5_ n6_ n7_ n8_ n9_ n10_ n11_
      (try clear hb)
      (try clear hb2)
      (try clear hk)
      (try clear hi)
      (try clear ho0)
      obtain ⟨Ao113,co113,eo113⟩:=yQ HO460.out
      (first|subst eo113|(injection eo113 with f1_ f2_ f3_;have f4_:=f1_.symm;have f5_:=f3_.symm;clear f1_ f2_ f3_;subst f4_;subst f5_))
      obtain ⟨Ao115,co115,eo115⟩:=yQ HO463.out
      (first|subst eo115|(injection eo115 with f1_ f2_ f3_;have f4_:=f1_.symm;have f5_:=f3_.symm;clear f1_ f2_ f3_;subst f4_;subst f5_))
      refine hK.out _ _ ⟨(zJ BK444.out 0).trans rfl,(zJ BK444.out 1).trans rfl,(zJ BK444.out 2).trans rfl⟩ (fun hHeld=>?_)
      clear hK K
      refine norm_ (a':=?_) ?_ ?_
      rotate_left
      ·show Act.put _ (some 35) _=_
       simp only [Act.put,List.setIfInBounds_toArray,List.set_cons_zero,List.set_cons_succ,yX,i32_w]
       rfl
      refine last_ (i:=9) (N:=none) #[true,true,true,true,true,true,true,true,true,true,false,false] rfl rfl (one_of HT_.out (by kernel_rfl)) (by decide) (fun K hK=>?_)
      have hs114:w112.cell? ⟨gb444,1,none⟩=some (.slice Ao107 t452.length co107):=(zJ BK444.out 1).trans rfl
      have hfs114:=zI BK444.out 1
      have hns114_1:=NB445_444.out
      have hns114_2:=NB446_444.out
      have hms114_1:=NB444_445.out
      have hms114_2:=NB444_446.out
      refine skip_ (w1:=?_) (by rfl) rfl ?_ ?_
      rotate_left
      ·go_simp
       rfl
      refine hK.out _ _ ?_
      clear hK K
      refine pure_ (i:=10) (N:=some 37) (v:=?_) (a':=?_) #[true,true,true,true,true,true,true,true,true,true,true,false] rfl rfl (any_of HT_.out (by kernel_rfl)) (fun _ _ _ h=>h) (Or.inl ⟨by rfl,?_⟩) ?_ ?_
      rotate_left
      ·intro w'
       go_simp
       with_reducible rfl
      rotate_left
      ·simp only [Act.put,List.setIfInBounds_toArray,List.set_cons_zero,List.set_cons_succ,yX,i32_w]
       rfl
      refine last_ (i:=11) (N:=none) #[true,true,true,true,true,true,true,true,true,true,true,true] rfl rfl (one_of HT_.out (by kernel_rfl)) (by decide) (fun K hK=>?_)
      have hs116:w112.cell? ⟨gb444,2,none⟩=some (.slice Ao108 t455.length co108):=(zJ BK444.out 2).trans rfl
      have hfs116:=zI BK444.out 2
      have hns116_1:=NB445_444.out
      have hns116_2:=NB446_444.out
      have hms116_1:=NB444_445.out
      have hms116_2:=NB444_446.out
      refine skip_ (w1:=?_) (by rfl) rfl ?_ ?_
      rotate_left
      ·go_simp
       rfl
      refine hK.out _ _ ?_
      clear hK K
      refine done_ (done_of HT_.out (by kernel_rfl)) ?_
      have hcz117_0:w112.cell? ⟨gb444,0,none⟩=some (.slice Ao105 t449.length co105):=(zJ BK444.out 0).trans rfl
      have hcz117_1:w112.cell? ⟨gb444,1,none⟩=some (.slice Ao107 t452.length co107):=(zJ BK444.out 1).trans rfl
      have hcz117_2:w112.cell? ⟨gb444,2,none⟩=some (.slice Ao108 t455.length co108):=(zJ BK444.out 2).trans rfl
      have hfz117_0:=zI BK444.out 0
      have hfz117_1:=zI BK444.out 1
      have hfz117_2:=zI BK444.out 2
      have hnb118:=NB445_446.out
      have hnc118:=NB446_445.out
      have hcz119_0:w112.cell? ⟨gb445,0,none⟩=some (.int .i64 a1):=(zJ BK445.out 0).trans rfl
      have hfz119_0:=zI BK445.out 0
      try go_wp2_with (first|((with_reducible refine yD (f:=45) rfl ?_);refine yM (some 58) rfl rfl Tryd.func45 (by kernel_rfl) rfl #[.slice Ao115 t461.length co115,.int .i64 a1] rfl (by (try simp only [List.map_toArray,List.map_cons,List.map_nil]);first|done|rfl|(simp only [List.length_drop,List.length_take];rfl)) ?_;(with_reducible refine (signal_with.calls kj3 _ _ t461 a1 t470 _ ?side1 ?side2 A100.out).mono ?_);(case side1=>refine (yZ (e:=3) (base:=w.heap.size) (ok:=fun k_=>(((((((w.heap.size≤k_)∧True)∧some k_≠(.slice Ao105 t449.length co105:Value).ownBlock)∧some k_≠(.slice Ao107 t452.length co107:Value).ownBlock)∧some k_≠(.slice Ao108 t455.length co108:Value).ownBlock)∧some k_≠(.slice Ao113 t458.length co113:Value).ownBlock)∧k_≠gb445)) (n:=t461.length) (c:=co115) ?_).2.2;exact (by (with_reducible repeat (first|apply zR|apply zQ|apply zU));exact (yB (zT (p:=⟨gb444,2,none⟩) (zT (p:=⟨gb444,1,none⟩) (zX HO463.out BK444.out (by decide)) (fun _ hk=>hk.2) (.slice Ao113 t458.length co113)) (fun _ hk=>hk.2) (.slice Ao115 t461.length co115)) (fun _ h_=>h_.1))));(case side2=>exact (yZ HO463.out).2.1);rintro e w120 ⟨v471,rfl,ho0,hb⟩;refine ⟨_,rfl,?_⟩;have n0_:=Zk (yL (by (with_reducible repeat (first|apply zL|apply zK|apply zM));exact (zO (zS (p:=⟨gb444,2,none⟩) (zS (p:=⟨gb444,1,none⟩) (zO HO_445000.out (fun k_ hk=>(⟨hk,hk.1.1.2.2.2.2.1⟩:_∧k_≠gb444))) (fun _ hk=>hk.2) (.slice Ao113 t458.length co113)) (fun _ hk=>hk.2) (.slice Ao115 t461.length co115)) (fun _ h_=>h_.1))) (zZ ho0) hb);have n1_:=Zk (yL (by (with_reducible repeat (first|apply zL|apply zK|apply zM));exact (zO (zS (p:=⟨gb444,2,none⟩) (zS (p:=⟨gb444,1,none⟩) (zO HO_445001.out (fun k_ hk=>(⟨hk,hk.1.1.2.2.2.2.1⟩:_∧k_≠gb444))) (fun _ hk=>hk.2) (.slice Ao113 t458.length co113)) (fun _ hk=>hk.2) (.slice Ao115 t461.length co115)) (fun _ h_=>h_.1))) (zZ ho0) hb);have n2_:=Zk (yL (by (with_reducible repeat (first|apply zL|apply zK|apply zM));exact (zO (zS (p:=⟨gb444,2,none⟩) (zS (p:=⟨gb444,1,none⟩) (zO HO_445002.out (fun k_ hk=>(⟨hk,hk.1.1.2.2.2.2.1⟩:_∧k_≠gb444))) (fun _ hk=>hk.2) (.slice Ao113 t458.length co113)) (fun _ hk=>hk.2) (.slice Ao115 t461.length co115)) (fun _ h_=>h_.1))) (zZ ho0) hb);have n3_:=Zk (yK (by (with_reducible repeat (first|apply zR|apply zQ|apply zU));exact (yB (zT (p:=⟨gb444,2,none⟩) (zT (p:=⟨gb444,1,none⟩) (zX HO451.out BK444.out (by decide)) (fun _ hk=>hk.2) (.slice Ao113 t458.length co113)) (fun _ hk=>hk.2) (.slice Ao115 t461.length co115)) (fun _ h_=>h_.1))) (zZ ho0) hb);have n4_:=Zk (yK (by (with_reducible repeat (first|apply zR|apply zQ|apply zU));exact (yB (zT (p:=⟨gb444,2,none⟩) (zT (p:=⟨gb444,1,none⟩) (zX HO454.out BK444.out (by decide)) (fun _ hk=>hk.2) (.slice Ao113 t458.length co113)) (fun _ hk=>hk.2) (.slice Ao115 t461.length co115)) (fun _ h_=>h_.1))) (zZ ho0) hb);have n5_:=Zk (yK (by (with_reducible repeat (first|apply zR|apply zQ|apply zU));exact (yB (zT (p:=⟨gb444,2,none⟩) (zT (p:=⟨gb444,1,none⟩) (zX HO457.out BK444.out (by decide)) (fun _ hk=>hk.2) (.slice Ao113 t458.length co113)) (fun _ hk=>hk.2) (.slice Ao115 t461.length co115)) (fun _ h_=>h_.1))) (zZ ho0) hb);have n6_:=Zk (yK (by (with_reducible repeat (first|apply zR|apply zQ|apply zU));exact (yB (zT (p:=⟨gb444,2,none⟩) (zT (p:=⟨gb444,1,none⟩) (zX HO460.out BK444.out (by decide)) (fun _ hk=>hk.2) (.slice Ao113 t458.length co113)) (fun _ hk=>hk.2) (.slice Ao115 t461.length co115)) (fun _ h_=>h_.1))) (zZ ho0) hb);have n7_:=Zk (yK (by (with_reducible repeat (first|apply zR|apply zQ|apply zU));exact (yB (zT (p:=⟨gb444,2,none⟩) (zT (p:=⟨gb444,1,none⟩) (zX HO463.out BK444.out (by decide)) (fun _ hk=>hk.2) (.slice Ao113 t458.length co113)) (fun _ hk=>hk.2) (.slice Ao115 t461.length co115)) (fun _ h_=>h_.1))) (zZ ho0) hb);have n8_:=Zk (yU (R_newB (yR (yR (yR (yR (yR (R_newM (M:=fun k_=>(w.heap.size≤k_)) ho0 (zP (by repeat (first|(with_reducible first|exact HB.out|apply zG|apply zD|apply zH|refine zC ?_ GE444.out|refine zC ?_ GE445.out|refine zC ?_ GE446.out)|exact HB.out))) (fun k_ h_=>h_)) (R_lt (by (with_reducible repeat (first|apply zR|apply zQ|apply zU));exact (yB (zT (p:=⟨gb444,2,none⟩) (zT (p:=⟨gb444,1,none⟩) (zX HO451.out BK444.out (by decide)) (fun _ hk=>hk.2) (.slice Ao113 t458.length co113)) (fun _ hk=>hk.2) (.slice Ao115 t461.length co115)) (fun _ h_=>h_.1))))) (R_lt (by (with_reducible repeat (first|apply zR|apply zQ|apply zU));exact (yB (zT (p:=⟨gb444,2,none⟩) (zT (p:=⟨gb444,1,none⟩) (zX HO454.out BK444.out (by decide)) (fun _ hk=>hk.2) (.slice Ao113 t458.length co113)) (fun _ hk=>hk.2) (.slice Ao115 t461.length co115)) (fun _ h_=>h_.1))))) (R_lt (by (with_reducible repeat (first|apply zR|apply zQ|apply zU));exact (yB (zT (p:=⟨gb444,2,none⟩) (zT (p:=⟨gb444,1,none⟩) (zX HO457.out BK444.out (by decide)) (fun _ hk=>hk.2) (.slice Ao113 t458.length co113)) (fun _ hk=>hk.2) (.slice Ao115 t461.length co115)) (fun _ h_=>h_.1))))) (R_lt (by (with_reducible repeat (first|apply zR|apply zQ|apply zU));exact (yB (zT (p:=⟨gb444,2,none⟩) (zT (p:=⟨gb444,1,none⟩) (zX HO460.out BK444.out (by decide)) (fun _ hk=>hk.2) (.slice Ao113 t458.length co113)) (fun _ hk=>hk.2) (.slice Ao115 t461.length co115)) (fun _ h_=>h_.1))))) (R_lt (by (with_reducible repeat (first|apply zR|apply zQ|apply zU));exact (yB (zT (p:=⟨gb444,2,none⟩) (zT (p:=⟨gb444,1,none⟩) (zX HO463.out BK444.out (by decide)) (fun _ hk=>hk.2) (.slice Ao113 t458.length co113)) (fun _ hk=>hk.2) (.slice Ao115 t461.length co115)) (fun _ h_=>h_.1))))) (g:=gb445) (o:=.cells #[.int .i64 a1] 3 (0,0)) (by (with_reducible repeat (first|refine zB ?_ _|refine zF ?_|refine zA ?_ _));refine zY ?_ NB445_444.out _;(with_reducible repeat (first|refine zB ?_ _|refine zF ?_|refine zA ?_ _));refine zY ?_ NB445_444.out _;(with_reducible repeat (first|refine zB ?_ _|refine zF ?_|refine zA ?_ _));exact BK445.out)) (zP (by repeat (first|(with_reducible first|exact HB.out|apply zG|apply zD|apply zH|refine zC ?_ GE444.out|refine zC ?_ GE445.out|refine zC ?_ GE446.out)|exact HB.out))));have n9_:=Zk (zW (g:=gb444) (o:=.cells #[.slice Ao105 t449.length co105,.slice Ao113 t458.length co113,.slice Ao115 t461.length co115] 30 (0,0)) (by (with_reducible repeat (first|refine zB ?_ _|refine zF ?_|refine zA ?_ _));refine yE (cs:=#[.slice Ao105 t449.length co105,.slice Ao113 t458.length co113,.slice Ao108 t455.length co108]) ?_ 2 _ rfl;(with_reducible repeat (first|refine zB ?_ _|refine zF ?_|refine zA ?_ _));refine yE (cs:=#[.slice Ao105 t449.length co105,.slice Ao107 t452.length co107,.slice Ao108 t455.length co108]) ?_ 1 _ rfl;(with_reducible repeat (first|refine zB ?_ _|refine zF ?_|refine zA ?_ _));exact BK444.out) hb);have n10_:=Zk (zW (g:=gb445) (o:=.cells #[.int .i64 a1] 3 (0,0)) (by (with_reducible repeat (first|refine zB ?_ _|refine zF ?_|refine zA ?_ _));refine zY ?_ NB445_444.out _;(with_reducible repeat (first|refine zB ?_ _|refine zF ?_|refine zA ?_ _));refine zY ?_ NB445_444.out _;(with_reducible repeat (first|refine zB ?_ _|refine zF ?_|refine zA ?_ _));exact BK445.out) hb);have n11_:=Zk (zW (g:=gb446) (o:=.cells #[.slice none 0 0,.slice none 0 0,.slice none 0 0] 30 (0,0)) (by (with_reducible repeat (first|refine zB ?_ _|refine zF ?_|refine zA ?_ _));refine zY ?_ NB446_444.out _;(with_reducible repeat (first|refine zB ?_ _|refine zF ?_|refine zA ?_ _));refine zY ?_ NB446_444.out _;(with_reducible repeat (first|refine zB ?_ _|refine zF ?_|refine zA ?_ _));exact BK446.out) hb);have n12_:=Zk (yA (by repeat (first|(with_reducible first|exact HB.out|apply zG|apply zD|apply zH|refine zC ?_ GE444.out|refine zC ?_ GE445.out|refine zC ?_ GE446.out)|exact HB.out)) hb);clear HO_445000;clear HO_445001;clear HO_445002;clear HO451;clear HO454;clear HO457;clear HO460;clear HO463;clear BK444;clear BK445;clear BK446;clear HB;have HO_445000:=n0_;have HO_445001:=n1_;have HO_445002:=n2_;have HO451:=n3_;have HO454:=n4_;have HO457:=n5_;have HO460:=n6_;have HO463:=n7_;have HO472:=n8_;have BK444:=n9_;have BK445:=n10_;have BK446:=n11_;have HB:=n12_;clear n0_ n1_ n2_ n3_ n4_ n5_ n6_ n7_ n8_ n9_ n10_ n11_ n12_;(try clear hb);(try clear hb2);(try clear hk);(try clear hi);(try clear ho0);obtain ⟨Ao121,co121,eo121⟩:=yQ HO472.out;subst eo121;have hcz122_0:w120.cell? ⟨gb444,0,none⟩=some (.slice Ao105 t449.length co105):=(zJ BK444.out 0).trans rfl;have hcz122_1:w120.cell? ⟨gb444,1,none⟩=some (.slice Ao113 t458.length co113):=(zJ BK444.out 1).trans rfl;have hcz122_2:w120.cell? ⟨gb444,2,none⟩=some (.slice Ao115 t461.length co115):=(zJ BK444.out 2).trans rfl;have hfz122_0:=zI BK444.out 0;have hfz122_1:=zI BK444.out 1;have hfz122_2:=zI BK444.out 2;have hcz123_0:w120.cell? ⟨gb446,0,none⟩=some (.slice none 0 0):=(zJ BK446.out 0).trans rfl;have hcz123_1:w120.cell? ⟨gb446,1,none⟩=some (.slice none 0 0):=(zJ BK446.out 1).trans rfl;have hcz123_2:w120.cell? ⟨gb446,2,none⟩=some (.slice none 0 0):=(zJ BK446.out 2).trans rfl;have hfz123_0:=zI BK446.out 0;have hfz123_1:=zI BK446.out 1;have hfz123_2:=zI BK446.out 2)|((with_reducible refine xA (t:=30) (p:=6) rfl ?_);refine yY (t:=30) (p:=6) (v:=?vo_w124) (w1:=((((w120.setCell ⟨gb444,2,none⟩ (.slice Ao121 t470.length co121)).setCell ⟨gb446,0,none⟩ (.slice Ao105 t449.length co105)).setCell ⟨gb446,1,none⟩ (.slice Ao113 t458.length co113)).setCell ⟨gb446,2,none⟩ (.slice Ao121 t470.length co121))) ?hg ?ho ?hn ?hr ?_;(case ho=>rfl);(case hg=>rfl);(case hn=>rfl);(case hr=>first|(go_simp;done)|(go_simp;rfl));intro w124 hw;have n0_:zN (Kd.V (Kd.int .i64) 3 w124 w.heap.size (fun k_=>((P0_0_ k_∨P0_1_ k_∨P0_2_ k_)∨w.heap.size≤k_)∧some k_≠(.slice Ao105 t449.length co105:Value).ownBlock∧some k_≠(.slice Ao107 t452.length co107:Value).ownBlock∧some k_≠(.slice Ao108 t455.length co108:Value).ownBlock∧some k_≠(.slice Ao113 t458.length co113:Value).ownBlock∧some k_≠(.slice Ao115 t461.length co115:Value).ownBlock∧some k_≠(.slice Ao121 t470.length co121:Value).ownBlock∧k_≠gb444∧k_≠gb445∧k_≠gb446) (.slice A0_0 l0_0.length c0_0) l0_0):=⟨(by rw [hw];exact (by (with_reducible repeat (first|apply zL|apply zK|apply zM));exact zO (zS (p:=⟨gb446,2,none⟩) (zS (p:=⟨gb446,1,none⟩) (zS (p:=⟨gb446,0,none⟩) (zS (p:=⟨gb444,2,none⟩) (zO (zO HO_445000.out (fun k_ hk=>(⟨hk,hk.1.1.1.2.2.2.2.1⟩:_∧k_≠gb444))) (fun k_ hk=>(⟨hk,hk.1.1.1.1.2.2.2.2.2.2⟩:_∧k_≠gb446))) (fun _ hk=>hk.1.2) (.slice Ao121 t470.length co121)) (fun _ hk=>hk.2) (.slice Ao105 t449.length co105)) (fun _ hk=>hk.2) (.slice Ao113 t458.length co113)) (fun _ hk=>hk.2) (.slice Ao121 t470.length co121)) (fun _ hk=>⟨hk.1.1.1.1.1.1,⟨hk.1.1.1.1.1.2.1,⟨hk.1.1.1.1.1.2.2.1,⟨hk.1.1.1.1.1.2.2.2.1,⟨hk.1.1.1.1.2,⟨hk.1.1.1.2,⟨hk.1.1.2,⟨hk.1.1.1.1.1.2.2.2.2.1,⟨hk.1.1.1.1.1.2.2.2.2.2.1,hk.1.1.1.1.1.2.2.2.2.2.2⟩⟩⟩⟩⟩⟩⟩⟩⟩)))⟩;have n1_:zN (Kd.V (Kd.int .i64) 3 w124 w.heap.size (fun k_=>((P0_0_ k_∨P0_1_ k_∨P0_2_ k_)∨w.heap.size≤k_)∧some k_≠(.slice Ao105 t449.length co105:Value).ownBlock∧some k_≠(.slice Ao107 t452.length co107:Value).ownBlock∧some k_≠(.slice Ao108 t455.length co108:Value).ownBlock∧some k_≠(.slice Ao113 t458.length co113:Value).ownBlock∧some k_≠(.slice Ao115 t461.length co115:Value).ownBlock∧some k_≠(.slice Ao121 t470.length co121:Value).ownBlock∧k_≠gb444∧k_≠gb445∧k_≠gb446) (.slice A0_1 l0_1.length c0_1) l0_1):=⟨(by rw [hw];exact (by (with_reducible repeat (first|apply zL|apply zK|apply zM));exact zO (zS (p:=⟨gb446,2,none⟩) (zS (p:=⟨gb446,1,none⟩) (zS (p:=⟨gb446,0,none⟩) (zS (p:=⟨gb444,2,none⟩) (zO (zO HO_445001.out (fun k_ hk=>(⟨hk,hk.1.1.1.2.2.2.2.1⟩:_∧k_≠gb444))) (fun k_ hk=>(⟨hk,hk.1.1.1.1.2.2.2.2.2.2⟩:_∧k_≠gb446))) (fun _ hk=>hk.1.2) (.slice Ao121 t470.length co121)) (fun _ hk=>hk.2) (.slice Ao105 t449.length co105)) (fun _ hk=>hk.2) (.slice Ao113 t458.length co113)) (fun _ hk=>hk.2) (.slice Ao121 t470.length co121)) (fun _ hk=>⟨hk.1.1.1.1.1.1,⟨hk.1.1.1.1.1.2.1,⟨hk.1.1.1.1.1.2.2.1,⟨hk.1.1.1.1.1.2.2.2.1,⟨hk.1.1.1.1.2,⟨hk.1.1.1.2,⟨hk.1.1.2,⟨hk.1.1.1.1.1.2.2.2.2.1,⟨hk.1.1.1.1.1.2.2.2.2.2.1,hk.1.1.1.1.1.2.2.2.2.2.2⟩⟩⟩⟩⟩⟩⟩⟩⟩)))⟩;have n2_:zN (Kd.V (Kd.int .i64) 3 w124 w.heap.size (fun k_=>((P0_0_ k_∨P0_1_ k_∨P0_2_ k_)∨w.heap.size≤k_)∧some k_≠(.slice Ao105 t449.length co105:Value).ownBlock∧some k_≠(.slice Ao107 t452.length co107:Value).ownBlock∧some k_≠(.slice Ao108 t455.length co108:Value).ownBlock∧some k_≠(.slice Ao113 t458.length co113:Value).ownBlock∧some k_≠(.slice Ao115 t461.length co115:Value).ownBlock∧some k_≠(.slice Ao121 t470.length co121:Value).ownBlock∧k_≠gb444∧k_≠gb445∧k_≠gb446) (.slice A0_2 l0_2.length c0_2) l0_2):=⟨(by rw [hw];exact (by (with_reducible repeat (first|apply zL|apply zK|apply zM));exact zO (zS (p:=⟨gb446,2,none⟩) (zS (p:=⟨gb446,1,none⟩) (zS (p:=⟨gb446,0,none⟩) (zS (p:=⟨gb444,2,none⟩) (zO (zO HO_445002.out (fun k_ hk=>(⟨hk,hk.1.1.1.2.2.2.2.1⟩:_∧k_≠gb444))) (fun k_ hk=>(⟨hk,hk.1.1.1.1.2.2.2.2.2.2⟩:_∧k_≠gb446))) (fun _ hk=>hk.1.2) (.slice Ao121 t470.length co121)) (fun _ hk=>hk.2) (.slice Ao105 t449.length co105)) (fun _ hk=>hk.2) (.slice Ao113 t458.length co113)) (fun _ hk=>hk.2) (.slice Ao121 t470.length co121)) (fun _ hk=>⟨hk.1.1.1.1.1.1,⟨hk.1.1.1.1.1.2.1,⟨hk.1.1.1.1.1.2.2.1,⟨hk.1.1.1.1.1.2.2.2.1,⟨hk.1.1.1.1.2,⟨hk.1.1.1.2,⟨hk.1.1.2,⟨hk.1.1.1.1.1.2.2.2.2.1,⟨hk.1.1.1.1.1.2.2.2.2.2.1,hk.1.1.1.1.1.2.2.2.2.2.2⟩⟩⟩⟩⟩⟩⟩⟩⟩)))⟩;have n3_:zN (Kd.R (Kd.int .i64) 3 w124 w.heap.size (fun k_=>(w.heap.size≤k_)∧some k_≠(.slice Ao107 t452.length co107:Value).ownBlock∧some k_≠(.slice Ao108 t455.length co108:Value).ownBlock∧some k_≠(.slice Ao113 t458.length co113:Value).ownBlock∧some k_≠(.slice Ao115 t461.length co115:Value).ownBlock∧some k_≠(.slice Ao121 t470.length co121:Value).ownBlock∧k_≠gb445) (.slice Ao105 t449.length co105) t449):=⟨(by rw [hw];exact (by (with_reducible repeat (first|apply zR|apply zQ|apply zU));exact yB (zT (p:=⟨gb446,2,none⟩) (zT (p:=⟨gb446,1,none⟩) (zT (p:=⟨gb446,0,none⟩) (zT (p:=⟨gb444,2,none⟩) (zX (zX HO451.out BK444.out (by decide)) BK446.out (by decide)) (fun _ hk=>hk.1.2) (.slice Ao121 t470.length co121)) (fun _ hk=>hk.2) (.slice Ao105 t449.length co105)) (fun _ hk=>hk.2) (.slice Ao113 t458.length co113)) (fun _ hk=>hk.2) (.slice Ao121 t470.length co121)) (fun _ hk=>⟨hk.1.1.1.1.1.1,⟨hk.1.1.1.1.1.2.1,⟨hk.1.1.1.1.1.2.2.1,⟨hk.1.1.1.1.2,⟨hk.1.1.1.2,⟨hk.1.1.2,hk.1.1.1.1.1.2.2.2⟩⟩⟩⟩⟩⟩)))⟩;have n4_:zN (Kd.R (Kd.int .i64) 3 w124 w.heap.size (fun k_=>(w.heap.size≤k_)∧some k_≠(.slice Ao105 t449.length co105:Value).ownBlock∧some k_≠(.slice Ao108 t455.length co108:Value).ownBlock∧some k_≠(.slice Ao113 t458.length co113:Value).ownBlock∧some k_≠(.slice Ao115 t461.length co115:Value).ownBlock∧some k_≠(.slice Ao121 t470.length co121:Value).ownBlock∧k_≠gb445) (.slice Ao107 t452.length co107) t452):=⟨(by rw [hw];exact (by (with_reducible repeat (first|apply zR|apply zQ|apply zU));exact yB (zT (p:=⟨gb446,2,none⟩) (zT (p:=⟨gb446,1,none⟩) (zT (p:=⟨gb446,0,none⟩) (zT (p:=⟨gb444,2,none⟩) (zX (zX HO454.out BK444.out (by decide)) BK446.out (by decide)) (fun _ hk=>hk.1.2) (.slice Ao121 t470.length co121)) (fun _ hk=>hk.2) (.slice Ao105 t449.length co105)) (fun _ hk=>hk.2) (.slice Ao113 t458.length co113)) (fun _ hk=>hk.2) (.slice Ao121 t470.length co121)) (fun _ hk=>⟨hk.1.1.1.1.1.1,⟨hk.1.1.1.1.1.2.1,⟨hk.1.1.1.1.1.2.2.1,⟨hk.1.1.1.1.2,⟨hk.1.1.1.2,⟨hk.1.1.2,hk.1.1.1.1.1.2.2.2⟩⟩⟩⟩⟩⟩)))⟩;have n5_:zN (Kd.R (Kd.int .i64) 3 w124 w.heap.size (fun k_=>(w.heap.size≤k_)∧some k_≠(.slice Ao105 t449.length co105:Value).ownBlock∧some k_≠(.slice Ao107 t452.length co107:Value).ownBlock∧some k_≠(.slice Ao113 t458.length co113:Value).ownBlock∧some k_≠(.slice Ao115 t461.length co115:Value).ownBlock∧some k_≠(.slice Ao121 t470.length co121:Value).ownBlock∧k_≠gb445) (.slice Ao108 t455.length co108) t455):=⟨(by rw [hw];exact (by (with_reducible repeat (first|apply zR|apply zQ|apply zU));exact yB (zT (p:=⟨gb446,2,none⟩) (zT (p:=⟨gb446,1,none⟩) (zT (p:=⟨gb446,0,none⟩) (zT (p:=⟨gb444,2,none⟩) (zX (zX HO457.out BK444.out (by decide)) BK446.out (by decide)) (fun _ hk=>hk.1.2) (.slice Ao121 t470.length co121)) (fun _ hk=>hk.2) (.slice Ao105 t449.length co105)) (fun _ hk=>hk.2) (.slice Ao113 t458.length co113)) (fun _ hk=>hk.2) (.slice Ao121 t470.length co121)) (fun _ hk=>⟨hk.1.1.1.1.1.1,⟨hk.1.1.1.1.1.2.1,⟨hk.1.1.1.1.1.2.2.1,⟨hk.1.1.1.1.2,⟨hk.1.1.1.2,⟨hk.1.1.2,hk.1.1.1.1.1.2.2.2⟩⟩⟩⟩⟩⟩)))⟩;have n6_:zN (Kd.R (Kd.int .i64) 3 w124 w.heap.size (fun k_=>(w.heap.size≤k_)∧some k_≠(.slice Ao105 t449.length co105:Value).ownBlock∧some k_≠(.slice Ao107 t452.length co107:Value).ownBlock∧some k_≠(.slice Ao108 t455.length co108:Value).ownBlock∧some k_≠(.slice Ao115 t461.length co115:Value).ownBlock∧some k_≠(.slice Ao121 t470.length co121:Value).ownBlock∧k_≠gb445) (.slice Ao113 t458.length co113) t458):=⟨(by rw [hw];exact (by (with_reducible repeat (first|apply zR|apply zQ|apply zU));exact yB (zT (p:=⟨gb446,2,none⟩) (zT (p:=⟨gb446,1,none⟩) (zT (p:=⟨gb446,0,none⟩) (zT (p:=⟨gb444,2,none⟩) (zX (zX HO460.out BK444.out (by decide)) BK446.out (by decide)) (fun _ hk=>hk.1.2) (.slice Ao121 t470.length co121)) (fun _ hk=>hk.2) (.slice Ao105 t449.length co105)) (fun _ hk=>hk.2) (.slice Ao113 t458.length co113)) (fun _ hk=>hk.2) (.slice Ao121 t470.length co121)) (fun _ hk=>⟨hk.1.1.1.1.1.1.1.1.1,⟨hk.1.1.1.1.1.1.1.2,⟨hk.1.1.1.1.1.1.2,⟨hk.1.1.1.1.1.2,⟨hk.1.1.1.2,⟨hk.1.1.2,hk.1.1.1.1.2⟩⟩⟩⟩⟩⟩)))⟩;have n7_:zN (Kd.R (Kd.int .i64) 3 w124 w.heap.size (fun k_=>(w.heap.size≤k_)∧some k_≠(.slice Ao105 t449.length co105:Value).ownBlock∧some k_≠(.slice Ao107 t452.length co107:Value).ownBlock∧some k_≠(.slice Ao108 t455.length co108:Value).ownBlock∧some k_≠(.slice Ao113 t458.length co113:Value).ownBlock∧some k_≠(.slice Ao121 t470.length co121:Value).ownBlock∧k_≠gb445) (.slice Ao115 t461.length co115) t461):=⟨(by rw [hw];exact (by (with_reducible repeat (first|apply zR|apply zQ|apply zU));exact yB (zT (p:=⟨gb446,2,none⟩) (zT (p:=⟨gb446,1,none⟩) (zT (p:=⟨gb446,0,none⟩) (zT (p:=⟨gb444,2,none⟩) (zX (zX HO463.out BK444.out (by decide)) BK446.out (by decide)) (fun _ hk=>hk.1.2) (.slice Ao121 t470.length co121)) (fun _ hk=>hk.2) (.slice Ao105 t449.length co105)) (fun _ hk=>hk.2) (.slice Ao113 t458.length co113)) (fun _ hk=>hk.2) (.slice Ao121 t470.length co121)) (fun _ hk=>⟨hk.1.1.1.1.1.1.1.1.1,⟨hk.1.1.1.1.1.1.1.2,⟨hk.1.1.1.1.1.1.2,⟨hk.1.1.1.1.1.2,⟨hk.1.1.1.1.2,⟨hk.1.1.2,hk.1.1.1.2⟩⟩⟩⟩⟩⟩)))⟩;have n8_:zN (Kd.R (Kd.int .i64) 3 w124 w.heap.size (fun k_=>(w.heap.size≤k_)∧some k_≠(.slice Ao105 t449.length co105:Value).ownBlock∧some k_≠(.slice Ao107 t452.length co107:Value).ownBlock∧some k_≠(.slice Ao108 t455.length co108:Value).ownBlock∧some k_≠(.slice Ao113 t458.length co113:Value).ownBlock∧some k_≠(.slice Ao115 t461.length co115:Value).ownBlock∧k_≠gb445) (.slice Ao121 t470.length co121) t470):=⟨(by rw [hw];exact (by (with_reducible repeat (first|apply zR|apply zQ|apply zU));exact yB (zT (p:=⟨gb446,2,none⟩) (zT (p:=⟨gb446,1,none⟩) (zT (p:=⟨gb446,0,none⟩) (zT (p:=⟨gb444,2,none⟩) (zX (zX HO472.out BK444.out (by decide)) BK446.out (by decide)) (fun _ hk=>hk.1.2) (.slice Ao121 t470.length co121)) (fun _ hk=>hk.2) (.slice Ao105 t449.length co105)) (fun _ hk=>hk.2) (.slice Ao113 t458.length co113)) (fun _ hk=>hk.2) (.slice Ao121 t470.length co121)) (fun _ hk=>⟨hk.1.1.1.1.1.1.1.1.1,⟨hk.1.1.1.1.1.1.1.2,⟨hk.1.1.1.1.1.1.2,⟨hk.1.1.1.1.1.2,⟨hk.1.1.1.1.2,⟨hk.1.1.1.2,hk.1.1.2⟩⟩⟩⟩⟩⟩)))⟩;have n9_:zN (w124.heap[gb444]?=some (.cells #[.slice Ao105 t449.length co105,.slice Ao113 t458.length co113,.slice Ao121 t470.length co121] 30 (0,0))):=⟨(by rw [hw];exact (by (with_reducible repeat (first|refine zB ?_ _|refine zF ?_|refine zA ?_ _));refine zY ?_ NB444_446.out _;(with_reducible repeat (first|refine zB ?_ _|refine zF ?_|refine zA ?_ _));refine zY ?_ NB444_446.out _;(with_reducible repeat (first|refine zB ?_ _|refine zF ?_|refine zA ?_ _));refine zY ?_ NB444_446.out _;(with_reducible repeat (first|refine zB ?_ _|refine zF ?_|refine zA ?_ _));refine yE (cs:=#[.slice Ao105 t449.length co105,.slice Ao113 t458.length co113,.slice Ao115 t461.length co115]) ?_ 2 _ rfl;(with_reducible repeat (first|refine zB ?_ _|refine zF ?_|refine zA ?_ _));exact BK444.out))⟩;have n10_:zN (w124.heap[gb445]?=some (.cells #[.int .i64 a1] 3 (0,0))):=⟨(by rw [hw];exact (by (with_reducible repeat (first|refine zB ?_ _|refine zF ?_|refine zA ?_ _));refine zY ?_ NB445_446.out _;(with_reducible repeat (first|refine zB ?_ _|refine zF ?_|refine zA ?_ _));refine zY ?_ NB445_446.out _;(with_reducible repeat (first|refine zB ?_ _|refine zF ?_|refine zA ?_ _));refine zY ?_ NB445_446.out _;(with_reducible repeat (first|refine zB ?_ _|refine zF ?_|refine zA ?_ _));refine zY ?_ NB445_444.out _;(with_reducible repeat (first|refine zB ?_ _|refine zF ?_|refine zA ?_ _));exact BK445.out))⟩;have n11_:zN (w124.heap[gb446]?=some (.cells #[.slice Ao105 t449.length co105,.slice Ao113 t458.length co113,.slice Ao121 t470.length co121] 30 (0,0))):=⟨(by rw [hw];exact (by (with_reducible repeat (first|refine zB ?_ _|refine zF ?_|refine zA ?_ _));refine yE (cs:=#[.slice Ao105 t449.length co105,.slice Ao113 t458.length co113,.slice none 0 0]) ?_ 2 _ rfl;(with_reducible repeat (first|refine zB ?_ _|refine zF ?_|refine zA ?_ _));refine yE (cs:=#[.slice Ao105 t449.length co105,.slice none 0 0,.slice none 0 0]) ?_ 1 _ rfl;(with_reducible repeat (first|refine zB ?_ _|refine zF ?_|refine zA ?_ _));refine yE (cs:=#[.slice none 0 0,.slice none 0 0,.slice none 0 0]) ?_ 0 _ rfl;(with_reducible repeat (first|refine zB ?_ _|refine zF ?_|refine zA ?_ _));refine zY ?_ NB446_444.out _;(with_reducible repeat (first|refine zB ?_ _|refine zF ?_|refine zA ?_ _));exact BK446.out))⟩;have n12_:zN (Below w.heap.size w w124):=⟨(by rw [hw];exact (by repeat (first|(with_reducible first|exact HB.out|apply zG|apply zD|apply zH|refine zC ?_ GE444.out|refine zC ?_ GE445.out|refine zC ?_ GE446.out)|exact HB.out)))⟩;clear hw;clear HO_445000;clear HO_445001;clear HO_445002;clear HO451;clear HO454;clear HO457;clear HO460;clear HO463;clear HO472;clear BK444;clear BK445;clear BK446;clear HB;have HO_445000:=n0_;have HO_445001:=n1_;have HO_445002:=n2_;have HO451:=n3_;have HO454:=n4_;have HO457:=n5_;have HO460:=n6_;have HO463:=n7_;have HO472:=n8_;have BK444:=n9_;have BK445:=n10_;have BK446:=n11_;have HB:=n12_;clear n0_ n1_ n2_ n3_ n4_ n5_ n6_ n7_ n8_ n9_ n10_ n11_ n12_))
      refine bodyPost_ret (results_ct rfl _ _ gb446 30 #[.slice Ao105 t449.length co105,.slice Ao113 t458.length co113,.slice Ao121 t470.length co121] (0,0) _ rfl (by (with_reducible repeat (first|refine zB ?_ _|refine zF ?_|refine zA ?_ _));exact BK446.out) Tryd.underlying30 rfl (by kernel_rfl)) rfl ?_
      exact ⟨_,_,_,by first|rfl|(simp [errW_none,errW_some] <;> rfl)|(simp [*,errW_none,errW_some] <;> rfl),zO (R_V (by (with_reducible repeat (first|apply zR|apply zQ|apply zU));exact yB HO451.out (fun _ hk=>hk.1))) (fun k_ hk=>by first|exact ⟨(.inr (hk.1)),hk.2⟩|exact (.inr (hk))),zO (R_V (by (with_reducible repeat (first|apply zR|apply zQ|apply zU));exact yB HO460.out (fun _ hk=>hk.1))) (fun k_ hk=>by first|exact ⟨(.inr (hk.1)),hk.2⟩|exact (.inr (hk))),zO (R_V (by (with_reducible repeat (first|apply zR|apply zQ|apply zU));exact yB HO472.out (fun _ hk=>hk.1))) (fun k_ hk=>by first|exact ⟨(.inr (hk.1)),hk.2⟩|exact (.inr (hk))),by repeat (first|(with_reducible first|exact HB.out|apply zG|apply zD|apply zH|refine zC ?_ GE444.out|refine zC ?_ GE445.out|refine zC ?_ GE446.out)|exact HB.out)⟩
     ·rw [if_neg c99] at H
      have c99b0:(a2 == 2)=false:=beq_eq_false_iff_ne.mpr c99
      have c99b1:(a2 != 2)=true:=bne_iff_ne.mpr c99
      simp only [Option.some.injEq,Prod.mk.injEq] at H
      obtain ⟨rfl,rfl,rfl,rfl⟩:=H
      have hnb125:=NB444_445.out
      have hnc125:=NB445_444.out
      have hnb126:=NB444_446.out
      have hnc126:=NB446_444.out
      have hcz127_0:wc.cell? ⟨gb444,0,none⟩=some (.slice A0_0 l0_0.length c0_0):=(zJ BK444.out 0).trans rfl
      have hcz127_1:wc.cell? ⟨gb444,1,none⟩=some (.slice A0_1 l0_1.length c0_1):=(zJ BK444.out 1).trans rfl
      have hcz127_2:wc.cell? ⟨gb444,2,none⟩=some (.slice A0_2 l0_2.length c0_2):=(zJ BK444.out 2).trans rfl
      have hfz127_0:=zI BK444.out 0
      have hfz127_1:=zI BK444.out 1
      have hfz127_2:=zI BK444.out 2
      try go_wp2_with (first|((with_reducible refine yD (f:=39) rfl ?_);refine yM (some 27) rfl rfl Tryd.func39 (by kernel_rfl) rfl #[.agg #[.slice A0_0 l0_0.length c0_0,.slice A0_1 l0_1.length c0_1,.slice A0_2 l0_2.length c0_2]] rfl (by (try simp only [List.map_toArray,List.map_cons,List.map_nil]);first|done|rfl|(simp only [List.length_drop,List.length_take];rfl)) ?_;(with_reducible refine (signal_copied.calls _ _ l0_0 _ _ l0_1 _ _ l0_2 t449 t452 t455 _ ?side1 ?side2 ?side3 ?side4 ?side5 ?side6 A39.out).mono ?_);(case side1=>repeat (first|exact (yH HO_445000.out).2.2|(with_reducible refine yG ?_ _)|(with_reducible refine yF ?_ _)|(with_reducible refine yI ?_)));(case side2=>exact (yH HO_445000.out).2.1);(case side3=>repeat (first|exact (yH HO_445001.out).2.2|(with_reducible refine yG ?_ _)|(with_reducible refine yF ?_ _)|(with_reducible refine yI ?_)));(case side4=>exact (yH HO_445001.out).2.1);(case side5=>repeat (first|exact (yH HO_445002.out).2.2|(with_reducible refine yG ?_ _)|(with_reducible refine yF ?_ _)|(with_reducible refine yI ?_)));(case side6=>exact (yH HO_445002.out).2.1);rintro e w128 ⟨v450,v453,v456,rfl,ho0,ho1,ho2,hb⟩;refine ⟨_,rfl,?_⟩;have n0_:=Zk (zO (yO (yO (yO (V_old (by (with_reducible repeat (first|apply zL|apply zK|apply zM));exact HO_445000.out) hb) (zZ ho0)) (zZ ho1)) (zZ ho2)) (fun _ h_=>h_.1));have n1_:=Zk (zO (yO (yO (yO (V_old (by (with_reducible repeat (first|apply zL|apply zK|apply zM));exact HO_445001.out) hb) (zZ ho0)) (zZ ho1)) (zZ ho2)) (fun _ h_=>h_.1));have n2_:=Zk (zO (yO (yO (yO (V_old (by (with_reducible repeat (first|apply zL|apply zK|apply zM));exact HO_445002.out) hb) (zZ ho0)) (zZ ho1)) (zZ ho2)) (fun _ h_=>h_.1));have n3_:=Zk (yU (R_newB (R_newM (M:=fun k_=>(w.heap.size≤k_)) ho0 (zP (by repeat (first|(with_reducible first|exact HB.out|apply zG|apply zD|apply zH|refine zC ?_ GE444.out|refine zC ?_ GE445.out|refine zC ?_ GE446.out)|exact HB.out))) (fun k_ h_=>h_)) (g:=gb445) (o:=.cells #[.int .i64 a1] 3 (0,0)) (by (with_reducible repeat (first|refine zB ?_ _|refine zF ?_|refine zA ?_ _));exact BK445.out)) (zP (by repeat (first|(with_reducible first|exact HB.out|apply zG|apply zD|apply zH|refine zC ?_ GE444.out|refine zC ?_ GE445.out|refine zC ?_ GE446.out)|exact HB.out))));have n4_:=Zk (yU (R_newB (R_newM (M:=fun k_=>(w.heap.size≤k_)) ho1 (zP (by repeat (first|(with_reducible first|exact HB.out|apply zG|apply zD|apply zH|refine zC ?_ GE444.out|refine zC ?_ GE445.out|refine zC ?_ GE446.out)|exact HB.out))) (fun k_ h_=>h_)) (g:=gb445) (o:=.cells #[.int .i64 a1] 3 (0,0)) (by (with_reducible repeat (first|refine zB ?_ _|refine zF ?_|refine zA ?_ _));exact BK445.out)) (zP (by repeat (first|(with_reducible first|exact HB.out|apply zG|apply zD|apply zH|refine zC ?_ GE444.out|refine zC ?_ GE445.out|refine zC ?_ GE446.out)|exact HB.out))));have n5_:=Zk (yU (R_newB (R_newM (M:=fun k_=>(w.heap.size≤k_)) ho2 (zP (by repeat (first|(with_reducible first|exact HB.out|apply zG|apply zD|apply zH|refine zC ?_ GE444.out|refine zC ?_ GE445.out|refine zC ?_ GE446.out)|exact HB.out))) (fun k_ h_=>h_)) (g:=gb445) (o:=.cells #[.int .i64 a1] 3 (0,0)) (by (with_reducible repeat (first|refine zB ?_ _|refine zF ?_|refine zA ?_ _));exact BK445.out)) (zP (by repeat (first|(with_reducible first|exact HB.out|apply zG|apply zD|apply zH|refine zC ?_ GE444.out|refine zC ?_ GE445.out|refine zC ?_ GE446.out)|exact HB.out))));have n6_:=Zk (zW (g:=gb444) (o:=.cells #[.slice A0_0 l0_0.length c0_0,.slice A0_1 l0_1.length c0_1,.slice A0_2 l0_2.length c0_2] 30 (0,0)) (by (with_reducible repeat (first|refine zB ?_ _|refine zF ?_|refine zA ?_ _));exact BK444.out) hb);have n7_:=Zk (zW (g:=gb445) (o:=.cells #[.int .i64 a1] 3 (0,0)) (by (with_reducible repeat (first|refine zB ?_ _|refine zF ?_|refine zA ?_ _));exact BK445.out) hb);have n8_:=Zk (zW (g:=gb446) (o:=.cells #[.slice none 0 0,.slice none 0 0,.slice none 0 0] 30 (0,0)) (by (with_reducible repeat (first|refine zB ?_ _|refine zF ?_|refine zA ?_ _));exact BK446.out) hb);have n9_:=Zk (yA (by repeat (first|(with_reducible first|exact HB.out|apply zG|apply zD|apply zH|refine zC ?_ GE444.out|refine zC ?_ GE445.out|refine zC ?_ GE446.out)|exact HB.out)) hb);clear HO_445000;clear HO_445001;clear HO_445002;clear BK444;clear BK445;clear BK446;clear HB;have HO_445000:=n0_;have HO_445001:=n1_;have HO_445002:=n2_;have HO451:=n3_;have HO454:=n4_;have HO457:=n5_;have BK444:=n6_;have BK445:=n7_;have BK446:=n8_;have HB:=n9_;clear n0_ n1_ n2_ n3_ n4_ n5_ n6_ n7_ n8_ n9_;(try clear hb);(try clear hb2);(try clear hk);(try clear hi);(try clear ho0);(try clear ho1);(try clear ho2);obtain ⟨Ao129,co129,eo129⟩:=yQ HO451.out;subst eo129;have hcz130_0:w128.cell? ⟨gb444,0,none⟩=some (.slice A0_0 l0_0.length c0_0):=(zJ BK444.out 0).trans rfl;have hcz130_1:w128.cell? ⟨gb444,1,none⟩=some (.slice A0_1 l0_1.length c0_1):=(zJ BK444.out 1).trans rfl;have hcz130_2:w128.cell? ⟨gb444,2,none⟩=some (.slice A0_2 l0_2.length c0_2):=(zJ BK444.out 2).trans rfl;have hfz130_0:=zI BK444.out 0;have hfz130_1:=zI BK444.out 1;have hfz130_2:=zI BK444.out 2;obtain ⟨Ao131,co131,eo131⟩:=yQ HO454.out;subst eo131;obtain ⟨Ao132,co132,eo132⟩:=yQ HO457.out;subst eo132)|((with_reducible refine xA (t:=30) (p:=3) rfl ?_);refine yY (t:=30) (p:=3) (v:=?vo_w133) (w1:=(((w128.setCell ⟨gb444,0,none⟩ (.slice Ao129 t449.length co129)).setCell ⟨gb444,1,none⟩ (.slice Ao131 t452.length co131)).setCell ⟨gb444,2,none⟩ (.slice Ao132 t455.length co132))) ?hg ?ho ?hn ?hr ?_;(case ho=>rfl);(case hg=>rfl);(case hn=>rfl);(case hr=>first|(go_simp;done)|(go_simp;rfl));intro w133 hw;have n0_:zN (Kd.V (Kd.int .i64) 3 w133 w.heap.size (fun k_=>((P0_0_ k_∨P0_1_ k_∨P0_2_ k_)∨w.heap.size≤k_)∧some k_≠(.slice Ao129 t449.length co129:Value).ownBlock∧some k_≠(.slice Ao131 t452.length co131:Value).ownBlock∧some k_≠(.slice Ao132 t455.length co132:Value).ownBlock∧k_≠gb444∧k_≠gb445∧k_≠gb446) (.slice A0_0 l0_0.length c0_0) l0_0):=⟨(by rw [hw];exact (by (with_reducible repeat (first|apply zL|apply zK|apply zM));exact zO (zS (p:=⟨gb444,2,none⟩) (zS (p:=⟨gb444,1,none⟩) (zS (p:=⟨gb444,0,none⟩) (zO HO_445000.out (fun k_ hk=>(⟨hk,hk.1.1.1.2.1⟩:_∧k_≠gb444))) (fun _ hk=>hk.2) (.slice Ao129 t449.length co129)) (fun _ hk=>hk.2) (.slice Ao131 t452.length co131)) (fun _ hk=>hk.2) (.slice Ao132 t455.length co132)) (fun _ hk=>⟨hk.1.1.1.1.1,⟨hk.1.1.1.2,⟨hk.1.1.2,⟨hk.1.2,⟨hk.1.1.1.1.2.1,⟨hk.1.1.1.1.2.2.1,hk.1.1.1.1.2.2.2⟩⟩⟩⟩⟩⟩)))⟩;have n1_:zN (Kd.V (Kd.int .i64) 3 w133 w.heap.size (fun k_=>((P0_0_ k_∨P0_1_ k_∨P0_2_ k_)∨w.heap.size≤k_)∧some k_≠(.slice Ao129 t449.length co129:Value).ownBlock∧some k_≠(.slice Ao131 t452.length co131:Value).ownBlock∧some k_≠(.slice Ao132 t455.length co132:Value).ownBlock∧k_≠gb444∧k_≠gb445∧k_≠gb446) (.slice A0_1 l0_1.length c0_1) l0_1):=⟨(by rw [hw];exact (by (with_reducible repeat (first|apply zL|apply zK|apply zM));exact zO (zS (p:=⟨gb444,2,none⟩) (zS (p:=⟨gb444,1,none⟩) (zS (p:=⟨gb444,0,none⟩) (zO HO_445001.out (fun k_ hk=>(⟨hk,hk.1.1.1.2.1⟩:_∧k_≠gb444))) (fun _ hk=>hk.2) (.slice Ao129 t449.length co129)) (fun _ hk=>hk.2) (.slice Ao131 t452.length co131)) (fun _ hk=>hk.2) (.slice Ao132 t455.length co132)) (fun _ hk=>⟨hk.1.1.1.1.1,⟨hk.1.1.1.2,⟨hk.1.1.2,⟨hk.1.2,⟨hk.1.1.1.1.2.1,⟨hk.1.1.1.1.2.2.1,hk.1.1.1.1.2.2.2⟩⟩⟩⟩⟩⟩)))⟩;have n2_:zN (Kd.V (Kd.int .i64) 3 w133 w.heap.size (fun k_=>((P0_0_ k_∨P0_1_ k_∨P0_2_ k_)∨w.heap.size≤k_)∧some k_≠(.slice Ao129 t449.length co129:Value).ownBlock∧some k_≠(.slice Ao131 t452.length co131:Value).ownBlock∧some k_≠(.slice Ao132 t455.length co132:Value).ownBlock∧k_≠gb444∧k_≠gb445∧k_≠gb446) (.slice A0_2 l0_2.length c0_2) l0_2):=⟨(by rw [hw];exact (by (with_reducible repeat (first|apply zL|apply zK|apply zM));exact zO (zS (p:=⟨gb444,2,none⟩) (zS (p:=⟨gb444,1,none⟩) (zS (p:=⟨gb444,0,none⟩) (zO HO_445002.out (fun k_ hk=>(⟨hk,hk.1.1.1.2.1⟩:_∧k_≠gb444))) (fun _ hk=>hk.2) (.slice Ao129 t449.length co129)) (fun _ hk=>hk.2) (.slice Ao131 t452.length co131)) (fun _ hk=>hk.2) (.slice Ao132 t455.length co132)) (fun _ hk=>⟨hk.1.1.1.1.1,⟨hk.1.1.1.2,⟨hk.1.1.2,⟨hk.1.2,⟨hk.1.1.1.1.2.1,⟨hk.1.1.1.1.2.2.1,hk.1.1.1.1.2.2.2⟩⟩⟩⟩⟩⟩)))⟩;have n3_:zN (Kd.R (Kd.int .i64) 3 w133 w.heap.size (fun k_=>(w.heap.size≤k_)∧some k_≠(.slice Ao131 t452.length co131:Value).ownBlock∧some k_≠(.slice Ao132 t455.length co132:Value).ownBlock∧k_≠gb445) (.slice Ao129 t449.length co129) t449):=⟨(by rw [hw];exact (by (with_reducible repeat (first|apply zR|apply zQ|apply zU));exact yB (zT (p:=⟨gb444,2,none⟩) (zT (p:=⟨gb444,1,none⟩) (zT (p:=⟨gb444,0,none⟩) (zX HO451.out BK444.out (by decide)) (fun _ hk=>hk.2) (.slice Ao129 t449.length co129)) (fun _ hk=>hk.2) (.slice Ao131 t452.length co131)) (fun _ hk=>hk.2) (.slice Ao132 t455.length co132)) (fun _ hk=>⟨hk.1.1.1,⟨hk.1.1.2.1,⟨hk.1.1.2.2,hk.1.2⟩⟩⟩)))⟩;have n4_:zN (Kd.R (Kd.int .i64) 3 w133 w.heap.size (fun k_=>(w.heap.size≤k_)∧some k_≠(.slice Ao129 t449.length co129:Value).ownBlock∧some k_≠(.slice Ao132 t455.length co132:Value).ownBlock∧k_≠gb445) (.slice Ao131 t452.length co131) t452):=⟨(by rw [hw];exact (by (with_reducible repeat (first|apply zR|apply zQ|apply zU));exact yB (zT (p:=⟨gb444,2,none⟩) (zT (p:=⟨gb444,1,none⟩) (zT (p:=⟨gb444,0,none⟩) (zX HO454.out BK444.out (by decide)) (fun _ hk=>hk.2) (.slice Ao129 t449.length co129)) (fun _ hk=>hk.2) (.slice Ao131 t452.length co131)) (fun _ hk=>hk.2) (.slice Ao132 t455.length co132)) (fun _ hk=>⟨hk.1.1.1,⟨hk.1.1.2.1,⟨hk.1.1.2.2,hk.1.2⟩⟩⟩)))⟩;have n5_:zN (Kd.R (Kd.int .i64) 3 w133 w.heap.size (fun k_=>(w.heap.size≤k_)∧some k_≠(.slice Ao129 t449.length co129:Value).ownBlock∧some k_≠(.slice Ao131 t452.length co131:Value).ownBlock∧k_≠gb445) (.slice Ao132 t455.length co132) t455):=⟨(by rw [hw];exact (by (with_reducible repeat (first|apply zR|apply zQ|apply zU));exact yB (zT (p:=⟨gb444,2,none⟩) (zT (p:=⟨gb444,1,none⟩) (zT (p:=⟨gb444,0,none⟩) (zX HO457.out BK444.out (by decide)) (fun _ hk=>hk.2) (.slice Ao129 t449.length co129)) (fun _ hk=>hk.2) (.slice Ao131 t452.length co131)) (fun _ hk=>hk.2) (.slice Ao132 t455.length co132)) (fun _ hk=>⟨hk.1.1.1,⟨hk.1.1.2.1,⟨hk.1.1.2.2,hk.1.2⟩⟩⟩)))⟩;have n6_:zN (w133.heap[gb444]?=some (.cells #[.slice Ao129 t449.length co129,.slice Ao131 t452.length co131,.slice Ao132 t455.length co132] 30 (0,0))):=⟨(by rw [hw];exact (by (with_reducible repeat (first|refine zB ?_ _|refine zF ?_|refine zA ?_ _));refine yE (cs:=#[.slice Ao129 t449.length co129,.slice Ao131 t452.length co131,.slice A0_2 l0_2.length c0_2]) ?_ 2 _ rfl;(with_reducible repeat (first|refine zB ?_ _|refine zF ?_|refine zA ?_ _));refine yE (cs:=#[.slice Ao129 t449.length co129,.slice A0_1 l0_1.length c0_1,.slice A0_2 l0_2.length c0_2]) ?_ 1 _ rfl;(with_reducible repeat (first|refine zB ?_ _|refine zF ?_|refine zA ?_ _));refine yE (cs:=#[.slice A0_0 l0_0.length c0_0,.slice A0_1 l0_1.length c0_1,.slice A0_2 l0_2.length c0_2]) ?_ 0 _ rfl;(with_reducible repeat (first|refine zB ?_ _|refine zF ?_|refine zA ?_ _));exact BK444.out))⟩;have n7_:zN (w133.heap[gb445]?=some (.cells #[.int .i64 a1] 3 (0,0))):=⟨(by rw [hw];exact (by (with_reducible repeat (first|refine zB ?_ _|refine zF ?_|refine zA ?_ _));refine zY ?_ NB445_444.out _;(with_reducible repeat (first|refine zB ?_ _|refine zF ?_|refine zA ?_ _));refine zY ?_ NB445_444.out _;(with_reducible repeat (first|refine zB ?_ _|refine zF ?_|refine zA ?_ _));refine zY ?_ NB445_444.out _;(with_reducible repeat (first|refine zB ?_ _|refine zF ?_|refine zA ?_ _));exact BK445.out))⟩;have n8_:zN (w133.heap[gb446]?=some (.cells #[.slice none 0 0,.slice none 0 0,.slice none 0 0] 30 (0,0))):=⟨(by rw [hw];exact (by (with_reducible repeat (first|refine zB ?_ _|refine zF ?_|refine zA ?_ _));refine zY ?_ NB446_444.out _;(with_reducible repeat (first|refine zB ?_ _|refine zF ?_|refine zA ?_ _));refine zY ?_ NB446_444.out _;(with_reducible repeat (first|refine zB ?_ _|refine zF ?_|refine zA ?_ _));refine zY ?_ NB446_444.out _;(with_reducible repeat (first|refine zB ?_ _|refine zF ?_|refine zA ?_ _));exact BK446.out))⟩;have n9_:zN (Below w.heap.size w w133):=⟨(by rw [hw];exact (by repeat (first|(with_reducible first|exact HB.out|apply zG|apply zD|apply zH|refine zC ?_ GE444.out|refine zC ?_ GE445.out|refine zC ?_ GE446.out)|exact HB.out)))⟩;clear hw;clear HO_445000;clear HO_445001;clear HO_445002;clear HO451;clear HO454;clear HO457;clear BK444;clear BK445;clear BK446;clear HB;have HO_445000:=n0_;have HO_445001:=n1_;have HO_445002:=n2_;have HO451:=n3_;have HO454:=n4_;have HO457:=n5_;have BK444:=n6_;have BK445:=n7_;have BK446:=n8_;have HB:=n9_;clear n0_ n1_ n2_ n3_ n4_ n5_ n6_ n7_ n8_ n9_))
      have n0_:=Zk (zM HO_445000.out)
      have n1_:=Zk (zM HO_445001.out)
      have n2_:=Zk (zM HO_445002.out)
      have n3_:=Zk (zU HO451.out)
      have n4_:=Zk (zU HO454.out)
      have n5_:=Zk (zU HO457.out)
      have n6_:=Zk (zF BK444.out)
      have n7_:=Zk (zF BK445.out)
      have n8_:=Zk (zF BK446.out)
      have n9_:=Zk (zH HB.out)
      clear HO_445000
      clear HO_445001
      clear HO_445002
      clear HO451
      clear HO454
      clear HO457
      clear BK444
      clear BK445
      clear BK446
      clear HB
      have HO_445000:=n0_
      have HO_445001:=n1_
      have HO_445002:=n2_
      have HO451:=n3_
      have HO454:=n4_
      have HO457:=n5_
      have BK444:=n6_
      have BK445:=n7_
      have BK446:=n8_
      have HB:=n9_
      clear n0_ n1_ n2_ n3_ n4_ n5_ n6_ n7_ n8_ n9_
      refine start_ (n:=12) (S:=fun w'=>w'.cell? ⟨gb444,0,none⟩=some (.slice Ao129 t449.length co129)∧w'.cell? ⟨gb444,1,none⟩=some (.slice Ao131 t452.length co131)∧w'.cell? ⟨gb444,2,none⟩=some (.slice Ao132 t455.length co132)) (ds:=[9,11]) #[false,false,false,false,false,false,false,false,false,false,false,false] (by kernel_rfl) rfl rfl ⟨(zJ BK444.out 0).trans rfl,(zJ BK444.out 1).trans rfl,(zJ BK444.out 2).trans rfl⟩ (fun hHeld=>?_);refine with_tabW signal_Set.tab5 signal_Set.bits5 (fun HT_ HW_=>?_)
      generalize w133.drew=w134 at HO_445000 HO_445001 HO_445002 HO451 HO454 HO457 BK444 BK445 BK446 HB hHeld ⊢
      refine pure_ (i:=0) (N:=some 28) (v:=?_) (a':=?_) #[true,false,false,false,false,false,false,false,false,false,false,false] rfl rfl (any_of HT_.out (by kernel_rfl)) (fun _ _ _ h=>h) (Or.inl ⟨by rfl,?_⟩) ?_ ?_
      rotate_left
      ·intro w'
       go_simp
       with_reducible rfl
      rotate_left
      ·simp only [Act.put,List.setIfInBounds_toArray,List.set_cons_zero,List.set_cons_succ,yX,i32_w]
       rfl
      refine pure_ (i:=2) (N:=some 30) (v:=?_) (a':=?_) #[true,false,true,false,false,false,false,false,false,false,false,false] rfl rfl (any_of HT_.out (by kernel_rfl)) (fun _ _ _ h=>h) (Or.inl ⟨by rfl,?_⟩) ?_ ?_
      rotate_left
      ·intro w'
       go_simp
       with_reducible rfl
      rotate_left
      ·simp only [Act.put,List.setIfInBounds_toArray,List.set_cons_zero,List.set_cons_succ,yX,i32_w]
       rfl
      refine pure_ (i:=4) (N:=some 32) (v:=?_) (a':=?_) #[true,false,true,false,true,false,false,false,false,false,false,false] rfl rfl (any_of HT_.out (by kernel_rfl)) (fun _ _ _ h=>h) (Or.inl ⟨by rfl,?_⟩) ?_ ?_
      rotate_left
      ·intro w'
       go_simp
       with_reducible rfl
      rotate_left
      ·simp only [Act.put,List.setIfInBounds_toArray,List.set_cons_zero,List.set_cons_succ,yX,i32_w]
       rfl
      refine pure_ (i:=6) (N:=some 34) (v:=?_) (a':=?_) #[true,false,true,false,true,false,true,false,false,false,false,false] rfl rfl (any_of HT_.out (by kernel_rfl)) (fun _ _ _ h=>h) (Or.inl ⟨by rfl,?_⟩) ?_ ?_
      rotate_left
      ·intro w'
       go_simp
       with_reducible rfl
      rotate_left
      ·simp only [Act.put,List.setIfInBounds_toArray,List.set_cons_zero,List.set_cons_succ,yX,i32_w]
       rfl
      refine take_ (i:=1) (N:=some 29) (v:=?_) (a':=?_) #[true,true,true,false,true,false,true,false,false,false,false,false] rfl rfl (take_ofW HT_.out HW_.out (by kernel_rfl)) (fun _ _ _ h=>h) (Or.inl ⟨by rfl,?_⟩) hHeld ?_ ?_
      rotate_left
      ·rintro w' ⟨s0,s1,s2⟩
       go_simp
       with_reducible rfl
      rotate_left
      ·simp only [Act.put,List.setIfInBounds_toArray,List.set_cons_zero,List.set_cons_succ,yX,i32_w]
       rfl
      refine take_ (i:=5) (N:=some 33) (v:=?_) (a':=?_) #[true,true,true,false,true,true,true,false,false,false,false,false] rfl rfl (take_ofW HT_.out HW_.out (by kernel_rfl)) (fun _ _ _ h=>h) (Or.inl ⟨by rfl,?_⟩) hHeld ?_ ?_
      rotate_left
      ·rintro w' ⟨s0,s1,s2⟩
       go_simp
       with_reducible rfl
      rotate_left
      ·simp only [Act.put,List.setIfInBounds_toArray,List.set_cons_zero,List.set_cons_succ,yX,i32_w]
       rfl
      refine one_ (i:=3) (N:=some 31) #[true,true,true,true,true,true,true,false,false,false,false,false] rfl rfl (one_of HT_.out (by kernel_rfl)) (by decide) (fun K hK=>?_)
      refine goes_ Tryd.func40 (by kernel_rfl) rfl #[.slice Ao131 t452.length co131,.func (.func 48) #[] #[.pointer (some ⟨gb445,0,none⟩)]] (by rfl) rfl rfl (by (try simp only [List.map_toArray,List.map_cons,List.map_nil]);first|done|rfl|(simp only [List.length_drop,List.length_take];rfl)) ?_
      with_reducible refine (signal_without_1_48.calls _ _ t452 a1 t458 _ ?side1 ?side2 ?side3 A40.out).mono ?_
      (case side1=>repeat (first|exact (yZ HO454.out).2.2|(with_reducible refine yG ?_ _)|(with_reducible refine yF ?_ _)|(with_reducible refine yI ?_)))
      (case side2=>exact (yZ HO454.out).2.1)
      (case side3=>exact by (with_reducible repeat (first|refine zB ?_ _|refine zF ?_|refine zA ?_ _));exact BK445.out)
      rintro e w135 ⟨v459,rfl,ho0,hb⟩
      refine ⟨_,rfl,?_⟩
      have n0_:=Zk (yL (by (with_reducible repeat (first|apply zL|apply zK|apply zM));exact HO_445000.out) (zZ ho0) hb)
      have n1_:=Zk (yL (by (with_reducible repeat (first|apply zL|apply zK|apply zM));exact HO_445001.out) (zZ ho0) hb)
      have n2_:=Zk (yL (by (with_reducible repeat (first|apply zL|apply zK|apply zM));exact HO_445002.out) (zZ ho0) hb)
      have n3_:=Zk (yK (by (with_reducible repeat (first|apply zR|apply zQ|apply zU));exact HO451.out) (zZ ho0) hb)
      have n4_:=Zk (yK (by (with_reducible repeat (first|apply zR|apply zQ|apply zU));exact HO454.out) (zZ ho0) hb)
      have n5_:=Zk (yK (by (with_reducible repeat (first|apply zR|apply zQ|apply zU));exact HO457.out) (zZ ho0) hb)
      have n6_:=Zk (yU (R_newB (yR (yR (yR (R_newM (M:=fun k_=>(w.heap.size≤k_)) ho0 (zP (by repeat (first|(with_reducible first|exact HB.out|apply zG|apply zD|apply zH|refine zC ?_ GE444.out|refine zC ?_ GE445.out|refine zC ?_ GE446.out)|exact HB.out))) (fun k_ h_=>h_)) (R_lt (by (with_reducible repeat (first|apply zR|apply zQ|apply zU));exact HO451.out))) (R_lt (by (with_reducible repeat (first|apply zR|apply zQ|apply zU));exact HO454.out))) (R_lt (by (with_reducible repeat (first|apply zR|apply zQ|apply zU));exact HO457.out))) (g:=gb445) (o:=.cells #[.int .i64 a1] 3 (0,0)) (by (with_reducible repeat (first|refine zB ?_ _|refine zF ?_|refine zA ?_ _));exact BK445.out)) (zP (by repeat (first|(with_reducible first|exact HB.out|apply zG|apply zD|apply zH|refine zC ?_ GE444.out|refine zC ?_ GE445.out|refine zC ?_ GE446.out)|exact HB.out))))
      have n7_:=Zk (zW (g:=gb444) (o:=.cells #[.slice Ao129 t449.length co129,.slice Ao131 t452.length co131,.slice Ao132 t455.length co132] 30 (0,0)) (by (with_reducible repeat (first|refine zB ?_ _|refine zF ?_|refine zA ?_ _));exact BK444.out) hb)
      have n8_:=Zk (zW (g:=gb445) (o:=.cells #[.int .i64 a1] 3 (0,0)) (by (with_reducible repeat (first|refine zB ?_ _|refine zF ?_|refine zA ?_ _));exact BK445.out) hb)
      have n9_:=Zk (zW (g:=gb446) (o:=.cells #[.slice none 0 0,.slice none 0 0,.slice none 0 0] 30 (0,0)) (by (with_reducible repeat (first|refine zB ?_ _|refine zF ?_|refine zA ?_ _));exact BK446.out) hb)
      have n10_:=Zk (yA (by repeat (first|(with_reducible first|exact HB.out|apply zG|apply zD|apply zH|refine zC ?_ GE444.out|refine zC ?_ GE445.out|refine zC ?_ GE446.out)|exact HB.out)) hb)
      clear HO_445000
      clear HO_445001
      clear HO_445002
      clear HO451
      clear HO454
      clear HO457
      clear BK444
      clear BK445
      clear BK446
      clear HB
      have HO_445000:=n0_
      have HO_445001:=n1_
      have HO_445002:=n2_
      have HO451:=n3_
      have HO454:=n4_
      have HO457:=n5_
      have HO460:=n6_
      have BK444:=n7_
      have BK445:=n8_
      have BK446:=n9_
      have HB:=n10_
      clear n0_ n1_ n2_ n3_ n4_ n5_ n6_ n7_ n8_ n9_ n10_
      (try clear hb)
      (try clear hb2)
      (try clear hk)
      (try clear hi)
      (try clear ho0)
      refine hK.out _ _ ⟨(zJ BK444.out 0).trans rfl,(zJ BK444.out 1).trans rfl,(zJ BK444.out 2).trans rfl⟩ (fun hHeld=>?_)
      clear hK K
      refine norm_ (a':=?_) ?_ ?_
      rotate_left
      ·show Act.put _ (some 31) _=_
       simp only [Act.put,List.setIfInBounds_toArray,List.set_cons_zero,List.set_cons_succ,yX,i32_w]
       rfl
      refine pure_ (i:=8) (N:=some 36) (v:=?_) (a':=?_) #[true,true,true,true,true,true,true,false,true,false,false,false] rfl rfl (any_of HT_.out (by kernel_rfl)) (fun _ _ _ h=>h) (Or.inl ⟨by rfl,?_⟩) ?_ ?_
      rotate_left
      ·intro w'
       go_simp
       with_reducible rfl
      rotate_left
      ·simp only [Act.put,List.setIfInBounds_toArray,List.set_cons_zero,List.set_cons_succ,yX,i32_w]
       rfl
      refine one_ (i:=7) (N:=some 35) #[true,true,true,true,true,true,true,true,true,false,false,false] rfl rfl (one_of HT_.out (by kernel_rfl)) (by decide) (fun K hK=>?_)
      refine goes_ Tryd.func40 (by kernel_rfl) rfl #[.slice Ao132 t455.length co132,.func (.func 48) #[] #[.pointer (some ⟨gb445,0,none⟩)]] (by rfl) rfl rfl (by (try simp only [List.map_toArray,List.map_cons,List.map_nil]);first|done|rfl|(simp only [List.length_drop,List.length_take];rfl)) ?_
      with_reducible refine (signal_without_1_48.calls _ _ t455 a1 t461 _ ?side1 ?side2 ?side3 A41.out).mono ?_
      (case side1=>repeat (first|exact (yZ HO457.out).2.2|(with_reducible refine yG ?_ _)|(with_reducible refine yF ?_ _)|(with_reducible refine yI ?_)))
      (case side2=>exact (yZ HO457.out).2.1)
      (case side3=>exact by (with_reducible repeat (first|refine zB ?_ _|refine zF ?_|refine zA ?_ _));exact BK445.out)
      rintro e w136 ⟨v462,rfl,ho0,hb⟩
      refine ⟨_,rfl,?_⟩
      have n0_:=Zk (yL (by (with_reducible repeat (first|apply zL|apply zK|apply zM));exact HO_445000.out) (zZ ho0) hb)
      have n1_:=Zk (yL (by (with_reducible repeat (first|apply zL|apply zK|apply zM));exact HO_445001.out) (zZ ho0) hb)
      have n2_:=Zk (yL (by (with_reducible repeat (first|apply zL|apply zK|apply zM));exact HO_445002.out) (zZ ho0) hb)
      have n3_:=Zk (yK (by (with_reducible repeat (first|apply zR|apply zQ|apply zU));exact HO451.out) (zZ ho0) hb)
      have n4_:=Zk (yK (by (with_reducible repeat (first|apply zR|apply zQ|apply zU));exact HO454.out) (zZ ho0) hb)
      have n5_:=Zk (yK (by (with_reducible repeat (first|apply zR|apply zQ|apply zU));exact HO457.out) (zZ ho0) hb)
      have n6_:=Zk (yK (by (with_reducible repeat (first|apply zR|apply zQ|apply zU));exact HO460.out) (zZ ho0) hb)
      have n7_:=Zk (yU (R_newB (yR (yR (yR (yR (R_newM (M:=fun k_=>(w.heap.size≤k_)) ho0 (zP (by repeat (first|(with_reducible first|exact HB.out|apply zG|apply zD|apply zH|refine zC ?_ GE444.out|refine zC ?_ GE445.out|refine zC ?_ GE446.out)|exact HB.out))) (fun k_ h_=>h_)) (R_lt (by (with_reducible repeat (first|apply zR|apply zQ|apply zU));exact HO451.out))) (R_lt (by (with_reducible repeat (first|apply zR|apply zQ|apply zU));exact HO454.out))) (R_lt (by (with_reducible repeat (first|apply zR|apply zQ|apply zU));exact HO457.out))) (R_lt (by (with_reducible repeat (first|apply zR|apply zQ|apply zU));exact HO460.out))) (g:=gb445) (o:=.cells #[.int .i64 a1] 3 (0,0)) (by (with_reducible repeat (first|refine zB ?_ _|refine zF ?_|refine zA ?_ _));exact BK445.out)) (zP (by repeat (first|(with_reducible first|exact HB.out|apply zG|apply zD|apply zH|refine zC ?_ GE444.out|refine zC ?_ GE445.out|refine zC ?_ GE446.out)|exact HB.out))))
      have n8_:=Zk (zW (g:=gb444) (o:=.cells #[.slice Ao129 t449.length co129,.slice Ao131 t452.length co131,.slice Ao132 t455.length co132] 30 (0,0)) (by (with_reducible repeat (first|refine zB ?_ _|refine zF ?_|refine zA ?_ _));exact BK444.out) hb)
      have n9_:=Zk (zW (g:=gb445) (o:=.cells #[.int .i64 a1] 3 (0,0)) (by (with_reducible repeat (first|refine zB ?_ _|refine zF ?_|refine zA ?_ _));exact BK445.out) hb)
      have n10_:=Zk (zW (g:=gb446) (o:=.cells #[.slice none 0 0,.slice none 0 0,.slice none 0 0] 30 (0,0)) (by (with_reducible repeat (first|refine zB ?_ _|refine zF ?_|refine zA ?_ _));exact BK446.out) hb)
      have n11_:=Zk (yA (by repeat (first|(with_reducible first|exact HB.out|apply zG|apply zD|apply zH|refine zC ?_ GE444.out|refine zC ?_ GE445.out|refine zC ?_ GE446.out)|exact HB.out)) hb)
      clear HO_445000
      clear HO_445001
      clear HO_445002
      clear HO451
      clear HO454
      clear HO457
      clear HO460
      clear BK444
      clear BK445
      clear BK446
      clear HB
      have HO_445000:=n0_
      have HO_445001:=n1_
      have HO_445002:=n2_
      have HO451:=n3_
      have HO454:=n4_
      have HO457:=n5_
      have HO460:=n6_
      have HO463:=n7_
      have BK444:=n8_
      have BK445:=n9_
      have BK446:=n10_
      have HB:=n11_
      clear n0_ n1_ n2_ n3_ n4_ n5_ n6_ n7_ n8_ n9_ n10_ n11_
      (try clear hb)
      (try clear hb2)
      (try clear hk)
      (try clear hi)
      (try clear ho0)
      obtain ⟨Ao137,co137,eo137⟩:=yQ HO460.out
      (first|subst eo137|(injection eo137 with f1_ f2_ f3_;have f4_:=f1_.symm;have f5_:=f3_.symm;clear f1_ f2_ f3_;subst f4_;subst f5_))
      obtain ⟨Ao139,co139,eo139⟩:=yQ HO463.out
      (first|subst eo139|(injection eo139 with f1_ f2_ f3_;have f4_:=f1_.symm;have f5_:=f3_.symm;clear f1_ f2_ f3_;subst f4_;subst f5_))
      refine hK.out _ _ ⟨(zJ BK444.out 0).trans rfl,(zJ BK444.out 1).trans rfl,(zJ BK444.out 2).trans rfl⟩ (fun hHeld=>?_)
      clear hK K
      refine norm_ (a':=?_) ?_ ?_
      rotate_left
      ·show Act.put _ (some 35) _=_
       simp only [Act.put,List.setIfInBounds_toArray,List.set_cons_zero,List.set_cons_succ,yX,i32_w]
       rfl
      refine last_ (i:=9) (N:=none) #[true,true,true,true,true,true,true,true,true,true,false,false] rfl rfl (one_of HT_.out (by kernel_rfl)) (by decide) (fun K hK=>?_)
      have hs138:w136.cell? ⟨gb444,1,none⟩=some (.slice Ao131 t452.length co131):=(zJ BK444.out 1).trans rfl
      have hfs138:=zI BK444.out 1
      have hns138_1:=NB445_444.out
      have hns138_2:=NB446_444.out
      have hms138_1:=NB444_445.out
      have hms138_2:=NB444_446.out
      refine skip_ (w1:=?_) (by rfl) rfl ?_ ?_
      rotate_left
      ·go_simp
       rfl
      refine hK.out _ _ ?_
      clear hK K
      refine pure_ (i:=10) (N:=some 37) (v:=?_) (a':=?_) #[true,true,true,true,true,true,true,true,true,true,true,false] rfl rfl (any_of HT_.out (by kernel_rfl)) (fun _ _ _ h=>h) (Or.inl ⟨by rfl,?_⟩) ?_ ?_
      rotate_left
      ·intro w'
       go_simp
       with_reducible rfl
      rotate_left
      ·simp only [Act.put,List.setIfInBounds_toArray,List.set_cons_zero,List.set_cons_succ,yX,i32_w]
       rfl
      refine last_ (i:=11) (N:=none) #[true,true,true,true,true,true,true,true,true,true,true,true] rfl rfl (one_of HT_.out (by kernel_rfl)) (by decide) (fun K hK=>?_)
      have hs140:w136.cell? ⟨gb444,2,none⟩=some (.slice Ao132 t455.length co132):=(zJ BK444.out 2).trans rfl
      have hfs140:=zI BK444.out 2
      have hns140_1:=NB445_444.out
      have hns140_2:=NB446_444.out
      have hms140_1:=NB444_445.out
      have hms140_2:=NB444_446.out
      refine skip_ (w1:=?_) (by rfl) rfl ?_ ?_
      rotate_left
      ·go_simp
       rfl
      refine hK.out _ _ ?_
      clear hK K
      refine done_ (done_of HT_.out (by kernel_rfl)) ?_
      have hcz141_0:w136.cell? ⟨gb444,0,none⟩=some (.slice Ao129 t449.length co129):=(zJ BK444.out 0).trans rfl
      have hcz141_1:w136.cell? ⟨gb444,1,none⟩=some (.slice Ao131 t452.length co131):=(zJ BK444.out 1).trans rfl
      have hcz141_2:w136.cell? ⟨gb444,2,none⟩=some (.slice Ao132 t455.length co132):=(zJ BK444.out 2).trans rfl
      have hfz141_0:=zI BK444.out 0
      have hfz141_1:=zI BK444.out 1
      have hfz141_2:=zI BK444.out 2
      have hnb142:=NB446_445.out
      have hnc142:=NB445_446.out
      have hcz143_0:w136.cell? ⟨gb446,0,none⟩=some (.slice none 0 0):=(zJ BK446.out 0).trans rfl
      have hcz143_1:w136.cell? ⟨gb446,1,none⟩=some (.slice none 0 0):=(zJ BK446.out 1).trans rfl
      have hcz143_2:w136.cell? ⟨gb446,2,none⟩=some (.slice none 0 0):=(zJ BK446.out 2).trans rfl
      have hfz143_0:=zI BK446.out 0
      have hfz143_1:=zI BK446.out 1
      have hfz143_2:=zI BK446.out 2
      try go_wp2_with (first|((with_reducible refine xA (t:=30) (p:=6) rfl ?_);refine yY (t:=30) (p:=6) (v:=?vo_w144) (w1:=(((((w136.setCell ⟨gb444,1,none⟩ (.slice Ao137 t458.length co137)).setCell ⟨gb444,2,none⟩ (.slice Ao139 t461.length co139)).setCell ⟨gb446,0,none⟩ (.slice Ao129 t449.length co129)).setCell ⟨gb446,1,none⟩ (.slice Ao137 t458.length co137)).setCell ⟨gb446,2,none⟩ (.slice Ao139 t461.length co139))) ?hg ?ho ?hn ?hr ?_;(case ho=>rfl);(case hg=>rfl);(case hn=>rfl);(case hr=>first|(go_simp;done)|(go_simp;rfl));intro w144 hw;have n0_:zN (Kd.V (Kd.int .i64) 3 w144 w.heap.size (fun k_=>((P0_0_ k_∨P0_1_ k_∨P0_2_ k_)∨w.heap.size≤k_)∧some k_≠(.slice Ao129 t449.length co129:Value).ownBlock∧some k_≠(.slice Ao131 t452.length co131:Value).ownBlock∧some k_≠(.slice Ao132 t455.length co132:Value).ownBlock∧some k_≠(.slice Ao137 t458.length co137:Value).ownBlock∧some k_≠(.slice Ao139 t461.length co139:Value).ownBlock∧k_≠gb444∧k_≠gb445∧k_≠gb446) (.slice A0_0 l0_0.length c0_0) l0_0):=⟨(by rw [hw];exact (by (with_reducible repeat (first|apply zL|apply zK|apply zM));exact zO (zS (p:=⟨gb446,2,none⟩) (zS (p:=⟨gb446,1,none⟩) (zS (p:=⟨gb446,0,none⟩) (zS (p:=⟨gb444,2,none⟩) (zS (p:=⟨gb444,1,none⟩) (zO (zO HO_445000.out (fun k_ hk=>(⟨hk,hk.1.1.2.2.2.2.1⟩:_∧k_≠gb444))) (fun k_ hk=>(⟨hk,hk.1.1.1.2.2.2.2.2.2⟩:_∧k_≠gb446))) (fun _ hk=>hk.1.2) (.slice Ao137 t458.length co137)) (fun _ hk=>hk.1.2) (.slice Ao139 t461.length co139)) (fun _ hk=>hk.2) (.slice Ao129 t449.length co129)) (fun _ hk=>hk.2) (.slice Ao137 t458.length co137)) (fun _ hk=>hk.2) (.slice Ao139 t461.length co139)) (fun _ hk=>⟨hk.1.1.1.1.1,⟨hk.1.1.1.1.2.1,⟨hk.1.1.1.1.2.2.1,⟨hk.1.1.1.1.2.2.2.1,⟨hk.1.1.1.2,⟨hk.1.1.2,⟨hk.1.1.1.1.2.2.2.2.1,⟨hk.1.1.1.1.2.2.2.2.2.1,hk.1.1.1.1.2.2.2.2.2.2⟩⟩⟩⟩⟩⟩⟩⟩)))⟩;have n1_:zN (Kd.V (Kd.int .i64) 3 w144 w.heap.size (fun k_=>((P0_0_ k_∨P0_1_ k_∨P0_2_ k_)∨w.heap.size≤k_)∧some k_≠(.slice Ao129 t449.length co129:Value).ownBlock∧some k_≠(.slice Ao131 t452.length co131:Value).ownBlock∧some k_≠(.slice Ao132 t455.length co132:Value).ownBlock∧some k_≠(.slice Ao137 t458.length co137:Value).ownBlock∧some k_≠(.slice Ao139 t461.length co139:Value).ownBlock∧k_≠gb444∧k_≠gb445∧k_≠gb446) (.slice A0_1 l0_1.length c0_1) l0_1):=⟨(by rw [hw];exact (by (with_reducible repeat (first|apply zL|apply zK|apply zM));exact zO (zS (p:=⟨gb446,2,none⟩) (zS (p:=⟨gb446,1,none⟩) (zS (p:=⟨gb446,0,none⟩) (zS (p:=⟨gb444,2,none⟩) (zS (p:=⟨gb444,1,none⟩) (zO (zO HO_445001.out (fun k_ hk=>(⟨hk,hk.1.1.2.2.2.2.1⟩:_∧k_≠gb444))) (fun k_ hk=>(⟨hk,hk.1.1.1.2.2.2.2.2.2⟩:_∧k_≠gb446))) (fun _ hk=>hk.1.2) (.slice Ao137 t458.length co137)) (fun _ hk=>hk.1.2) (.slice Ao139 t461.length co139)) (fun _ hk=>hk.2) (.slice Ao129 t449.length co129)) (fun _ hk=>hk.2) (.slice Ao137 t458.length co137)) (fun _ hk=>hk.2) (.slice Ao139 t461.length co139)) (fun _ hk=>⟨hk.1.1.1.1.1,⟨hk.1.1.1.1.2.1,⟨hk.1.1.1.1.2.2.1,⟨hk.1.1.1.1.2.2.2.1,⟨hk.1.1.1.2,⟨hk.1.1.2,⟨hk.1.1.1.1.2.2.2.2.1,⟨hk.1.1.1.1.2.2.2.2.2.1,hk.1.1.1.1.2.2.2.2.2.2⟩⟩⟩⟩⟩⟩⟩⟩)))⟩;have n2_:zN (Kd.V (Kd.int .i64) 3 w144 w.heap.size (fun k_=>((P0_0_ k_∨P0_1_ k_∨P0_2_ k_)∨w.heap.size≤k_)∧some k_≠(.slice Ao129 t449.length co129:Value).ownBlock∧some k_≠(.slice Ao131 t452.length co131:Value).ownBlock∧some k_≠(.slice Ao132 t455.length co132:Value).ownBlock∧some k_≠(.slice Ao137 t458.length co137:Value).ownBlock∧some k_≠(.slice Ao139 t461.length co139:Value).ownBlock∧k_≠gb444∧k_≠gb445∧k_≠gb446) (.slice A0_2 l0_2.length c0_2) l0_2):=⟨(by rw [hw];exact (by (with_reducible repeat (first|apply zL|apply zK|apply zM));exact zO (zS (p:=⟨gb446,2,none⟩) (zS (p:=⟨gb446,1,none⟩) (zS (p:=⟨gb446,0,none⟩) (zS (p:=⟨gb444,2,none⟩) (zS (p:=⟨gb444,1,none⟩) (zO (zO HO_445002.out (fun k_ hk=>(⟨hk,hk.1.1.2.2.2.2.1⟩:_∧k_≠gb444))) (fun k_ hk=>(⟨hk,hk.1.1.1.2.2.2.2.2.2⟩:_∧k_≠gb446))) (fun _ hk=>hk.1.2) (.slice Ao137 t458.length co137)) (fun _ hk=>hk.1.2) (.slice Ao139 t461.length co139)) (fun _ hk=>hk.2) (.slice Ao129 t449.length co129)) (fun _ hk=>hk.2) (.slice Ao137 t458.length co137)) (fun _ hk=>hk.2) (.slice Ao139 t461.length co139)) (fun _ hk=>⟨hk.1.1.1.1.1,⟨hk.1.1.1.1.2.1,⟨hk.1.1.1.1.2.2.1,⟨hk.1.1.1.1.2.2.2.1,⟨hk.1.1.1.2,⟨hk.1.1.2,⟨hk.1.1.1.1.2.2.2.2.1,⟨hk.1.1.1.1.2.2.2.2.2.1,hk.1.1.1.1.2.2.2.2.2.2⟩⟩⟩⟩⟩⟩⟩⟩)))⟩;have n3_:zN (Kd.R (Kd.int .i64) 3 w144 w.heap.size (fun k_=>(w.heap.size≤k_)∧some k_≠(.slice Ao131 t452.length co131:Value).ownBlock∧some k_≠(.slice Ao132 t455.length co132:Value).ownBlock∧some k_≠(.slice Ao137 t458.length co137:Value).ownBlock∧some k_≠(.slice Ao139 t461.length co139:Value).ownBlock∧k_≠gb445) (.slice Ao129 t449.length co129) t449):=⟨(by rw [hw];exact (by (with_reducible repeat (first|apply zR|apply zQ|apply zU));exact yB (zT (p:=⟨gb446,2,none⟩) (zT (p:=⟨gb446,1,none⟩) (zT (p:=⟨gb446,0,none⟩) (zT (p:=⟨gb444,2,none⟩) (zT (p:=⟨gb444,1,none⟩) (zX (zX HO451.out BK444.out (by decide)) BK446.out (by decide)) (fun _ hk=>hk.1.2) (.slice Ao137 t458.length co137)) (fun _ hk=>hk.1.2) (.slice Ao139 t461.length co139)) (fun _ hk=>hk.2) (.slice Ao129 t449.length co129)) (fun _ hk=>hk.2) (.slice Ao137 t458.length co137)) (fun _ hk=>hk.2) (.slice Ao139 t461.length co139)) (fun _ hk=>⟨hk.1.1.1.1.1,⟨hk.1.1.1.1.2.1,⟨hk.1.1.1.1.2.2.1,⟨hk.1.1.1.2,⟨hk.1.1.2,hk.1.1.1.1.2.2.2⟩⟩⟩⟩⟩)))⟩;have n4_:zN (Kd.R (Kd.int .i64) 3 w144 w.heap.size (fun k_=>(w.heap.size≤k_)∧some k_≠(.slice Ao129 t449.length co129:Value).ownBlock∧some k_≠(.slice Ao132 t455.length co132:Value).ownBlock∧some k_≠(.slice Ao137 t458.length co137:Value).ownBlock∧some k_≠(.slice Ao139 t461.length co139:Value).ownBlock∧k_≠gb445) (.slice Ao131 t452.length co131) t452):=⟨(by rw [hw];exact (by (with_reducible repeat (first|apply zR|apply zQ|apply zU));exact yB (zT (p:=⟨gb446,2,none⟩) (zT (p:=⟨gb446,1,none⟩) (zT (p:=⟨gb446,0,none⟩) (zT (p:=⟨gb444,2,none⟩) (zT (p:=⟨gb444,1,none⟩) (zX (zX HO454.out BK444.out (by decide)) BK446.out (by decide)) (fun _ hk=>hk.1.2) (.slice Ao137 t458.length co137)) (fun _ hk=>hk.1.2) (.slice Ao139 t461.length co139)) (fun _ hk=>hk.2) (.slice Ao129 t449.length co129)) (fun _ hk=>hk.2) (.slice Ao137 t458.length co137)) (fun _ hk=>hk.2) (.slice Ao139 t461.length co139)) (fun _ hk=>⟨hk.1.1.1.1.1,⟨hk.1.1.1.1.2.1,⟨hk.1.1.1.1.2.2.1,⟨hk.1.1.1.2,⟨hk.1.1.2,hk.1.1.1.1.2.2.2⟩⟩⟩⟩⟩)))⟩;have n5_:zN (Kd.R (Kd.int .i64) 3 w144 w.heap.size (fun k_=>(w.heap.size≤k_)∧some k_≠(.slice Ao129 t449.length co129:Value).ownBlock∧some k_≠(.slice Ao131 t452.length co131:Value).ownBlock∧some k_≠(.slice Ao137 t458.length co137:Value).ownBlock∧some k_≠(.slice Ao139 t461.length co139:Value).ownBlock∧k_≠gb445) (.slice Ao132 t455.length co132) t455):=⟨(by rw [hw];exact (by (with_reducible repeat (first|apply zR|apply zQ|apply zU));exact yB (zT (p:=⟨gb446,2,none⟩) (zT (p:=⟨gb446,1,none⟩) (zT (p:=⟨gb446,0,none⟩) (zT (p:=⟨gb444,2,none⟩) (zT (p:=⟨gb444,1,none⟩) (zX (zX HO457.out BK444.out (by decide)) BK446.out (by decide)) (fun _ hk=>hk.1.2) (.slice Ao137 t458.length co137)) (fun _ hk=>hk.1.2) (.slice Ao139 t461.length co139)) (fun _ hk=>hk.2) (.slice Ao129 t449.length co129)) (fun _ hk=>hk.2) (.slice Ao137 t458.length co137)) (fun _ hk=>hk.2) (.slice Ao139 t461.length co139)) (fun _ hk=>⟨hk.1.1.1.1.1,⟨hk.1.1.1.1.2.1,⟨hk.1.1.1.1.2.2.1,⟨hk.1.1.1.2,⟨hk.1.1.2,hk.1.1.1.1.2.2.2⟩⟩⟩⟩⟩)))⟩;have n6_:zN (Kd.R (Kd.int .i64) 3 w144 w.heap.size (fun k_=>(w.heap.size≤k_)∧some k_≠(.slice Ao129 t449.length co129:Value).ownBlock∧some k_≠(.slice Ao131 t452.length co131:Value).ownBlock∧some k_≠(.slice Ao132 t455.length co132:Value).ownBlock∧some k_≠(.slice Ao139 t461.length co139:Value).ownBlock∧k_≠gb445) (.slice Ao137 t458.length co137) t458):=⟨(by rw [hw];exact (by (with_reducible repeat (first|apply zR|apply zQ|apply zU));exact yB (zT (p:=⟨gb446,2,none⟩) (zT (p:=⟨gb446,1,none⟩) (zT (p:=⟨gb446,0,none⟩) (zT (p:=⟨gb444,2,none⟩) (zT (p:=⟨gb444,1,none⟩) (zX (zX HO460.out BK444.out (by decide)) BK446.out (by decide)) (fun _ hk=>hk.1.2) (.slice Ao137 t458.length co137)) (fun _ hk=>hk.1.2) (.slice Ao139 t461.length co139)) (fun _ hk=>hk.2) (.slice Ao129 t449.length co129)) (fun _ hk=>hk.2) (.slice Ao137 t458.length co137)) (fun _ hk=>hk.2) (.slice Ao139 t461.length co139)) (fun _ hk=>⟨hk.1.1.1.1.1.1.1.1,⟨hk.1.1.1.1.1.1.2,⟨hk.1.1.1.1.1.2,⟨hk.1.1.1.1.2,⟨hk.1.1.2,hk.1.1.1.2⟩⟩⟩⟩⟩)))⟩;have n7_:zN (Kd.R (Kd.int .i64) 3 w144 w.heap.size (fun k_=>(w.heap.size≤k_)∧some k_≠(.slice Ao129 t449.length co129:Value).ownBlock∧some k_≠(.slice Ao131 t452.length co131:Value).ownBlock∧some k_≠(.slice Ao132 t455.length co132:Value).ownBlock∧some k_≠(.slice Ao137 t458.length co137:Value).ownBlock∧k_≠gb445) (.slice Ao139 t461.length co139) t461):=⟨(by rw [hw];exact (by (with_reducible repeat (first|apply zR|apply zQ|apply zU));exact yB (zT (p:=⟨gb446,2,none⟩) (zT (p:=⟨gb446,1,none⟩) (zT (p:=⟨gb446,0,none⟩) (zT (p:=⟨gb444,2,none⟩) (zT (p:=⟨gb444,1,none⟩) (zX (zX HO463.out BK444.out (by decide)) BK446.out (by decide)) (fun _ hk=>hk.1.2) (.slice Ao137 t458.length co137)) (fun _ hk=>hk.1.2) (.slice Ao139 t461.length co139)) (fun _ hk=>hk.2) (.slice Ao129 t449.length co129)) (fun _ hk=>hk.2) (.slice Ao137 t458.length co137)) (fun _ hk=>hk.2) (.slice Ao139 t461.length co139)) (fun _ hk=>⟨hk.1.1.1.1.1.1.1.1,⟨hk.1.1.1.1.1.1.2,⟨hk.1.1.1.1.1.2,⟨hk.1.1.1.1.2,⟨hk.1.1.1.2,hk.1.1.2⟩⟩⟩⟩⟩)))⟩;have n8_:zN (w144.heap[gb444]?=some (.cells #[.slice Ao129 t449.length co129,.slice Ao137 t458.length co137,.slice Ao139 t461.length co139] 30 (0,0))):=⟨(by rw [hw];exact (by (with_reducible repeat (first|refine zB ?_ _|refine zF ?_|refine zA ?_ _));refine zY ?_ NB444_446.out _;(with_reducible repeat (first|refine zB ?_ _|refine zF ?_|refine zA ?_ _));refine zY ?_ NB444_446.out _;(with_reducible repeat (first|refine zB ?_ _|refine zF ?_|refine zA ?_ _));refine zY ?_ NB444_446.out _;(with_reducible repeat (first|refine zB ?_ _|refine zF ?_|refine zA ?_ _));refine yE (cs:=#[.slice Ao129 t449.length co129,.slice Ao137 t458.length co137,.slice Ao132 t455.length co132]) ?_ 2 _ rfl;(with_reducible repeat (first|refine zB ?_ _|refine zF ?_|refine zA ?_ _));refine yE (cs:=#[.slice Ao129 t449.length co129,.slice Ao131 t452.length co131,.slice Ao132 t455.length co132]) ?_ 1 _ rfl;(with_reducible repeat (first|refine zB ?_ _|refine zF ?_|refine zA ?_ _));exact BK444.out))⟩;have n9_:zN (w144.heap[gb445]?=some (.cells #[.int .i64 a1] 3 (0,0))):=⟨(by rw [hw];exact (by (with_reducible repeat (first|refine zB ?_ _|refine zF ?_|refine zA ?_ _));refine zY ?_ NB445_446.out _;(with_reducible repeat (first|refine zB ?_ _|refine zF ?_|refine zA ?_ _));refine zY ?_ NB445_446.out _;(with_reducible repeat (first|refine zB ?_ _|refine zF ?_|refine zA ?_ _));refine zY ?_ NB445_446.out _;(with_reducible repeat (first|refine zB ?_ _|refine zF ?_|refine zA ?_ _));refine zY ?_ NB445_444.out _;(with_reducible repeat (first|refine zB ?_ _|refine zF ?_|refine zA ?_ _));refine zY ?_ NB445_444.out _;(with_reducible repeat (first|refine zB ?_ _|refine zF ?_|refine zA ?_ _));exact BK445.out))⟩;have n10_:zN (w144.heap[gb446]?=some (.cells #[.slice Ao129 t449.length co129,.slice Ao137 t458.length co137,.slice Ao139 t461.length co139] 30 (0,0))):=⟨(by rw [hw];exact (by (with_reducible repeat (first|refine zB ?_ _|refine zF ?_|refine zA ?_ _));refine yE (cs:=#[.slice Ao129 t449.length co129,.slice Ao137 t458.length co137,.slice none 0 0]) ?_ 2 _ rfl;(with_reducible repeat (first|refine zB ?_ _|refine zF ?_|refine zA ?_ _));refine yE (cs:=#[.slice Ao129 t449.length co129,.slice none 0 0,.slice none 0 0]) ?_ 1 _ rfl;(with_reducible repeat (first|refine zB ?_ _|refine zF ?_|refine zA ?_ _));refine yE (cs:=#[.slice none 0 0,.slice none 0 0,.slice none 0 0]) ?_ 0 _ rfl;(with_reducible repeat (first|refine zB ?_ _|refine zF ?_|refine zA ?_ _));refine zY ?_ NB446_444.out _;(with_reducible repeat (first|refine zB ?_ _|refine zF ?_|refine zA ?_ _));refine zY ?_ NB446_444.out _;(with_reducible repeat (first|refine zB ?_ _|refine zF ?_|refine zA ?_ _));exact BK446.out))⟩;have n11_:zN (Below w.heap.size w w144):=⟨(by rw [hw];exact (by repeat (first|(with_reducible first|exact HB.out|apply zG|apply zD|apply zH|refine zC ?_ GE444.out|refine zC ?_ GE445.out|refine zC ?_ GE446.out)|exact HB.out)))⟩;clear hw;clear HO_445000;clear HO_445001;clear HO_445002;clear HO451;clear HO454;clear HO457;clear HO460;clear HO463;clear BK444;clear BK445;clear BK446;clear HB;have HO_445000:=n0_;have HO_445001:=n1_;have HO_445002:=n2_;have HO451:=n3_;have HO454:=n4_;have HO457:=n5_;have HO460:=n6_;have HO463:=n7_;have BK444:=n8_;have BK445:=n9_;have BK446:=n10_;have HB:=n11_;clear n0_ n1_ n2_ n3_ n4_ n5_ n6_ n7_ n8_ n9_ n10_ n11_))
      refine bodyPost_ret (results_ct rfl _ _ gb446 30 #[.slice Ao129 t449.length co129,.slice Ao137 t458.length co137,.slice Ao139 t461.length co139] (0,0) _ rfl (by (with_reducible repeat (first|refine zB ?_ _|refine zF ?_|refine zA ?_ _));exact BK446.out) Tryd.underlying30 rfl (by kernel_rfl)) rfl ?_
      exact ⟨_,_,_,by first|rfl|(simp [errW_none,errW_some] <;> rfl)|(simp [*,errW_none,errW_some] <;> rfl),zO (R_V (by (with_reducible repeat (first|apply zR|apply zQ|apply zU));exact yB HO451.out (fun _ hk=>hk.1))) (fun k_ hk=>by first|exact ⟨(.inr (hk.1)),hk.2⟩|exact (.inr (hk))),zO (R_V (by (with_reducible repeat (first|apply zR|apply zQ|apply zU));exact yB HO460.out (fun _ hk=>hk.1))) (fun k_ hk=>by first|exact ⟨(.inr (hk.1)),hk.2⟩|exact (.inr (hk))),zO (R_V (by (with_reducible repeat (first|apply zR|apply zQ|apply zU));exact yB HO463.out (fun _ hk=>hk.1))) (fun k_ hk=>by first|exact ⟨(.inr (hk.1)),hk.2⟩|exact (.inr (hk))),by repeat (first|(with_reducible first|exact HB.out|apply zG|apply zD|apply zH|refine zC ?_ GE444.out|refine zC ?_ GE445.out|refine zC ?_ GE446.out)|exact HB.out)⟩
end Go.Proofs.YtnkkdpjipfjdaaaDoor.Q
end
