/- Own texts of one claim, put one behind the other by wip/tool/pack.py: words beside the print's, what each printed function computes, and the plain laws. -/
import Derived.Test.YtnkkdpjipfjdaaaDoorKSeF
import Derived.SizedLaws
import Derived.ProofKit
import Derived.WideShapes
import Derived.OpenShut
import Derived.ChangeArms
import Derived.Deep.Slices
import Derived.ChangeSame
import Derived.Test.YtnkkdpjipfjdaaaDoorRows
import Derived.LaidLaws
import Derived.LaidSub
import Derived.Lib.LaidTab
import Derived.KernelRfl
section

namespace Go.Proofs.YtnkkdpjipfjdaaaDoor.Q
open Go.RowKit Go.Proofs.YtnkkdpjipfjdaaaDoorW.PrintWords Go.Proofs.YtnkkdpjipfjdaaaDoorW.PrintLast Go.Proofs.YtnkkdpjipfjdaaaDoorW.PrintMore Go.Proofs.YtnkkdpjipfjdaaaDoorM
open Kd
attribute [local go_sem] max2_int min2_int max_two min_two max_three min_three max_four min_four
set_option linter.unusedVariables false
set_option linter.unusedSimpArgs false
def jobshelllaw25_SignalSets.j0:Nat→Int→Int→Bool→List Int→List Int→List Int→Option (Bool)
 |0,_,_,_,_,_,_=>none
 |k + 1,x1,x2,x18,x575000,x575001,x575002=>if x18=true then ((jobshelllaw25_awake.f k).bind fun t577=>(some t577)) else ((signal_Set.f k x575000 x575001 x575002 x1 x2).bind fun bt578=>((jobshellref25_Set.f k x575000 x575001 x575002 x1 x2).bind fun bt589=>((jobshellref25_Same.f k bt578.1 bt578.2.1 bt578.2.2.1 bt589.1 bt589.2.1 bt589.2.2.1).bind fun t600=>(if t600=true then (if bt578.2.2.2=bt589.2.2.2 then ((signal_Fork.f x575000 x575001 x575002).bind fun bt601=>((jobshellref25_Fork.f x575000 x575001 x575002).bind fun bt610=>((jobshellref25_Same.f k bt601.1 bt601.2.1 bt601.2.2 bt610.1 bt610.2.1 bt610.2.2).bind fun t619=>(if t619=true then ((signal_Exec.f x575000 x575001 x575002).bind fun bt620=>((jobshellref25_Exec.f x575000 x575001 x575002).bind fun bt629=>((jobshellref25_Same.f k bt620.1 bt620.2.1 bt620.2.2 bt629.1 bt629.2.1 bt629.2.2).bind fun t638=>(if t638=true then ((jobshelllaw25_awake.f k).bind fun t639=>(some t639)) else (none))))) else (none))))) else (none)) else (none)))))
def jobshelllaw25_SignalSets.f (k:Nat) (l0_0:List Int) (l0_1:List Int) (l0_2:List Int) (a1:Int) (a2:Int):Option (Bool):=(jobshelllaw25_short.f l0_0 l0_1 l0_2).bind fun t575=>(if t575=true then ((jobshellref25_Valid.f k l0_0 l0_1 l0_2).bind fun t576=>(jobshelllaw25_SignalSets.j0 k a1 a2 (t576 != 0) l0_0 l0_1 l0_2)) else (jobshelllaw25_SignalSets.j0 k a1 a2 true l0_0 l0_1 l0_2))
theorem jobshelllaw25_SignalSets.mono_l:∀ k,(∀ y0 y1 y2 y3 y4 y5,LeO (jobshelllaw25_SignalSets.j0 k y0 y1 y2 y3 y4 y5) (jobshelllaw25_SignalSets.j0 (k + 1) y0 y1 y2 y3 y4 y5))
 |0=>fun _ _ _ _ _ _ r h=>by simp [jobshelllaw25_SignalSets.j0] at h
 |k + 1=>by
  have ih0:=jobshelllaw25_SignalSets.mono_l k
  ·intro y0 y1 y2 y3 y4 y5
   unfold jobshelllaw25_SignalSets.j0
   repeat' first
   |(with_reducible exact ih0 _ _ _ _ _ _)
   |(with_reducible exact jobshelllaw25_awake.mono _)
   |(with_reducible exact jobshellref25_Same.mono _ _ _ _ _ _ _)
   |(with_reducible exact jobshellref25_Set.mono _ _ _ _ _ _)
   |(with_reducible exact jobshellref25_Valid.mono _ _ _ _)
   |(with_reducible exact signal_Set.mono _ _ _ _ _ _)
   |(with_reducible exact LeO.refl _)
   |(with_reducible exact LeO.none _)
   |(with_reducible refine LeO.ite ?_ ?_)
   |(with_reducible refine LeO.bind ?_ (fun _=>?_))
   |exact ih0 _ _ _ _ _ _
   |exact jobshelllaw25_awake.mono _
   |exact jobshellref25_Same.mono _ _ _ _ _ _ _
   |exact jobshellref25_Set.mono _ _ _ _ _ _
   |exact jobshellref25_Valid.mono _ _ _ _
   |exact signal_Set.mono _ _ _ _ _ _
   |exact LeO.none _
   |refine LeO.ite ?_ ?_
   |refine LeO.bind ?_ (fun _=>?_)
theorem jobshelllaw25_SignalSets.mono:∀ a0 a1 a2 a3 a4 k,LeO (jobshelllaw25_SignalSets.f k a0 a1 a2 a3 a4) (jobshelllaw25_SignalSets.f (k + 1) a0 a1 a2 a3 a4):=by
 intro a0 a1 a2 a3 a4 k
 have ih0:=jobshelllaw25_SignalSets.mono_l k
 unfold jobshelllaw25_SignalSets.f
 repeat' first
   |(with_reducible exact ih0 _ _ _ _ _ _)
   |(with_reducible exact jobshelllaw25_awake.mono _)
   |(with_reducible exact jobshellref25_Same.mono _ _ _ _ _ _ _)
   |(with_reducible exact jobshellref25_Set.mono _ _ _ _ _ _)
   |(with_reducible exact jobshellref25_Valid.mono _ _ _ _)
   |(with_reducible exact signal_Set.mono _ _ _ _ _ _)
   |(with_reducible exact LeO.refl _)
   |(with_reducible exact LeO.none _)
   |(with_reducible refine LeO.ite ?_ ?_)
   |(with_reducible refine LeO.bind ?_ (fun _=>?_))
   |exact ih0 _ _ _ _ _ _
   |exact jobshelllaw25_awake.mono _
   |exact jobshellref25_Same.mono _ _ _ _ _ _ _
   |exact jobshellref25_Set.mono _ _ _ _ _ _
   |exact jobshellref25_Valid.mono _ _ _ _
   |exact signal_Set.mono _ _ _ _ _ _
   |exact LeO.none _
   |refine LeO.ite ?_ ?_
   |refine LeO.bind ?_ (fun _=>?_)
def jobshelllaw25_SignalSets.T5:Bool × List (List Nat × List Nat):=(true,[([],[]),([],[]),([0,1],[0,1]),([2,2],[2]),([3],[3]),([3],[3]),([4,5,3],[3,4,5]),([3,6],[3,6]),([7,3],[7]),([8],[8]),([9,8,8],[8,9]),([8],[8]),([11,10,8],[8,11]),([10,12,12,8],[8,10,12]),([8,13],[8,13]),([14,13],[14]),([15],[15]),([16,15,15],[15,16]),([15],[15]),([18,17,15],[15,18]),([17,19,19,15],[15,17,19]),([15,20],[15,20]),([21,20],[21]),([22,22],[22]),([22,23],[22,23]),([24,23,0,1,2,3,4,5,6,7,8,9,10,11,12,13,14,15,16,17,18,19,20,21,22,23,24],[24])])
def jobshelllaw25_SignalSets.B5:List Nat:=[0,0,3,7,15,15,63,127,255,511,1023,511,4095,8191,16383,32767,65535,131071,65535,524287,1048575,2097151,4194303,8388607,16777215,33554431]
theorem jobshelllaw25_SignalSets.tab5:rtab .any (opsOf Tryd.f7 5)=jobshelllaw25_SignalSets.T5:=by kernel_rfl
theorem jobshelllaw25_SignalSets.bits5:waitsOk jobshelllaw25_SignalSets.T5.2 jobshelllaw25_SignalSets.B5=true:=by kernel_rfl
set_option maxHeartbeats 8000000 in
set_option maxRecDepth 10000000 in
theorem jobshelllaw25_SignalSets.calls (k:Nat) (A0_0:Option Addr) (c0_0:Nat) (l0_0:List Int) (A0_1:Option Addr) (c0_1:Nat) (l0_1:List Int) (A0_2:Option Addr) (c0_2:Nat) (l0_2:List Int) (a1:Int) (a2:Int) (r:Bool) (w:World) (hr0_0:Kd.C (Kd.int .i64) w A0_0 l0_0.length l0_0) (hc0_0:l0_0.length≤c0_0) (hr0_1:Kd.C (Kd.int .i64) w A0_1 l0_1.length l0_1) (hc0_1:l0_1.length≤c0_1) (hr0_2:Kd.C (Kd.int .i64) w A0_2 l0_2.length l0_2) (hc0_2:l0_2.length≤c0_2) (h:jobshelllaw25_SignalSets.f k l0_0 l0_1 l0_2 a1 a2=some r) :
  Calls Tryd.prog 7 #[.agg #[.slice A0_0 l0_0.length c0_0,.slice A0_1 l0_1.length c0_1,.slice A0_2 l0_2.length c0_2],.int .i64 a1,.int .i64 a2] w fun e w'=>e=.returned (.bool r)∧Below w.heap.size w w':=by
 have hu30:=Tryd.underlying30
 have HR0_0:=Zk hr0_0
 have HC0_0:=Zk hc0_0
 clear hr0_0 hc0_0
 have HR0_1:=Zk hr0_1
 have HC0_1:=Zk hc0_1
 clear hr0_1 hc0_1
 have HR0_2:=Zk hr0_2
 have HC0_2:=Zk hc0_2
 clear hr0_2 hc0_2
 have HB:=Zk (Below.refl w.heap.size w)
 have H:((jobshelllaw25_short.f l0_0 l0_1 l0_2).bind fun t575=>(if t575=true then ((jobshellref25_Valid.f k l0_0 l0_1 l0_2).bind fun t576=>(jobshelllaw25_SignalSets.j0 k a1 a2 (t576 != 0) l0_0 l0_1 l0_2)) else (jobshelllaw25_SignalSets.j0 k a1 a2 true l0_0 l0_1 l0_2)))=some r:=h
 clear h
 have HC4:=Zk H
 clear H
 go_enter Tryd.func7,Tryd.ntmps7
 go_upto_region 1 with (first|((with_reducible refine yX (N:=3) rfl ?_);refine yY ?hg (N:=3) ?hd (cs:=#[.slice A0_0 l0_0.length c0_0,.slice A0_1 l0_1.length c0_1,.slice A0_2 l0_2.length c0_2]) (t:=30) ?hr ?_;(case hd=>rfl);(case hg=>rfl);(case hr=>first|(go_simp;done)|(go_simp;rfl));intro gb574 hg w5 hbox hb;have n0_:=Zk (yB (by repeat (first|(with_reducible first|exact HB.out|apply zG|apply zD|apply zH)|exact HB.out)) hb);have n1_:=Zk (hbox);have n2_:=Zk ((by rw [hg];exact (zT (by repeat (first|(with_reducible first|exact HB.out|apply zG|apply zD|apply zH)|exact HB.out))):w.heap.size≤gb574));have n3_:=Zk ((by rw [hg];exact (zT (by repeat (first|(with_reducible first|exact HB.out|apply zG|apply zD|apply zH)|exact HB.out))):w.heap.size≤gb574));clear HB;have HB:=n0_;have BK574:=n1_;have GW574:=n2_;have GE574:=n3_;clear n0_ n1_ n2_ n3_;clear hb hbox hg))
 (try simp only [Act.put,List.setIfInBounds_toArray,List.set_cons_zero,List.set_cons_succ])
 go_cut [18] (fun v18 wc=>∃ (kq:Nat) (x18_3:Bool),v18=.bool x18_3∧zR (jobshelllaw25_SignalSets.j0 kq a1 a2 x18_3 l0_0 l0_1 l0_2=some r)∧zR (kq≤k)∧zR (wc.heap[gb574]?=some (.cells #[(.slice A0_0 l0_0.length c0_0),(.slice A0_1 l0_1.length c0_1),(.slice A0_2 l0_2.length c0_2)] 30 (0,0)))∧zR (Below w.heap.size w wc))
 case first=>
  have H:=HC4.out
  clear HC4
  replace H:=Option.bind_eq_some_iff.mp H
  obtain ⟨t575,A60,H⟩:=H
  replace H:(if t575=true then ((jobshellref25_Valid.f k l0_0 l0_1 l0_2).bind fun t576=>(jobshelllaw25_SignalSets.j0 k a1 a2 (t576 != 0) l0_0 l0_1 l0_2)) else (jobshelllaw25_SignalSets.j0 k a1 a2 true l0_0 l0_1 l0_2))=some r:=H
  have A6:=Zk A60
  clear A60
  by_cases c7:t575=true
  ·subst c7
   have H1:((jobshellref25_Valid.f k l0_0 l0_1 l0_2).bind fun t576=>(jobshelllaw25_SignalSets.j0 k a1 a2 (t576 != 0) l0_0 l0_1 l0_2))=some r:=by rw [if_pos rfl] at H;exact H
   clear H
   have H:=H1
   clear H1
   replace H:=Option.bind_eq_some_iff.mp H
   obtain ⟨t576,A80,H⟩:=H
   replace H:(jobshelllaw25_SignalSets.j0 k a1 a2 (t576 != 0) l0_0 l0_1 l0_2)=some r:=H
   have A8:=Zk A80
   clear A80
   have H':=Zk H
   clear H
   have hcz9_0:w5.cell? ⟨gb574,0,none⟩=some (.slice A0_0 l0_0.length c0_0):=(zI BK574.out 0).trans rfl
   have hcz9_1:w5.cell? ⟨gb574,1,none⟩=some (.slice A0_1 l0_1.length c0_1):=(zI BK574.out 1).trans rfl
   have hcz9_2:w5.cell? ⟨gb574,2,none⟩=some (.slice A0_2 l0_2.length c0_2):=(zI BK574.out 2).trans rfl
   have hfz9_0:=zJ BK574.out 0
   have hfz9_1:=zJ BK574.out 1
   have hfz9_2:=zJ BK574.out 2
   go_wp2_with (first|((with_reducible refine yE (f:=17) rfl ?_);refine yN (some 12) rfl rfl Tryd.func17 (by kernel_rfl) rfl #[.agg #[.slice A0_0 l0_0.length c0_0,.slice A0_1 l0_1.length c0_1,.slice A0_2 l0_2.length c0_2]] rfl (by (try simp only [List.map_toArray,List.map_cons,List.map_nil]);first|done|rfl|(simp only [List.length_drop,List.length_take];rfl)) ?_;(with_reducible refine (jobshelllaw25_short.calls _ _ l0_0 _ _ l0_1 _ _ l0_2 true _ ?side1 ?side2 ?side3 ?side4 ?side5 ?side6 A6.out).mono ?_);(case side1=>repeat (first|exact (yT HR0_0.out HB.out)|(with_reducible refine yG ?_ _)|(with_reducible refine yF ?_ _)|(with_reducible refine yK ?_)));(case side2=>exact HC0_0.out);(case side3=>repeat (first|exact (yT HR0_1.out HB.out)|(with_reducible refine yG ?_ _)|(with_reducible refine yF ?_ _)|(with_reducible refine yK ?_)));(case side4=>exact HC0_1.out);(case side5=>repeat (first|exact (yT HR0_2.out HB.out)|(with_reducible refine yG ?_ _)|(with_reducible refine yF ?_ _)|(with_reducible refine yK ?_)));(case side6=>exact HC0_2.out);rintro e w10 ⟨rfl,hb⟩;refine ⟨_,rfl,?_⟩;have n0_:=Zk (zX (g:=gb574) (o:=.cells #[.slice A0_0 l0_0.length c0_0,.slice A0_1 l0_1.length c0_1,.slice A0_2 l0_2.length c0_2] 30 (0,0)) (by (with_reducible repeat (first|refine zC ?_ _|refine zF ?_|refine zB ?_ _));exact BK574.out) hb);have n1_:=Zk (yB (by repeat (first|(with_reducible first|exact HB.out|apply zG|apply zD|apply zH|refine zA ?_ GE574.out)|exact HB.out)) hb);clear BK574;clear HB;have BK574:=n0_;have HB:=n1_;clear n0_ n1_;(try clear hb);(try clear hb2);(try clear hk);(try clear hi);have hcz11_0:w10.cell? ⟨gb574,0,none⟩=some (.slice A0_0 l0_0.length c0_0):=(zI BK574.out 0).trans rfl;have hcz11_1:w10.cell? ⟨gb574,1,none⟩=some (.slice A0_1 l0_1.length c0_1):=(zI BK574.out 1).trans rfl;have hcz11_2:w10.cell? ⟨gb574,2,none⟩=some (.slice A0_2 l0_2.length c0_2):=(zI BK574.out 2).trans rfl;have hfz11_0:=zJ BK574.out 0;have hfz11_1:=zJ BK574.out 1;have hfz11_2:=zJ BK574.out 2)|(go_at_call 18;(with_reducible refine (jobshellref25_Valid.calls k _ _ l0_0 _ _ l0_1 _ _ l0_2 t576 _ ?side1 ?side2 ?side3 ?side4 ?side5 ?side6 A8.out).mono ?_);(case side1=>repeat (first|exact (yT HR0_0.out HB.out)|(with_reducible refine yG ?_ _)|(with_reducible refine yF ?_ _)|(with_reducible refine yK ?_)));(case side2=>exact HC0_0.out);(case side3=>repeat (first|exact (yT HR0_1.out HB.out)|(with_reducible refine yG ?_ _)|(with_reducible refine yF ?_ _)|(with_reducible refine yK ?_)));(case side4=>exact HC0_1.out);(case side5=>repeat (first|exact (yT HR0_2.out HB.out)|(with_reducible refine yG ?_ _)|(with_reducible refine yF ?_ _)|(with_reducible refine yK ?_)));(case side6=>exact HC0_2.out);rintro e w12 ⟨rfl,hb⟩;have n0_:=Zk (zX (g:=gb574) (o:=.cells #[.slice A0_0 l0_0.length c0_0,.slice A0_1 l0_1.length c0_1,.slice A0_2 l0_2.length c0_2] 30 (0,0)) (by (with_reducible repeat (first|refine zC ?_ _|refine zF ?_|refine zB ?_ _));exact BK574.out) hb);have n1_:=Zk (yB (by repeat (first|(with_reducible first|exact HB.out|apply zG|apply zD|apply zH|refine zA ?_ GE574.out)|exact HB.out)) hb);clear BK574;clear HB;have BK574:=n0_;have HB:=n1_;clear n0_ n1_;(try clear hb);(try clear hb2);(try clear hk);(try clear hi)))
   go_meet
   case rel=>exact ⟨_,((t576 != 0)),(by first|rfl|(simp;done)|(simp [*];done)|(generalize ByteArray.toList _=l_;cases l_ <;> rfl)),H',⟨by first|omega|exact Nat.le_refl _⟩,⟨by (with_reducible repeat (first|refine zC ?_ _|refine zF ?_|refine zB ?_ _));exact BK574.out⟩,⟨by repeat (first|(with_reducible first|exact HB.out|apply zG|apply zD|apply zH|refine zA ?_ GE574.out)|exact HB.out)⟩⟩
  ·replace c7:=Bool.eq_false_iff.mpr c7
   subst c7
   have H1:(jobshelllaw25_SignalSets.j0 k a1 a2 true l0_0 l0_1 l0_2)=some r:=by rw [if_neg (show ¬ (false=true) by decide)] at H;exact H
   clear H
   have H:=H1
   clear H1
   have H':=Zk H
   clear H
   have hcz13_0:w5.cell? ⟨gb574,0,none⟩=some (.slice A0_0 l0_0.length c0_0):=(zI BK574.out 0).trans rfl
   have hcz13_1:w5.cell? ⟨gb574,1,none⟩=some (.slice A0_1 l0_1.length c0_1):=(zI BK574.out 1).trans rfl
   have hcz13_2:w5.cell? ⟨gb574,2,none⟩=some (.slice A0_2 l0_2.length c0_2):=(zI BK574.out 2).trans rfl
   have hfz13_0:=zJ BK574.out 0
   have hfz13_1:=zJ BK574.out 1
   have hfz13_2:=zJ BK574.out 2
   go_wp2_with (first|((with_reducible refine yE (f:=17) rfl ?_);refine yN (some 12) rfl rfl Tryd.func17 (by kernel_rfl) rfl #[.agg #[.slice A0_0 l0_0.length c0_0,.slice A0_1 l0_1.length c0_1,.slice A0_2 l0_2.length c0_2]] rfl (by (try simp only [List.map_toArray,List.map_cons,List.map_nil]);first|done|rfl|(simp only [List.length_drop,List.length_take];rfl)) ?_;(with_reducible refine (jobshelllaw25_short.calls _ _ l0_0 _ _ l0_1 _ _ l0_2 false _ ?side1 ?side2 ?side3 ?side4 ?side5 ?side6 A6.out).mono ?_);(case side1=>repeat (first|exact (yT HR0_0.out HB.out)|(with_reducible refine yG ?_ _)|(with_reducible refine yF ?_ _)|(with_reducible refine yK ?_)));(case side2=>exact HC0_0.out);(case side3=>repeat (first|exact (yT HR0_1.out HB.out)|(with_reducible refine yG ?_ _)|(with_reducible refine yF ?_ _)|(with_reducible refine yK ?_)));(case side4=>exact HC0_1.out);(case side5=>repeat (first|exact (yT HR0_2.out HB.out)|(with_reducible refine yG ?_ _)|(with_reducible refine yF ?_ _)|(with_reducible refine yK ?_)));(case side6=>exact HC0_2.out);rintro e w14 ⟨rfl,hb⟩;refine ⟨_,rfl,?_⟩;have n0_:=Zk (zX (g:=gb574) (o:=.cells #[.slice A0_0 l0_0.length c0_0,.slice A0_1 l0_1.length c0_1,.slice A0_2 l0_2.length c0_2] 30 (0,0)) (by (with_reducible repeat (first|refine zC ?_ _|refine zF ?_|refine zB ?_ _));exact BK574.out) hb);have n1_:=Zk (yB (by repeat (first|(with_reducible first|exact HB.out|apply zG|apply zD|apply zH|refine zA ?_ GE574.out)|exact HB.out)) hb);clear BK574;clear HB;have BK574:=n0_;have HB:=n1_;clear n0_ n1_;(try clear hb);(try clear hb2);(try clear hk);(try clear hi)))
   go_meet
   case rel=>exact ⟨_,(true),(by first|rfl|(simp;done)|(simp [*];done)|(generalize ByteArray.toList _=l_;cases l_ <;> rfl)),H',⟨by first|omega|exact Nat.le_refl _⟩,⟨by (with_reducible repeat (first|refine zC ?_ _|refine zF ?_|refine zB ?_ _));exact BK574.out⟩,⟨by repeat (first|(with_reducible first|exact HB.out|apply zG|apply zD|apply zH|refine zA ?_ GE574.out)|exact HB.out)⟩⟩
 case rest=>
  clear HC4
  try clear c1
  try clear p2
  try clear c7
  try clear hcz11_0
  try clear hcz11_1
  try clear hcz11_2
  try clear hcz13_0
  try clear hcz13_1
  try clear hcz13_2
  try clear hcz9_0
  try clear hcz9_1
  try clear hcz9_2
  try clear hfz11_0
  try clear hfz11_1
  try clear hfz11_2
  try clear hfz13_0
  try clear hfz13_1
  try clear hfz13_2
  try clear hfz9_0
  try clear hfz9_1
  try clear hfz9_2
  obtain ⟨kq,x18_3,rfl,HA,HJ3,BK574,HB⟩:=hcut
  cases kq with
  |zero=>exact absurd HA.out (by simp [jobshelllaw25_SignalSets.j0])
  |succ kj3=>
   have H:=HA.out
   clear HA
   simp only [jobshelllaw25_SignalSets.j0] at H
   by_cases c15:x18_3=true
   ·subst c15
    have H1:((jobshelllaw25_awake.f kj3).bind fun t577=>(some t577))=some r:=by rw [if_pos rfl] at H;exact H
    clear H
    have H:=H1
    clear H1
    replace H:=Option.bind_eq_some_iff.mp H
    obtain ⟨t577,A160,H⟩:=H
    replace H:(some t577)=some r:=H
    have A16:=Zk A160
    clear A160
    obtain rfl:=Option.some.inj H
    go_wp2_with (first|((with_reducible refine yE (f:=10) rfl ?_);refine yN (some 19) rfl rfl Tryd.func10 (by kernel_rfl) rfl #[] rfl (by (try simp only [List.map_toArray,List.map_cons,List.map_nil]);first|done|rfl|(simp only [List.length_drop,List.length_take];rfl)) ?_;(with_reducible refine (jobshelllaw25_awake.calls kj3  t577 _ A16.out).mono ?_);rintro e w17 ⟨rfl,hb⟩;refine ⟨_,rfl,?_⟩;have n0_:=Zk (zX (g:=gb574) (o:=.cells #[.slice A0_0 l0_0.length c0_0,.slice A0_1 l0_1.length c0_1,.slice A0_2 l0_2.length c0_2] 30 (0,0)) (by (with_reducible repeat (first|refine zC ?_ _|refine zF ?_|refine zB ?_ _));exact BK574.out) hb);have n1_:=Zk (yB (by repeat (first|(with_reducible first|exact HB.out|apply zG|apply zD|apply zH|refine zA ?_ GE574.out)|exact HB.out)) hb);clear BK574;clear HB;have BK574:=n0_;have HB:=n1_;clear n0_ n1_;(try clear hb);(try clear hb2);(try clear hk);(try clear hi)))
    go_ret
    exact ⟨by first|rfl|(simp [errW_none,errW_some] <;> rfl)|(simp [*,errW_none,errW_some] <;> rfl),by repeat (first|(with_reducible first|exact HB.out|apply zG|apply zD|apply zH|refine zA ?_ GE574.out)|exact HB.out)⟩
   ·replace c15:=Bool.eq_false_iff.mpr c15
    subst c15
    have H1:((signal_Set.f kj3 l0_0 l0_1 l0_2 a1 a2).bind fun bt578=>((jobshellref25_Set.f kj3 l0_0 l0_1 l0_2 a1 a2).bind fun bt589=>((jobshellref25_Same.f kj3 bt578.1 bt578.2.1 bt578.2.2.1 bt589.1 bt589.2.1 bt589.2.2.1).bind fun t600=>(if t600=true then (if bt578.2.2.2=bt589.2.2.2 then ((signal_Fork.f l0_0 l0_1 l0_2).bind fun bt601=>((jobshellref25_Fork.f l0_0 l0_1 l0_2).bind fun bt610=>((jobshellref25_Same.f kj3 bt601.1 bt601.2.1 bt601.2.2 bt610.1 bt610.2.1 bt610.2.2).bind fun t619=>(if t619=true then ((signal_Exec.f l0_0 l0_1 l0_2).bind fun bt620=>((jobshellref25_Exec.f l0_0 l0_1 l0_2).bind fun bt629=>((jobshellref25_Same.f kj3 bt620.1 bt620.2.1 bt620.2.2 bt629.1 bt629.2.1 bt629.2.2).bind fun t638=>(if t638=true then ((jobshelllaw25_awake.f kj3).bind fun t639=>(some t639)) else (none))))) else (none))))) else (none)) else (none)))))=some r:=by rw [if_neg (show ¬ (false=true) by decide)] at H;exact H
    clear H
    have H:=H1
    clear H1
    replace H:=Option.bind_eq_some_iff.mp H
    obtain ⟨⟨t578,t581,t584,t587⟩,A180,H⟩:=H
    replace H:((jobshellref25_Set.f kj3 l0_0 l0_1 l0_2 a1 a2).bind fun bt589=>((jobshellref25_Same.f kj3 t578 t581 t584 bt589.1 bt589.2.1 bt589.2.2.1).bind fun t600=>(if t600=true then (if t587=bt589.2.2.2 then ((signal_Fork.f l0_0 l0_1 l0_2).bind fun bt601=>((jobshellref25_Fork.f l0_0 l0_1 l0_2).bind fun bt610=>((jobshellref25_Same.f kj3 bt601.1 bt601.2.1 bt601.2.2 bt610.1 bt610.2.1 bt610.2.2).bind fun t619=>(if t619=true then ((signal_Exec.f l0_0 l0_1 l0_2).bind fun bt620=>((jobshellref25_Exec.f l0_0 l0_1 l0_2).bind fun bt629=>((jobshellref25_Same.f kj3 bt620.1 bt620.2.1 bt620.2.2 bt629.1 bt629.2.1 bt629.2.2).bind fun t638=>(if t638=true then ((jobshelllaw25_awake.f kj3).bind fun t639=>(some t639)) else (none))))) else (none))))) else (none)) else (none))))=some r:=H
    have A18:=Zk A180
    clear A180
    replace H:=Option.bind_eq_some_iff.mp H
    obtain ⟨⟨t589,t592,t595,t598⟩,A190,H⟩:=H
    replace H:((jobshellref25_Same.f kj3 t578 t581 t584 t589 t592 t595).bind fun t600=>(if t600=true then (if t587=t598 then ((signal_Fork.f l0_0 l0_1 l0_2).bind fun bt601=>((jobshellref25_Fork.f l0_0 l0_1 l0_2).bind fun bt610=>((jobshellref25_Same.f kj3 bt601.1 bt601.2.1 bt601.2.2 bt610.1 bt610.2.1 bt610.2.2).bind fun t619=>(if t619=true then ((signal_Exec.f l0_0 l0_1 l0_2).bind fun bt620=>((jobshellref25_Exec.f l0_0 l0_1 l0_2).bind fun bt629=>((jobshellref25_Same.f kj3 bt620.1 bt620.2.1 bt620.2.2 bt629.1 bt629.2.1 bt629.2.2).bind fun t638=>(if t638=true then ((jobshelllaw25_awake.f kj3).bind fun t639=>(some t639)) else (none))))) else (none))))) else (none)) else (none)))=some r:=H
    have A19:=Zk A190
    clear A190
    replace H:=Option.bind_eq_some_iff.mp H
    obtain ⟨t600,A200,H⟩:=H
    replace H:(if t600=true then (if t587=t598 then ((signal_Fork.f l0_0 l0_1 l0_2).bind fun bt601=>((jobshellref25_Fork.f l0_0 l0_1 l0_2).bind fun bt610=>((jobshellref25_Same.f kj3 bt601.1 bt601.2.1 bt601.2.2 bt610.1 bt610.2.1 bt610.2.2).bind fun t619=>(if t619=true then ((signal_Exec.f l0_0 l0_1 l0_2).bind fun bt620=>((jobshellref25_Exec.f l0_0 l0_1 l0_2).bind fun bt629=>((jobshellref25_Same.f kj3 bt620.1 bt620.2.1 bt620.2.2 bt629.1 bt629.2.1 bt629.2.2).bind fun t638=>(if t638=true then ((jobshelllaw25_awake.f kj3).bind fun t639=>(some t639)) else (none))))) else (none))))) else (none)) else (none))=some r:=H
    have A20:=Zk A200
    clear A200
    by_cases c21:t600=true
    ·subst c21
     have H1:(if t587=t598 then ((signal_Fork.f l0_0 l0_1 l0_2).bind fun bt601=>((jobshellref25_Fork.f l0_0 l0_1 l0_2).bind fun bt610=>((jobshellref25_Same.f kj3 bt601.1 bt601.2.1 bt601.2.2 bt610.1 bt610.2.1 bt610.2.2).bind fun t619=>(if t619=true then ((signal_Exec.f l0_0 l0_1 l0_2).bind fun bt620=>((jobshellref25_Exec.f l0_0 l0_1 l0_2).bind fun bt629=>((jobshellref25_Same.f kj3 bt620.1 bt620.2.1 bt620.2.2 bt629.1 bt629.2.1 bt629.2.2).bind fun t638=>(if t638=true then ((jobshelllaw25_awake.f kj3).bind fun t639=>(some t639)) else (none))))) else (none))))) else (none))=some r:=by rw [if_pos rfl] at H;exact H
     clear H
     have H:=H1
     clear H1
     by_cases c22:t587=t598
     ·rw [if_pos c22] at H
      have c22b0:(t587 == t598)=true:=beq_iff_eq.mpr c22
      have c22b1:(t587 != t598)=false:=bne_eq_false_iff_eq.mpr c22
      clear c22
      replace H:=Option.bind_eq_some_iff.mp H
      obtain ⟨⟨t601,t604,t607⟩,A230,H⟩:=H
      replace H:((jobshellref25_Fork.f l0_0 l0_1 l0_2).bind fun bt610=>((jobshellref25_Same.f kj3 t601 t604 t607 bt610.1 bt610.2.1 bt610.2.2).bind fun t619=>(if t619=true then ((signal_Exec.f l0_0 l0_1 l0_2).bind fun bt620=>((jobshellref25_Exec.f l0_0 l0_1 l0_2).bind fun bt629=>((jobshellref25_Same.f kj3 bt620.1 bt620.2.1 bt620.2.2 bt629.1 bt629.2.1 bt629.2.2).bind fun t638=>(if t638=true then ((jobshelllaw25_awake.f kj3).bind fun t639=>(some t639)) else (none))))) else (none))))=some r:=H
      have A23:=Zk A230
      clear A230
      replace H:=Option.bind_eq_some_iff.mp H
      obtain ⟨⟨t610,t613,t616⟩,A240,H⟩:=H
      replace H:((jobshellref25_Same.f kj3 t601 t604 t607 t610 t613 t616).bind fun t619=>(if t619=true then ((signal_Exec.f l0_0 l0_1 l0_2).bind fun bt620=>((jobshellref25_Exec.f l0_0 l0_1 l0_2).bind fun bt629=>((jobshellref25_Same.f kj3 bt620.1 bt620.2.1 bt620.2.2 bt629.1 bt629.2.1 bt629.2.2).bind fun t638=>(if t638=true then ((jobshelllaw25_awake.f kj3).bind fun t639=>(some t639)) else (none))))) else (none)))=some r:=H
      have A24:=Zk A240
      clear A240
      replace H:=Option.bind_eq_some_iff.mp H
      obtain ⟨t619,A250,H⟩:=H
      replace H:(if t619=true then ((signal_Exec.f l0_0 l0_1 l0_2).bind fun bt620=>((jobshellref25_Exec.f l0_0 l0_1 l0_2).bind fun bt629=>((jobshellref25_Same.f kj3 bt620.1 bt620.2.1 bt620.2.2 bt629.1 bt629.2.1 bt629.2.2).bind fun t638=>(if t638=true then ((jobshelllaw25_awake.f kj3).bind fun t639=>(some t639)) else (none))))) else (none))=some r:=H
      have A25:=Zk A250
      clear A250
      by_cases c26:t619=true
      ·subst c26
       have H1:((signal_Exec.f l0_0 l0_1 l0_2).bind fun bt620=>((jobshellref25_Exec.f l0_0 l0_1 l0_2).bind fun bt629=>((jobshellref25_Same.f kj3 bt620.1 bt620.2.1 bt620.2.2 bt629.1 bt629.2.1 bt629.2.2).bind fun t638=>(if t638=true then ((jobshelllaw25_awake.f kj3).bind fun t639=>(some t639)) else (none)))))=some r:=by rw [if_pos rfl] at H;exact H
       clear H
       have H:=H1
       clear H1
       replace H:=Option.bind_eq_some_iff.mp H
       obtain ⟨⟨t620,t623,t626⟩,A270,H⟩:=H
       replace H:((jobshellref25_Exec.f l0_0 l0_1 l0_2).bind fun bt629=>((jobshellref25_Same.f kj3 t620 t623 t626 bt629.1 bt629.2.1 bt629.2.2).bind fun t638=>(if t638=true then ((jobshelllaw25_awake.f kj3).bind fun t639=>(some t639)) else (none))))=some r:=H
       have A27:=Zk A270
       clear A270
       replace H:=Option.bind_eq_some_iff.mp H
       obtain ⟨⟨t629,t632,t635⟩,A280,H⟩:=H
       replace H:((jobshellref25_Same.f kj3 t620 t623 t626 t629 t632 t635).bind fun t638=>(if t638=true then ((jobshelllaw25_awake.f kj3).bind fun t639=>(some t639)) else (none)))=some r:=H
       have A28:=Zk A280
       clear A280
       replace H:=Option.bind_eq_some_iff.mp H
       obtain ⟨t638,A290,H⟩:=H
       replace H:(if t638=true then ((jobshelllaw25_awake.f kj3).bind fun t639=>(some t639)) else (none))=some r:=H
       have A29:=Zk A290
       clear A290
       by_cases c30:t638=true
       ·subst c30
        have H1:((jobshelllaw25_awake.f kj3).bind fun t639=>(some t639))=some r:=by rw [if_pos rfl] at H;exact H
        clear H
        have H:=H1
        clear H1
        replace H:=Option.bind_eq_some_iff.mp H
        obtain ⟨t639,A310,H⟩:=H
        replace H:(some t639)=some r:=H
        have A31:=Zk A310
        clear A310
        obtain rfl:=Option.some.inj H
        have hcz32_0:wc.cell? ⟨gb574,0,none⟩=some (.slice A0_0 l0_0.length c0_0):=(zI BK574.out 0).trans rfl
        have hcz32_1:wc.cell? ⟨gb574,1,none⟩=some (.slice A0_1 l0_1.length c0_1):=(zI BK574.out 1).trans rfl
        have hcz32_2:wc.cell? ⟨gb574,2,none⟩=some (.slice A0_2 l0_2.length c0_2):=(zI BK574.out 2).trans rfl
        have hfz32_0:=zJ BK574.out 0
        have hfz32_1:=zJ BK574.out 1
        have hfz32_2:=zJ BK574.out 2
        try go_wp2_with (first|((with_reducible refine yE (f:=25) rfl ?_);refine yN (some 24) rfl rfl Tryd.func25 (by kernel_rfl) rfl #[.agg #[.slice A0_0 l0_0.length c0_0,.slice A0_1 l0_1.length c0_1,.slice A0_2 l0_2.length c0_2],.int .i64 a1,.int .i64 a2] rfl (by (try simp only [List.map_toArray,List.map_cons,List.map_nil]);first|done|rfl|(simp only [List.length_drop,List.length_take];rfl)) ?_;(with_reducible refine (signal_Set.calls kj3 (fun k_=>k_ < w.heap.size) _ _ l0_0 (fun k_=>k_ < w.heap.size) _ _ l0_1 (fun k_=>k_ < w.heap.size) _ _ l0_2 a1 a2 t578 t581 t584 t587 _ ?side1 ?side2 ?side3 A18.out).mono ?_);(case side1=>exact V_mk HC0_0.out (Kd.F_below (C_F (Kd.heap_int .i64) HR0_0.out) (by repeat (first|(with_reducible first|exact HB.out|apply zG|apply zD|apply zH|refine zA ?_ GE574.out)|exact HB.out))));(case side2=>exact V_mk HC0_1.out (Kd.F_below (C_F (Kd.heap_int .i64) HR0_1.out) (by repeat (first|(with_reducible first|exact HB.out|apply zG|apply zD|apply zH|refine zA ?_ GE574.out)|exact HB.out))));(case side3=>exact V_mk HC0_2.out (Kd.F_below (C_F (Kd.heap_int .i64) HR0_2.out) (by repeat (first|(with_reducible first|exact HB.out|apply zG|apply zD|apply zH|refine zA ?_ GE574.out)|exact HB.out))));rintro e w33 ⟨v579,v582,v585,rfl,ho0,ho1,ho2,hb⟩;refine ⟨_,rfl,?_⟩;have n0_:=Zk (V_lower (zN (ok':=fun k_=>k_≠gb574) ho0 (fun k_ hk_=>Or.elim hk_ (fun hs_=>Or.elim hs_ (fun hs_=>fun e_=>Nat.not_le.2 hs_ (by rw [e_];exact GW574.out)) (fun hs_=>Or.elim hs_ (fun hs_=>fun e_=>Nat.not_le.2 hs_ (by rw [e_];exact GW574.out)) (fun hs_=>fun e_=>Nat.not_le.2 hs_ (by rw [e_];exact GW574.out)))) (fun hn_=>(Kd.freshB (g:=gb574) (o:=.cells #[.slice A0_0 l0_0.length c0_0,.slice A0_1 l0_1.length c0_1,.slice A0_2 l0_2.length c0_2] 30 (0,0)) (by (with_reducible repeat (first|refine zC ?_ _|refine zF ?_|refine zB ?_ _));exact BK574.out) k_ hn_)))) (zT (by repeat (first|(with_reducible first|exact HB.out|apply zG|apply zD|apply zH|refine zA ?_ GE574.out)|exact HB.out))));have n1_:=Zk (V_lower (zN (ok':=fun k_=>k_≠gb574) ho1 (fun k_ hk_=>Or.elim hk_ (fun hs_=>Or.elim hs_ (fun hs_=>fun e_=>Nat.not_le.2 hs_ (by rw [e_];exact GW574.out)) (fun hs_=>Or.elim hs_ (fun hs_=>fun e_=>Nat.not_le.2 hs_ (by rw [e_];exact GW574.out)) (fun hs_=>fun e_=>Nat.not_le.2 hs_ (by rw [e_];exact GW574.out)))) (fun hn_=>(Kd.freshB (g:=gb574) (o:=.cells #[.slice A0_0 l0_0.length c0_0,.slice A0_1 l0_1.length c0_1,.slice A0_2 l0_2.length c0_2] 30 (0,0)) (by (with_reducible repeat (first|refine zC ?_ _|refine zF ?_|refine zB ?_ _));exact BK574.out) k_ hn_)))) (zT (by repeat (first|(with_reducible first|exact HB.out|apply zG|apply zD|apply zH|refine zA ?_ GE574.out)|exact HB.out))));have n2_:=Zk (V_lower (zN (ok':=fun k_=>k_≠gb574) ho2 (fun k_ hk_=>Or.elim hk_ (fun hs_=>Or.elim hs_ (fun hs_=>fun e_=>Nat.not_le.2 hs_ (by rw [e_];exact GW574.out)) (fun hs_=>Or.elim hs_ (fun hs_=>fun e_=>Nat.not_le.2 hs_ (by rw [e_];exact GW574.out)) (fun hs_=>fun e_=>Nat.not_le.2 hs_ (by rw [e_];exact GW574.out)))) (fun hn_=>(Kd.freshB (g:=gb574) (o:=.cells #[.slice A0_0 l0_0.length c0_0,.slice A0_1 l0_1.length c0_1,.slice A0_2 l0_2.length c0_2] 30 (0,0)) (by (with_reducible repeat (first|refine zC ?_ _|refine zF ?_|refine zB ?_ _));exact BK574.out) k_ hn_)))) (zT (by repeat (first|(with_reducible first|exact HB.out|apply zG|apply zD|apply zH|refine zA ?_ GE574.out)|exact HB.out))));have n3_:=Zk (zX (g:=gb574) (o:=.cells #[.slice A0_0 l0_0.length c0_0,.slice A0_1 l0_1.length c0_1,.slice A0_2 l0_2.length c0_2] 30 (0,0)) (by (with_reducible repeat (first|refine zC ?_ _|refine zF ?_|refine zB ?_ _));exact BK574.out) hb);have n4_:=Zk (yB (by repeat (first|(with_reducible first|exact HB.out|apply zG|apply zD|apply zH|refine zA ?_ GE574.out)|exact HB.out)) hb);clear BK574;clear HB;have HO580:=n0_;have HO583:=n1_;have HO586:=n2_;have BK574:=n3_;have HB:=n4_;clear n0_ n1_ n2_ n3_ n4_;(try clear hb);(try clear hb2);(try clear hk);(try clear hi);(try clear ho0);(try clear ho1);(try clear ho2))|((with_reducible refine yX (N:=7) rfl ?_);refine yY ?hg (N:=7) ?hd (cs:=#[.slice none 0 0,.slice none 0 0,.slice none 0 0]) (t:=30) ?hr ?_;(case hd=>rfl);(case hg=>rfl);(case hr=>first|(go_simp;done)|(go_simp;rfl));intro gb588 hg w34 hbox hb;have n0_:=Zk (zZ (yI (by (with_reducible repeat (first|apply zL|apply zK|apply zM));exact HO580.out) gb588 (Nat.le_of_eq hg.symm)) hb);have n1_:=Zk (zZ (yI (by (with_reducible repeat (first|apply zL|apply zK|apply zM));exact HO583.out) gb588 (Nat.le_of_eq hg.symm)) hb);have n2_:=Zk (zZ (yI (by (with_reducible repeat (first|apply zL|apply zK|apply zM));exact HO586.out) gb588 (Nat.le_of_eq hg.symm)) hb);have n3_:=Zk (zX (g:=gb574) (o:=.cells #[.slice A0_0 l0_0.length c0_0,.slice A0_1 l0_1.length c0_1,.slice A0_2 l0_2.length c0_2] 30 (0,0)) (by (with_reducible repeat (first|refine zC ?_ _|refine zF ?_|refine zB ?_ _));exact BK574.out) hb);have n4_:=Zk (yB (by repeat (first|(with_reducible first|exact HB.out|apply zG|apply zD|apply zH|refine zA ?_ GE574.out)|exact HB.out)) hb);have n5_:=Zk (hbox);have n6_:=Zk ((by rw [hg];exact (zT (by repeat (first|(with_reducible first|exact HB.out|apply zG|apply zD|apply zH|refine zA ?_ GE574.out)|exact HB.out))):w.heap.size≤gb588));have n7_:=Zk ((by rw [hg];exact (zT (by repeat (first|(with_reducible first|exact HB.out|apply zG|apply zD|apply zH|refine zA ?_ GE574.out)|exact HB.out))):w.heap.size≤gb588));have n8_:=Zk ((by rw [hg];exact Nat.ne_of_lt (xB (g:=gb574) (o:=.cells #[.slice A0_0 l0_0.length c0_0,.slice A0_1 l0_1.length c0_1,.slice A0_2 l0_2.length c0_2] 30 (0,0)) (by (with_reducible repeat (first|refine zC ?_ _|refine zF ?_|refine zB ?_ _));exact BK574.out)):gb574≠gb588));have n9_:=Zk ((by rw [hg];exact Nat.ne_of_gt (xB (g:=gb574) (o:=.cells #[.slice A0_0 l0_0.length c0_0,.slice A0_1 l0_1.length c0_1,.slice A0_2 l0_2.length c0_2] 30 (0,0)) (by (with_reducible repeat (first|refine zC ?_ _|refine zF ?_|refine zB ?_ _));exact BK574.out)):gb588≠gb574));clear HO580;clear HO583;clear HO586;clear BK574;clear HB;have HO580:=n0_;have HO583:=n1_;have HO586:=n2_;have BK574:=n3_;have HB:=n4_;have BK588:=n5_;have GW588:=n6_;have GE588:=n7_;have NB574_588:=n8_;have NB588_574:=n9_;clear n0_ n1_ n2_ n3_ n4_ n5_ n6_ n7_ n8_ n9_;clear hb hbox hg;obtain ⟨Ao35,co35,eo35⟩:=V_slice HO580.out;subst eo35;have hnb36:=NB588_574.out;have hnc36:=NB574_588.out;have hcz37_0:w34.cell? ⟨gb588,0,none⟩=some (.slice none 0 0):=(zI BK588.out 0).trans rfl;have hcz37_1:w34.cell? ⟨gb588,1,none⟩=some (.slice none 0 0):=(zI BK588.out 1).trans rfl;have hcz37_2:w34.cell? ⟨gb588,2,none⟩=some (.slice none 0 0):=(zI BK588.out 2).trans rfl;have hfz37_0:=zJ BK588.out 0;have hfz37_1:=zJ BK588.out 1;have hfz37_2:=zJ BK588.out 2;obtain ⟨Ao38,co38,eo38⟩:=V_slice HO583.out;subst eo38;obtain ⟨Ao39,co39,eo39⟩:=V_slice HO586.out;subst eo39)|((with_reducible refine xA (t:=30) (p:=7) rfl ?_);refine yV (t:=30) (p:=7) (v:=?vo_w40) (w1:=(((w34.setCell ⟨gb588,0,none⟩ (.slice Ao35 t578.length co35)).setCell ⟨gb588,1,none⟩ (.slice Ao38 t581.length co38)).setCell ⟨gb588,2,none⟩ (.slice Ao39 t584.length co39))) ?hg ?ho ?hn ?hr ?_;(case ho=>rfl);(case hg=>rfl);(case hn=>rfl);(case hr=>first|(go_simp;done)|(go_simp;rfl));intro w40 hw;have n0_:zR (Kd.V (Kd.int .i64) 3 w40 w.heap.size (fun k_=>k_≠gb574∧k_≠gb588) (.slice Ao35 t578.length co35) t578):=⟨(by rw [hw];exact (by (with_reducible repeat (first|apply zL|apply zK|apply zM));exact zN (zV (p:=⟨gb588,2,none⟩) (zV (p:=⟨gb588,1,none⟩) (zV (p:=⟨gb588,0,none⟩) (zN HO580.out (fun k_ hk=>(⟨hk,hk.2⟩:_∧k_≠gb588))) (fun _ hk=>hk.2) (.slice Ao35 t578.length co35)) (fun _ hk=>hk.2) (.slice Ao38 t581.length co38)) (fun _ hk=>hk.2) (.slice Ao39 t584.length co39)) (fun _ hk=>⟨hk.1.1,hk.1.2⟩)))⟩;have n1_:zR (Kd.V (Kd.int .i64) 3 w40 w.heap.size (fun k_=>k_≠gb574∧k_≠gb588) (.slice Ao38 t581.length co38) t581):=⟨(by rw [hw];exact (by (with_reducible repeat (first|apply zL|apply zK|apply zM));exact zN (zV (p:=⟨gb588,2,none⟩) (zV (p:=⟨gb588,1,none⟩) (zV (p:=⟨gb588,0,none⟩) (zN HO583.out (fun k_ hk=>(⟨hk,hk.2⟩:_∧k_≠gb588))) (fun _ hk=>hk.2) (.slice Ao35 t578.length co35)) (fun _ hk=>hk.2) (.slice Ao38 t581.length co38)) (fun _ hk=>hk.2) (.slice Ao39 t584.length co39)) (fun _ hk=>⟨hk.1.1,hk.1.2⟩)))⟩;have n2_:zR (Kd.V (Kd.int .i64) 3 w40 w.heap.size (fun k_=>k_≠gb574∧k_≠gb588) (.slice Ao39 t584.length co39) t584):=⟨(by rw [hw];exact (by (with_reducible repeat (first|apply zL|apply zK|apply zM));exact zN (zV (p:=⟨gb588,2,none⟩) (zV (p:=⟨gb588,1,none⟩) (zV (p:=⟨gb588,0,none⟩) (zN HO586.out (fun k_ hk=>(⟨hk,hk.2⟩:_∧k_≠gb588))) (fun _ hk=>hk.2) (.slice Ao35 t578.length co35)) (fun _ hk=>hk.2) (.slice Ao38 t581.length co38)) (fun _ hk=>hk.2) (.slice Ao39 t584.length co39)) (fun _ hk=>⟨hk.1.1,hk.1.2⟩)))⟩;have n3_:zR (w40.heap[gb574]?=some (.cells #[.slice A0_0 l0_0.length c0_0,.slice A0_1 l0_1.length c0_1,.slice A0_2 l0_2.length c0_2] 30 (0,0))):=⟨(by rw [hw];exact (by (with_reducible repeat (first|refine zC ?_ _|refine zF ?_|refine zB ?_ _));refine yA ?_ NB574_588.out _;(with_reducible repeat (first|refine zC ?_ _|refine zF ?_|refine zB ?_ _));refine yA ?_ NB574_588.out _;(with_reducible repeat (first|refine zC ?_ _|refine zF ?_|refine zB ?_ _));refine yA ?_ NB574_588.out _;(with_reducible repeat (first|refine zC ?_ _|refine zF ?_|refine zB ?_ _));exact BK574.out))⟩;have n4_:zR (w40.heap[gb588]?=some (.cells #[.slice Ao35 t578.length co35,.slice Ao38 t581.length co38,.slice Ao39 t584.length co39] 30 (0,0))):=⟨(by rw [hw];exact (by (with_reducible repeat (first|refine zC ?_ _|refine zF ?_|refine zB ?_ _));refine yD (cs:=#[.slice Ao35 t578.length co35,.slice Ao38 t581.length co38,.slice none 0 0]) ?_ 2 _ rfl;(with_reducible repeat (first|refine zC ?_ _|refine zF ?_|refine zB ?_ _));refine yD (cs:=#[.slice Ao35 t578.length co35,.slice none 0 0,.slice none 0 0]) ?_ 1 _ rfl;(with_reducible repeat (first|refine zC ?_ _|refine zF ?_|refine zB ?_ _));refine yD (cs:=#[.slice none 0 0,.slice none 0 0,.slice none 0 0]) ?_ 0 _ rfl;(with_reducible repeat (first|refine zC ?_ _|refine zF ?_|refine zB ?_ _));exact BK588.out))⟩;have n5_:zR (Below w.heap.size w w40):=⟨(by rw [hw];exact (by repeat (first|(with_reducible first|exact HB.out|apply zG|apply zD|apply zH|refine zA ?_ GE574.out|refine zA ?_ GE588.out)|exact HB.out)))⟩;clear hw;clear HO580;clear HO583;clear HO586;clear BK574;clear BK588;clear HB;have HO580:=n0_;have HO583:=n1_;have HO586:=n2_;have BK574:=n3_;have BK588:=n4_;have HB:=n5_;clear n0_ n1_ n2_ n3_ n4_ n5_;have hcz41_0:w40.cell? ⟨gb574,0,none⟩=some (.slice A0_0 l0_0.length c0_0):=(zI BK574.out 0).trans rfl;have hcz41_1:w40.cell? ⟨gb574,1,none⟩=some (.slice A0_1 l0_1.length c0_1):=(zI BK574.out 1).trans rfl;have hcz41_2:w40.cell? ⟨gb574,2,none⟩=some (.slice A0_2 l0_2.length c0_2):=(zI BK574.out 2).trans rfl;have hfz41_0:=zJ BK574.out 0;have hfz41_1:=zJ BK574.out 1;have hfz41_2:=zJ BK574.out 2)|((with_reducible refine yE (f:=26) rfl ?_);refine yN (some 31) rfl rfl Tryd.func26 (by kernel_rfl) rfl #[.agg #[.slice A0_0 l0_0.length c0_0,.slice A0_1 l0_1.length c0_1,.slice A0_2 l0_2.length c0_2],.int .i64 a1,.int .i64 a2] rfl (by (try simp only [List.map_toArray,List.map_cons,List.map_nil]);first|done|rfl|(simp only [List.length_drop,List.length_take];rfl)) ?_;(with_reducible refine (jobshellref25_Set.calls kj3 (fun k_=>k_ < w.heap.size) _ _ l0_0 (fun k_=>k_ < w.heap.size) _ _ l0_1 (fun k_=>k_ < w.heap.size) _ _ l0_2 a1 a2 t589 t592 t595 t598 _ ?side1 ?side2 ?side3 A19.out).mono ?_);(case side1=>exact V_mk HC0_0.out (Kd.F_below (C_F (Kd.heap_int .i64) HR0_0.out) (by repeat (first|(with_reducible first|exact HB.out|apply zG|apply zD|apply zH|refine zA ?_ GE574.out|refine zA ?_ GE588.out)|exact HB.out))));(case side2=>exact V_mk HC0_1.out (Kd.F_below (C_F (Kd.heap_int .i64) HR0_1.out) (by repeat (first|(with_reducible first|exact HB.out|apply zG|apply zD|apply zH|refine zA ?_ GE574.out|refine zA ?_ GE588.out)|exact HB.out))));(case side3=>exact V_mk HC0_2.out (Kd.F_below (C_F (Kd.heap_int .i64) HR0_2.out) (by repeat (first|(with_reducible first|exact HB.out|apply zG|apply zD|apply zH|refine zA ?_ GE574.out|refine zA ?_ GE588.out)|exact HB.out))));rintro e w42 ⟨v590,v593,v596,rfl,ho0,ho1,ho2,hb⟩;refine ⟨_,rfl,?_⟩;have n0_:=Zk (zZ (by (with_reducible repeat (first|apply zL|apply zK|apply zM));exact HO580.out) hb);have n1_:=Zk (zZ (by (with_reducible repeat (first|apply zL|apply zK|apply zM));exact HO583.out) hb);have n2_:=Zk (zZ (by (with_reducible repeat (first|apply zL|apply zK|apply zM));exact HO586.out) hb);have n3_:=Zk (V_lower (zN (ok':=fun k_=>k_≠gb574∧k_≠gb588) ho0 (fun k_ hk_=>⟨Or.elim hk_ (fun hs_=>Or.elim hs_ (fun hs_=>fun e_=>Nat.not_le.2 hs_ (by rw [e_];exact GW574.out)) (fun hs_=>Or.elim hs_ (fun hs_=>fun e_=>Nat.not_le.2 hs_ (by rw [e_];exact GW574.out)) (fun hs_=>fun e_=>Nat.not_le.2 hs_ (by rw [e_];exact GW574.out)))) (fun hn_=>(Kd.freshB (g:=gb574) (o:=.cells #[.slice A0_0 l0_0.length c0_0,.slice A0_1 l0_1.length c0_1,.slice A0_2 l0_2.length c0_2] 30 (0,0)) (by (with_reducible repeat (first|refine zC ?_ _|refine zF ?_|refine zB ?_ _));exact BK574.out) k_ hn_)),Or.elim hk_ (fun hs_=>Or.elim hs_ (fun hs_=>fun e_=>Nat.not_le.2 hs_ (by rw [e_];exact GW588.out)) (fun hs_=>Or.elim hs_ (fun hs_=>fun e_=>Nat.not_le.2 hs_ (by rw [e_];exact GW588.out)) (fun hs_=>fun e_=>Nat.not_le.2 hs_ (by rw [e_];exact GW588.out)))) (fun hn_=>(Kd.freshB (g:=gb588) (o:=.cells #[.slice Ao35 t578.length co35,.slice Ao38 t581.length co38,.slice Ao39 t584.length co39] 30 (0,0)) (by (with_reducible repeat (first|refine zC ?_ _|refine zF ?_|refine zB ?_ _));exact BK588.out) k_ hn_))⟩)) (zT (by repeat (first|(with_reducible first|exact HB.out|apply zG|apply zD|apply zH|refine zA ?_ GE574.out|refine zA ?_ GE588.out)|exact HB.out))));have n4_:=Zk (V_lower (zN (ok':=fun k_=>k_≠gb574∧k_≠gb588) ho1 (fun k_ hk_=>⟨Or.elim hk_ (fun hs_=>Or.elim hs_ (fun hs_=>fun e_=>Nat.not_le.2 hs_ (by rw [e_];exact GW574.out)) (fun hs_=>Or.elim hs_ (fun hs_=>fun e_=>Nat.not_le.2 hs_ (by rw [e_];exact GW574.out)) (fun hs_=>fun e_=>Nat.not_le.2 hs_ (by rw [e_];exact GW574.out)))) (fun hn_=>(Kd.freshB (g:=gb574) (o:=.cells #[.slice A0_0 l0_0.length c0_0,.slice A0_1 l0_1.length c0_1,.slice A0_2 l0_2.length c0_2] 30 (0,0)) (by (with_reducible repeat (first|refine zC ?_ _|refine zF ?_|refine zB ?_ _));exact BK574.out) k_ hn_)),Or.elim hk_ (fun hs_=>Or.elim hs_ (fun hs_=>fun e_=>Nat.not_le.2 hs_ (by rw [e_];exact GW588.out)) (fun hs_=>Or.elim hs_ (fun hs_=>fun e_=>Nat.not_le.2 hs_ (by rw [e_];exact GW588.out)) (fun hs_=>fun e_=>Nat.not_le.2 hs_ (by rw [e_];exact GW588.out)))) (fun hn_=>(Kd.freshB (g:=gb588) (o:=.cells #[.slice Ao35 t578.length co35,.slice Ao38 t581.length co38,.slice Ao39 t584.length co39] 30 (0,0)) (by (with_reducible repeat (first|refine zC ?_ _|refine zF ?_|refine zB ?_ _));exact BK588.out) k_ hn_))⟩)) (zT (by repeat (first|(with_reducible first|exact HB.out|apply zG|apply zD|apply zH|refine zA ?_ GE574.out|refine zA ?_ GE588.out)|exact HB.out))));have n5_:=Zk (V_lower (zN (ok':=fun k_=>k_≠gb574∧k_≠gb588) ho2 (fun k_ hk_=>⟨Or.elim hk_ (fun hs_=>Or.elim hs_ (fun hs_=>fun e_=>Nat.not_le.2 hs_ (by rw [e_];exact GW574.out)) (fun hs_=>Or.elim hs_ (fun hs_=>fun e_=>Nat.not_le.2 hs_ (by rw [e_];exact GW574.out)) (fun hs_=>fun e_=>Nat.not_le.2 hs_ (by rw [e_];exact GW574.out)))) (fun hn_=>(Kd.freshB (g:=gb574) (o:=.cells #[.slice A0_0 l0_0.length c0_0,.slice A0_1 l0_1.length c0_1,.slice A0_2 l0_2.length c0_2] 30 (0,0)) (by (with_reducible repeat (first|refine zC ?_ _|refine zF ?_|refine zB ?_ _));exact BK574.out) k_ hn_)),Or.elim hk_ (fun hs_=>Or.elim hs_ (fun hs_=>fun e_=>Nat.not_le.2 hs_ (by rw [e_];exact GW588.out)) (fun hs_=>Or.elim hs_ (fun hs_=>fun e_=>Nat.not_le.2 hs_ (by rw [e_];exact GW588.out)) (fun hs_=>fun e_=>Nat.not_le.2 hs_ (by rw [e_];exact GW588.out)))) (fun hn_=>(Kd.freshB (g:=gb588) (o:=.cells #[.slice Ao35 t578.length co35,.slice Ao38 t581.length co38,.slice Ao39 t584.length co39] 30 (0,0)) (by (with_reducible repeat (first|refine zC ?_ _|refine zF ?_|refine zB ?_ _));exact BK588.out) k_ hn_))⟩)) (zT (by repeat (first|(with_reducible first|exact HB.out|apply zG|apply zD|apply zH|refine zA ?_ GE574.out|refine zA ?_ GE588.out)|exact HB.out))));have n6_:=Zk (zX (g:=gb574) (o:=.cells #[.slice A0_0 l0_0.length c0_0,.slice A0_1 l0_1.length c0_1,.slice A0_2 l0_2.length c0_2] 30 (0,0)) (by (with_reducible repeat (first|refine zC ?_ _|refine zF ?_|refine zB ?_ _));exact BK574.out) hb);have n7_:=Zk (zX (g:=gb588) (o:=.cells #[.slice Ao35 t578.length co35,.slice Ao38 t581.length co38,.slice Ao39 t584.length co39] 30 (0,0)) (by (with_reducible repeat (first|refine zC ?_ _|refine zF ?_|refine zB ?_ _));exact BK588.out) hb);have n8_:=Zk (yB (by repeat (first|(with_reducible first|exact HB.out|apply zG|apply zD|apply zH|refine zA ?_ GE574.out|refine zA ?_ GE588.out)|exact HB.out)) hb);clear HO580;clear HO583;clear HO586;clear BK574;clear BK588;clear HB;have HO580:=n0_;have HO583:=n1_;have HO586:=n2_;have HO591:=n3_;have HO594:=n4_;have HO597:=n5_;have BK574:=n6_;have BK588:=n7_;have HB:=n8_;clear n0_ n1_ n2_ n3_ n4_ n5_ n6_ n7_ n8_;(try clear hb);(try clear hb2);(try clear hk);(try clear hi);(try clear ho0);(try clear ho1);(try clear ho2))|((with_reducible refine yX (N:=9) rfl ?_);refine yY ?hg (N:=9) ?hd (cs:=#[.slice none 0 0,.slice none 0 0,.slice none 0 0]) (t:=30) ?hr ?_;(case hd=>rfl);(case hg=>rfl);(case hr=>first|(go_simp;done)|(go_simp;rfl));intro gb599 hg w43 hbox hb;have n0_:=Zk (zZ (yI (by (with_reducible repeat (first|apply zL|apply zK|apply zM));exact HO580.out) gb599 (Nat.le_of_eq hg.symm)) hb);have n1_:=Zk (zZ (yI (by (with_reducible repeat (first|apply zL|apply zK|apply zM));exact HO583.out) gb599 (Nat.le_of_eq hg.symm)) hb);have n2_:=Zk (zZ (yI (by (with_reducible repeat (first|apply zL|apply zK|apply zM));exact HO586.out) gb599 (Nat.le_of_eq hg.symm)) hb);have n3_:=Zk (zZ (yI (by (with_reducible repeat (first|apply zL|apply zK|apply zM));exact HO591.out) gb599 (Nat.le_of_eq hg.symm)) hb);have n4_:=Zk (zZ (yI (by (with_reducible repeat (first|apply zL|apply zK|apply zM));exact HO594.out) gb599 (Nat.le_of_eq hg.symm)) hb);have n5_:=Zk (zZ (yI (by (with_reducible repeat (first|apply zL|apply zK|apply zM));exact HO597.out) gb599 (Nat.le_of_eq hg.symm)) hb);have n6_:=Zk (zX (g:=gb574) (o:=.cells #[.slice A0_0 l0_0.length c0_0,.slice A0_1 l0_1.length c0_1,.slice A0_2 l0_2.length c0_2] 30 (0,0)) (by (with_reducible repeat (first|refine zC ?_ _|refine zF ?_|refine zB ?_ _));exact BK574.out) hb);have n7_:=Zk (zX (g:=gb588) (o:=.cells #[.slice Ao35 t578.length co35,.slice Ao38 t581.length co38,.slice Ao39 t584.length co39] 30 (0,0)) (by (with_reducible repeat (first|refine zC ?_ _|refine zF ?_|refine zB ?_ _));exact BK588.out) hb);have n8_:=Zk (yB (by repeat (first|(with_reducible first|exact HB.out|apply zG|apply zD|apply zH|refine zA ?_ GE574.out|refine zA ?_ GE588.out)|exact HB.out)) hb);have n9_:=Zk (hbox);have n10_:=Zk ((by rw [hg];exact (zT (by repeat (first|(with_reducible first|exact HB.out|apply zG|apply zD|apply zH|refine zA ?_ GE574.out|refine zA ?_ GE588.out)|exact HB.out))):w.heap.size≤gb599));have n11_:=Zk ((by rw [hg];exact (zT (by repeat (first|(with_reducible first|exact HB.out|apply zG|apply zD|apply zH|refine zA ?_ GE574.out|refine zA ?_ GE588.out)|exact HB.out))):w.heap.size≤gb599));have n12_:=Zk ((by rw [hg];exact Nat.ne_of_lt (xB (g:=gb574) (o:=.cells #[.slice A0_0 l0_0.length c0_0,.slice A0_1 l0_1.length c0_1,.slice A0_2 l0_2.length c0_2] 30 (0,0)) (by (with_reducible repeat (first|refine zC ?_ _|refine zF ?_|refine zB ?_ _));exact BK574.out)):gb574≠gb599));have n13_:=Zk ((by rw [hg];exact Nat.ne_of_gt (xB (g:=gb574) (o:=.cells #[.slice A0_0 l0_0.length c0_0,.slice A0_1 l0_1.length c0_1,.slice A0_2 l0_2.length c0_2] 30 (0,0)) (by (with_reducible repeat (first|refine zC ?_ _|refine zF ?_|refine zB ?_ _));exact BK574.out)):gb599≠gb574));have n14_:=Zk ((by rw [hg];exact Nat.ne_of_lt (xB (g:=gb588) (o:=.cells #[.slice Ao35 t578.length co35,.slice Ao38 t581.length co38,.slice Ao39 t584.length co39] 30 (0,0)) (by (with_reducible repeat (first|refine zC ?_ _|refine zF ?_|refine zB ?_ _));exact BK588.out)):gb588≠gb599));have n15_:=Zk ((by rw [hg];exact Nat.ne_of_gt (xB (g:=gb588) (o:=.cells #[.slice Ao35 t578.length co35,.slice Ao38 t581.length co38,.slice Ao39 t584.length co39] 30 (0,0)) (by (with_reducible repeat (first|refine zC ?_ _|refine zF ?_|refine zB ?_ _));exact BK588.out)):gb599≠gb588));clear HO580;clear HO583;clear HO586;clear HO591;clear HO594;clear HO597;clear BK574;clear BK588;clear HB;have HO580:=n0_;have HO583:=n1_;have HO586:=n2_;have HO591:=n3_;have HO594:=n4_;have HO597:=n5_;have BK574:=n6_;have BK588:=n7_;have HB:=n8_;have BK599:=n9_;have GW599:=n10_;have GE599:=n11_;have NB574_599:=n12_;have NB599_574:=n13_;have NB588_599:=n14_;have NB599_588:=n15_;clear n0_ n1_ n2_ n3_ n4_ n5_ n6_ n7_ n8_ n9_ n10_ n11_ n12_ n13_ n14_ n15_;clear hb hbox hg;obtain ⟨Ao44,co44,eo44⟩:=V_slice HO591.out;subst eo44;have hnb45:=NB599_574.out;have hnc45:=NB574_599.out;have hnb46:=NB599_588.out;have hnc46:=NB588_599.out;have hcz47_0:w43.cell? ⟨gb599,0,none⟩=some (.slice none 0 0):=(zI BK599.out 0).trans rfl;have hcz47_1:w43.cell? ⟨gb599,1,none⟩=some (.slice none 0 0):=(zI BK599.out 1).trans rfl;have hcz47_2:w43.cell? ⟨gb599,2,none⟩=some (.slice none 0 0):=(zI BK599.out 2).trans rfl;have hfz47_0:=zJ BK599.out 0;have hfz47_1:=zJ BK599.out 1;have hfz47_2:=zJ BK599.out 2;obtain ⟨Ao48,co48,eo48⟩:=V_slice HO594.out;subst eo48;obtain ⟨Ao49,co49,eo49⟩:=V_slice HO597.out;subst eo49)|((with_reducible refine xA (t:=30) (p:=9) rfl ?_);refine yV (t:=30) (p:=9) (v:=?vo_w50) (w1:=(((w43.setCell ⟨gb599,0,none⟩ (.slice Ao44 t589.length co44)).setCell ⟨gb599,1,none⟩ (.slice Ao48 t592.length co48)).setCell ⟨gb599,2,none⟩ (.slice Ao49 t595.length co49))) ?hg ?ho ?hn ?hr ?_;(case ho=>rfl);(case hg=>rfl);(case hn=>rfl);(case hr=>first|(go_simp;done)|(go_simp;rfl));intro w50 hw;have n0_:zR (Kd.V (Kd.int .i64) 3 w50 w.heap.size (fun k_=>k_≠gb574∧k_≠gb588∧k_≠gb599) (.slice Ao35 t578.length co35) t578):=⟨(by rw [hw];exact (by (with_reducible repeat (first|apply zL|apply zK|apply zM));exact zN (zV (p:=⟨gb599,2,none⟩) (zV (p:=⟨gb599,1,none⟩) (zV (p:=⟨gb599,0,none⟩) (zN HO580.out (fun k_ hk=>(⟨hk,hk.2⟩:_∧k_≠gb599))) (fun _ hk=>hk.2) (.slice Ao44 t589.length co44)) (fun _ hk=>hk.2) (.slice Ao48 t592.length co48)) (fun _ hk=>hk.2) (.slice Ao49 t595.length co49)) (fun _ hk=>⟨hk.1.1.1,⟨hk.1.1.2,hk.1.2⟩⟩)))⟩;have n1_:zR (Kd.V (Kd.int .i64) 3 w50 w.heap.size (fun k_=>k_≠gb574∧k_≠gb588∧k_≠gb599) (.slice Ao38 t581.length co38) t581):=⟨(by rw [hw];exact (by (with_reducible repeat (first|apply zL|apply zK|apply zM));exact zN (zV (p:=⟨gb599,2,none⟩) (zV (p:=⟨gb599,1,none⟩) (zV (p:=⟨gb599,0,none⟩) (zN HO583.out (fun k_ hk=>(⟨hk,hk.2⟩:_∧k_≠gb599))) (fun _ hk=>hk.2) (.slice Ao44 t589.length co44)) (fun _ hk=>hk.2) (.slice Ao48 t592.length co48)) (fun _ hk=>hk.2) (.slice Ao49 t595.length co49)) (fun _ hk=>⟨hk.1.1.1,⟨hk.1.1.2,hk.1.2⟩⟩)))⟩;have n2_:zR (Kd.V (Kd.int .i64) 3 w50 w.heap.size (fun k_=>k_≠gb574∧k_≠gb588∧k_≠gb599) (.slice Ao39 t584.length co39) t584):=⟨(by rw [hw];exact (by (with_reducible repeat (first|apply zL|apply zK|apply zM));exact zN (zV (p:=⟨gb599,2,none⟩) (zV (p:=⟨gb599,1,none⟩) (zV (p:=⟨gb599,0,none⟩) (zN HO586.out (fun k_ hk=>(⟨hk,hk.2⟩:_∧k_≠gb599))) (fun _ hk=>hk.2) (.slice Ao44 t589.length co44)) (fun _ hk=>hk.2) (.slice Ao48 t592.length co48)) (fun _ hk=>hk.2) (.slice Ao49 t595.length co49)) (fun _ hk=>⟨hk.1.1.1,⟨hk.1.1.2,hk.1.2⟩⟩)))⟩;have n3_:zR (Kd.V (Kd.int .i64) 3 w50 w.heap.size (fun k_=>k_≠gb574∧k_≠gb588∧k_≠gb599) (.slice Ao44 t589.length co44) t589):=⟨(by rw [hw];exact (by (with_reducible repeat (first|apply zL|apply zK|apply zM));exact zN (zV (p:=⟨gb599,2,none⟩) (zV (p:=⟨gb599,1,none⟩) (zV (p:=⟨gb599,0,none⟩) (zN HO591.out (fun k_ hk=>(⟨hk,hk.2⟩:_∧k_≠gb599))) (fun _ hk=>hk.2) (.slice Ao44 t589.length co44)) (fun _ hk=>hk.2) (.slice Ao48 t592.length co48)) (fun _ hk=>hk.2) (.slice Ao49 t595.length co49)) (fun _ hk=>⟨hk.1.1.1,⟨hk.1.1.2,hk.1.2⟩⟩)))⟩;have n4_:zR (Kd.V (Kd.int .i64) 3 w50 w.heap.size (fun k_=>k_≠gb574∧k_≠gb588∧k_≠gb599) (.slice Ao48 t592.length co48) t592):=⟨(by rw [hw];exact (by (with_reducible repeat (first|apply zL|apply zK|apply zM));exact zN (zV (p:=⟨gb599,2,none⟩) (zV (p:=⟨gb599,1,none⟩) (zV (p:=⟨gb599,0,none⟩) (zN HO594.out (fun k_ hk=>(⟨hk,hk.2⟩:_∧k_≠gb599))) (fun _ hk=>hk.2) (.slice Ao44 t589.length co44)) (fun _ hk=>hk.2) (.slice Ao48 t592.length co48)) (fun _ hk=>hk.2) (.slice Ao49 t595.length co49)) (fun _ hk=>⟨hk.1.1.1,⟨hk.1.1.2,hk.1.2⟩⟩)))⟩;have n5_:zR (Kd.V (Kd.int .i64) 3 w50 w.heap.size (fun k_=>k_≠gb574∧k_≠gb588∧k_≠gb599) (.slice Ao49 t595.length co49) t595):=⟨(by rw [hw];exact (by (with_reducible repeat (first|apply zL|apply zK|apply zM));exact zN (zV (p:=⟨gb599,2,none⟩) (zV (p:=⟨gb599,1,none⟩) (zV (p:=⟨gb599,0,none⟩) (zN HO597.out (fun k_ hk=>(⟨hk,hk.2⟩:_∧k_≠gb599))) (fun _ hk=>hk.2) (.slice Ao44 t589.length co44)) (fun _ hk=>hk.2) (.slice Ao48 t592.length co48)) (fun _ hk=>hk.2) (.slice Ao49 t595.length co49)) (fun _ hk=>⟨hk.1.1.1,⟨hk.1.1.2,hk.1.2⟩⟩)))⟩;have n6_:zR (w50.heap[gb574]?=some (.cells #[.slice A0_0 l0_0.length c0_0,.slice A0_1 l0_1.length c0_1,.slice A0_2 l0_2.length c0_2] 30 (0,0))):=⟨(by rw [hw];exact (by (with_reducible repeat (first|refine zC ?_ _|refine zF ?_|refine zB ?_ _));refine yA ?_ NB574_599.out _;(with_reducible repeat (first|refine zC ?_ _|refine zF ?_|refine zB ?_ _));refine yA ?_ NB574_599.out _;(with_reducible repeat (first|refine zC ?_ _|refine zF ?_|refine zB ?_ _));refine yA ?_ NB574_599.out _;(with_reducible repeat (first|refine zC ?_ _|refine zF ?_|refine zB ?_ _));exact BK574.out))⟩;have n7_:zR (w50.heap[gb588]?=some (.cells #[.slice Ao35 t578.length co35,.slice Ao38 t581.length co38,.slice Ao39 t584.length co39] 30 (0,0))):=⟨(by rw [hw];exact (by (with_reducible repeat (first|refine zC ?_ _|refine zF ?_|refine zB ?_ _));refine yA ?_ NB588_599.out _;(with_reducible repeat (first|refine zC ?_ _|refine zF ?_|refine zB ?_ _));refine yA ?_ NB588_599.out _;(with_reducible repeat (first|refine zC ?_ _|refine zF ?_|refine zB ?_ _));refine yA ?_ NB588_599.out _;(with_reducible repeat (first|refine zC ?_ _|refine zF ?_|refine zB ?_ _));exact BK588.out))⟩;have n8_:zR (w50.heap[gb599]?=some (.cells #[.slice Ao44 t589.length co44,.slice Ao48 t592.length co48,.slice Ao49 t595.length co49] 30 (0,0))):=⟨(by rw [hw];exact (by (with_reducible repeat (first|refine zC ?_ _|refine zF ?_|refine zB ?_ _));refine yD (cs:=#[.slice Ao44 t589.length co44,.slice Ao48 t592.length co48,.slice none 0 0]) ?_ 2 _ rfl;(with_reducible repeat (first|refine zC ?_ _|refine zF ?_|refine zB ?_ _));refine yD (cs:=#[.slice Ao44 t589.length co44,.slice none 0 0,.slice none 0 0]) ?_ 1 _ rfl;(with_reducible repeat (first|refine zC ?_ _|refine zF ?_|refine zB ?_ _));refine yD (cs:=#[.slice none 0 0,.slice none 0 0,.slice none 0 0]) ?_ 0 _ rfl;(with_reducible repeat (first|refine zC ?_ _|refine zF ?_|refine zB ?_ _));exact BK599.out))⟩;have n9_:zR (Below w.heap.size w w50):=⟨(by rw [hw];exact (by repeat (first|(with_reducible first|exact HB.out|apply zG|apply zD|apply zH|refine zA ?_ GE574.out|refine zA ?_ GE588.out|refine zA ?_ GE599.out)|exact HB.out)))⟩;clear hw;clear HO580;clear HO583;clear HO586;clear HO591;clear HO594;clear HO597;clear BK574;clear BK588;clear BK599;clear HB;have HO580:=n0_;have HO583:=n1_;have HO586:=n2_;have HO591:=n3_;have HO594:=n4_;have HO597:=n5_;have BK574:=n6_;have BK588:=n7_;have BK599:=n8_;have HB:=n9_;clear n0_ n1_ n2_ n3_ n4_ n5_ n6_ n7_ n8_ n9_))
        have n0_:=Zk (zM HO580.out)
        have n1_:=Zk (zM HO583.out)
        have n2_:=Zk (zM HO586.out)
        have n3_:=Zk (zM HO591.out)
        have n4_:=Zk (zM HO594.out)
        have n5_:=Zk (zM HO597.out)
        have n6_:=Zk (zF BK574.out)
        have n7_:=Zk (zF BK588.out)
        have n8_:=Zk (zF BK599.out)
        have n9_:=Zk (zH HB.out)
        clear HO580
        clear HO583
        clear HO586
        clear HO591
        clear HO594
        clear HO597
        clear BK574
        clear BK588
        clear BK599
        clear HB
        have HO580:=n0_
        have HO583:=n1_
        have HO586:=n2_
        have HO591:=n3_
        have HO594:=n4_
        have HO597:=n5_
        have BK574:=n6_
        have BK588:=n7_
        have BK599:=n8_
        have HB:=n9_
        clear n0_ n1_ n2_ n3_ n4_ n5_ n6_ n7_ n8_ n9_
        refine start_ (n:=26) (S:=fun w'=>w'.cell? ⟨gb588,0,none⟩=some (.slice Ao35 t578.length co35)∧w'.cell? ⟨gb588,1,none⟩=some (.slice Ao38 t581.length co38)∧w'.cell? ⟨gb588,2,none⟩=some (.slice Ao39 t584.length co39)∧w'.cell? ⟨gb599,0,none⟩=some (.slice Ao44 t589.length co44)∧w'.cell? ⟨gb599,1,none⟩=some (.slice Ao48 t592.length co48)∧w'.cell? ⟨gb599,2,none⟩=some (.slice Ao49 t595.length co49)∧w'.cell? ⟨gb574,0,none⟩=some (.slice A0_0 l0_0.length c0_0)∧w'.cell? ⟨gb574,1,none⟩=some (.slice A0_1 l0_1.length c0_1)∧w'.cell? ⟨gb574,2,none⟩=some (.slice A0_2 l0_2.length c0_2)) (ds:=[]) #[false,false,false,false,false,false,false,false,false,false,false,false,false,false,false,false,false,false,false,false,false,false,false,false,false,false] (by kernel_rfl) rfl rfl ⟨(zI BK588.out 0).trans rfl,(zI BK588.out 1).trans rfl,(zI BK588.out 2).trans rfl,(zI BK599.out 0).trans rfl,(zI BK599.out 1).trans rfl,(zI BK599.out 2).trans rfl,(zI BK574.out 0).trans rfl,(zI BK574.out 1).trans rfl,(zI BK574.out 2).trans rfl⟩ (fun hHeld=>?_);refine with_tabW jobshelllaw25_SignalSets.tab5 jobshelllaw25_SignalSets.bits5 (fun HT_ HW_=>?_)
        generalize w50.drew=w51 at HO580 HO583 HO586 HO591 HO594 HO597 BK574 BK588 BK599 HB hHeld ⊢
        refine take_ (i:=0) (N:=some 34) (v:=?_) (a':=?_) #[true,false,false,false,false,false,false,false,false,false,false,false,false,false,false,false,false,false,false,false,false,false,false,false,false,false] rfl rfl (take_ofW HT_.out HW_.out (by kernel_rfl)) (fun _ _ _ h=>h) (Or.inl ⟨by rfl,?_⟩) hHeld ?_ ?_
        rotate_left
        ·rintro w' ⟨s0,s1,s2,s3,s4,s5,s6,s7,s8⟩
         go_simp
         with_reducible rfl
        rotate_left
        ·simp only [Act.put,List.setIfInBounds_toArray,List.set_cons_zero,List.set_cons_succ,yS,yU]
         rfl
        refine take_ (i:=1) (N:=some 35) (v:=?_) (a':=?_) #[true,true,false,false,false,false,false,false,false,false,false,false,false,false,false,false,false,false,false,false,false,false,false,false,false,false] rfl rfl (take_ofW HT_.out HW_.out (by kernel_rfl)) (fun _ _ _ h=>h) (Or.inl ⟨by rfl,?_⟩) hHeld ?_ ?_
        rotate_left
        ·rintro w' ⟨s0,s1,s2,s3,s4,s5,s6,s7,s8⟩
         go_simp
         with_reducible rfl
        rotate_left
        ·simp only [Act.put,List.setIfInBounds_toArray,List.set_cons_zero,List.set_cons_succ,yS,yU]
         rfl
        refine one_ (i:=2) (N:=some 36) #[true,true,true,false,false,false,false,false,false,false,false,false,false,false,false,false,false,false,false,false,false,false,false,false,false,false] rfl rfl (one_of HT_.out (by kernel_rfl)) (by decide) (fun K hK=>?_)
        refine goes_ Tryd.func21 (by kernel_rfl) rfl #[.agg #[.slice Ao35 t578.length co35,.slice Ao38 t581.length co38,.slice Ao39 t584.length co39],.agg #[.slice Ao44 t589.length co44,.slice Ao48 t592.length co48,.slice Ao49 t595.length co49]] (by rfl) rfl rfl (by (try simp only [List.map_toArray,List.map_cons,List.map_nil]);first|done|rfl|(simp only [List.length_drop,List.length_take];rfl)) ?_
        with_reducible refine (jobshellref25_Same.calls kj3 _ _ t578 _ _ t581 _ _ t584 _ _ t589 _ _ t592 _ _ t595 true _ ?side1 ?side2 ?side3 ?side4 ?side5 ?side6 ?side7 ?side8 ?side9 ?side10 ?side11 ?side12 A20.out).mono ?_
        (case side1=>repeat (first|exact (yJ HO580.out).2.2|(with_reducible refine yG ?_ _)|(with_reducible refine yF ?_ _)|(with_reducible refine yK ?_)))
        (case side2=>exact (yJ HO580.out).2.1)
        (case side3=>repeat (first|exact (yJ HO583.out).2.2|(with_reducible refine yG ?_ _)|(with_reducible refine yF ?_ _)|(with_reducible refine yK ?_)))
        (case side4=>exact (yJ HO583.out).2.1)
        (case side5=>repeat (first|exact (yJ HO586.out).2.2|(with_reducible refine yG ?_ _)|(with_reducible refine yF ?_ _)|(with_reducible refine yK ?_)))
        (case side6=>exact (yJ HO586.out).2.1)
        (case side7=>repeat (first|exact (yJ HO591.out).2.2|(with_reducible refine yG ?_ _)|(with_reducible refine yF ?_ _)|(with_reducible refine yK ?_)))
        (case side8=>exact (yJ HO591.out).2.1)
        (case side9=>repeat (first|exact (yJ HO594.out).2.2|(with_reducible refine yG ?_ _)|(with_reducible refine yF ?_ _)|(with_reducible refine yK ?_)))
        (case side10=>exact (yJ HO594.out).2.1)
        (case side11=>repeat (first|exact (yJ HO597.out).2.2|(with_reducible refine yG ?_ _)|(with_reducible refine yF ?_ _)|(with_reducible refine yK ?_)))
        (case side12=>exact (yJ HO597.out).2.1)
        rintro e w52 ⟨rfl,hb⟩
        refine ⟨_,rfl,?_⟩
        have n0_:=Zk (zZ (by (with_reducible repeat (first|apply zL|apply zK|apply zM));exact HO580.out) hb)
        have n1_:=Zk (zZ (by (with_reducible repeat (first|apply zL|apply zK|apply zM));exact HO583.out) hb)
        have n2_:=Zk (zZ (by (with_reducible repeat (first|apply zL|apply zK|apply zM));exact HO586.out) hb)
        have n3_:=Zk (zZ (by (with_reducible repeat (first|apply zL|apply zK|apply zM));exact HO591.out) hb)
        have n4_:=Zk (zZ (by (with_reducible repeat (first|apply zL|apply zK|apply zM));exact HO594.out) hb)
        have n5_:=Zk (zZ (by (with_reducible repeat (first|apply zL|apply zK|apply zM));exact HO597.out) hb)
        have n6_:=Zk (zX (g:=gb574) (o:=.cells #[.slice A0_0 l0_0.length c0_0,.slice A0_1 l0_1.length c0_1,.slice A0_2 l0_2.length c0_2] 30 (0,0)) (by (with_reducible repeat (first|refine zC ?_ _|refine zF ?_|refine zB ?_ _));exact BK574.out) hb)
        have n7_:=Zk (zX (g:=gb588) (o:=.cells #[.slice Ao35 t578.length co35,.slice Ao38 t581.length co38,.slice Ao39 t584.length co39] 30 (0,0)) (by (with_reducible repeat (first|refine zC ?_ _|refine zF ?_|refine zB ?_ _));exact BK588.out) hb)
        have n8_:=Zk (zX (g:=gb599) (o:=.cells #[.slice Ao44 t589.length co44,.slice Ao48 t592.length co48,.slice Ao49 t595.length co49] 30 (0,0)) (by (with_reducible repeat (first|refine zC ?_ _|refine zF ?_|refine zB ?_ _));exact BK599.out) hb)
        have n9_:=Zk (yB (by repeat (first|(with_reducible first|exact HB.out|apply zG|apply zD|apply zH|refine zA ?_ GE574.out|refine zA ?_ GE588.out|refine zA ?_ GE599.out)|exact HB.out)) hb)
        clear HO580
        clear HO583
        clear HO586
        clear HO591
        clear HO594
        clear HO597
        clear BK574
        clear BK588
        clear BK599
        clear HB
        have HO580:=n0_
        have HO583:=n1_
        have HO586:=n2_
        have HO591:=n3_
        have HO594:=n4_
        have HO597:=n5_
        have BK574:=n6_
        have BK588:=n7_
        have BK599:=n8_
        have HB:=n9_
        clear n0_ n1_ n2_ n3_ n4_ n5_ n6_ n7_ n8_ n9_
        (try clear hb)
        (try clear hb2)
        (try clear hk)
        (try clear hi)
        refine hK.out _ _ ⟨(zI BK588.out 0).trans rfl,(zI BK588.out 1).trans rfl,(zI BK588.out 2).trans rfl,(zI BK599.out 0).trans rfl,(zI BK599.out 1).trans rfl,(zI BK599.out 2).trans rfl,(zI BK574.out 0).trans rfl,(zI BK574.out 1).trans rfl,(zI BK574.out 2).trans rfl⟩ (fun hHeld=>?_)
        clear hK K
        refine norm_ (a':=?_) ?_ ?_
        rotate_left
        ·show Act.put _ (some 36) _=_
         simp only [Act.put,List.setIfInBounds_toArray,List.set_cons_zero,List.set_cons_succ,yS,yU]
         rfl
        refine pure_ (i:=3) (N:=some 37) (v:=?_) (a':=?_) #[true,true,true,true,false,false,false,false,false,false,false,false,false,false,false,false,false,false,false,false,false,false,false,false,false,false] rfl rfl (any_of HT_.out (by kernel_rfl)) (fun _ _ _ h=>h) (Or.inl ⟨by rfl,?_⟩) ?_ ?_
        rotate_left
        ·intro w'
         go_simp
         with_reducible rfl
        rotate_left
        ·simp only [Act.put,List.setIfInBounds_toArray,List.set_cons_zero,List.set_cons_succ,yS,yU]
         rfl
        refine pure_ (i:=4) (N:=some 38) (v:=?_) (a':=?_) #[true,true,true,true,true,false,false,false,false,false,false,false,false,false,false,false,false,false,false,false,false,false,false,false,false,false] rfl rfl (any_of HT_.out (by kernel_rfl)) (fun _ _ _ h=>h) (Or.inl ⟨by rfl,?_⟩) ?_ ?_
        rotate_left
        ·intro w'
         go_simp
         with_reducible rfl
        rotate_left
        ·simp only [Act.put,List.setIfInBounds_toArray,List.set_cons_zero,List.set_cons_succ,yS,yU]
         rfl
        refine pure_ (i:=5) (N:=some 39) (v:=?_) (a':=?_) #[true,true,true,true,true,true,false,false,false,false,false,false,false,false,false,false,false,false,false,false,false,false,false,false,false,false] rfl rfl (any_of HT_.out (by kernel_rfl)) (fun _ _ _ h=>h) (Or.inl ⟨by rfl,?_⟩) ?_ ?_
        rotate_left
        ·intro w'
         go_simp
         with_reducible rfl
        rotate_left
        ·simp only [Act.put,List.setIfInBounds_toArray,List.set_cons_zero,List.set_cons_succ,yS,yU]
         rfl
        refine pure_ (i:=6) (N:=some 40) (v:=?_) (a':=?_) #[true,true,true,true,true,true,true,false,false,false,false,false,false,false,false,false,false,false,false,false,false,false,false,false,false,false] rfl rfl (any_of HT_.out (by kernel_rfl)) (fun _ _ _ h=>h) (Or.inl ⟨by rfl,?_⟩) ?_ ?_
        rotate_left
        ·intro w'
         go_simp
         with_reducible rfl
        rotate_left
        ·simp only [Act.put,List.setIfInBounds_toArray,List.set_cons_zero,List.set_cons_succ,yS,yU]
         rfl
        refine pure_ (i:=7) (N:=some 41) (v:=?_) (a':=?_) #[true,true,true,true,true,true,true,true,false,false,false,false,false,false,false,false,false,false,false,false,false,false,false,false,false,false] rfl rfl (any_of HT_.out (by kernel_rfl)) (fun _ _ _ h=>h) (Or.inl ⟨by rfl,?_⟩) ?_ ?_
        rotate_left
        ·intro w'
         go_simp
         with_reducible rfl
        rotate_left
        ·simp only [Act.put,List.setIfInBounds_toArray,List.set_cons_zero,List.set_cons_succ,yS,yU]
         rfl
        refine pure_ (i:=8) (N:=some 42) (v:=?_) (a':=?_) #[true,true,true,true,true,true,true,true,true,false,false,false,false,false,false,false,false,false,false,false,false,false,false,false,false,false] rfl rfl (any_of HT_.out (by kernel_rfl)) (fun _ _ _ h=>h) (Or.inl ⟨by rfl,?_⟩) ?_ ?_
        rotate_left
        ·intro w'
         go_simp
         with_reducible rfl
        rotate_left
        ·simp only [Act.put,List.setIfInBounds_toArray,List.set_cons_zero,List.set_cons_succ,yS,yU]
         rfl
        refine take_ (i:=9) (N:=some 43) (v:=?_) (a':=?_) #[true,true,true,true,true,true,true,true,true,true,false,false,false,false,false,false,false,false,false,false,false,false,false,false,false,false] rfl rfl (take_ofW HT_.out HW_.out (by kernel_rfl)) (fun _ _ _ h=>h) (Or.inl ⟨by rfl,?_⟩) hHeld ?_ ?_
        rotate_left
        ·rintro w' ⟨s0,s1,s2,s3,s4,s5,s6,s7,s8⟩
         go_simp
         with_reducible rfl
        rotate_left
        ·simp only [Act.put,List.setIfInBounds_toArray,List.set_cons_zero,List.set_cons_succ,yS,yU]
         rfl
        refine take_ (i:=11) (N:=some 45) (v:=?_) (a':=?_) #[true,true,true,true,true,true,true,true,true,true,false,true,false,false,false,false,false,false,false,false,false,false,false,false,false,false] rfl rfl (take_ofW HT_.out HW_.out (by kernel_rfl)) (fun _ _ _ h=>h) (Or.inl ⟨by rfl,?_⟩) hHeld ?_ ?_
        rotate_left
        ·rintro w' ⟨s0,s1,s2,s3,s4,s5,s6,s7,s8⟩
         go_simp
         with_reducible rfl
        rotate_left
        ·simp only [Act.put,List.setIfInBounds_toArray,List.set_cons_zero,List.set_cons_succ,yS,yU]
         rfl
        refine one_ (i:=10) (N:=some 44) #[true,true,true,true,true,true,true,true,true,true,true,true,false,false,false,false,false,false,false,false,false,false,false,false,false,false] rfl rfl (one_of HT_.out (by kernel_rfl)) (by decide) (fun K hK=>?_)
        refine goes_ Tryd.func27 (by kernel_rfl) rfl #[.agg #[.slice A0_0 l0_0.length c0_0,.slice A0_1 l0_1.length c0_1,.slice A0_2 l0_2.length c0_2]] (by rfl) rfl rfl (by (try simp only [List.map_toArray,List.map_cons,List.map_nil]);first|done|rfl|(simp only [List.length_drop,List.length_take];rfl)) ?_
        with_reducible refine (signal_Fork.calls _ _ l0_0 _ _ l0_1 _ _ l0_2 t601 t604 t607 _ ?side1 ?side2 ?side3 ?side4 ?side5 ?side6 A23.out).mono ?_
        (case side1=>repeat (first|exact (yT HR0_0.out HB.out)|(with_reducible refine yG ?_ _)|(with_reducible refine yF ?_ _)|(with_reducible refine yK ?_)))
        (case side2=>exact HC0_0.out)
        (case side3=>repeat (first|exact (yT HR0_1.out HB.out)|(with_reducible refine yG ?_ _)|(with_reducible refine yF ?_ _)|(with_reducible refine yK ?_)))
        (case side4=>exact HC0_1.out)
        (case side5=>repeat (first|exact (yT HR0_2.out HB.out)|(with_reducible refine yG ?_ _)|(with_reducible refine yF ?_ _)|(with_reducible refine yK ?_)))
        (case side6=>exact HC0_2.out)
        rintro e w53 ⟨v602,v605,v608,rfl,ho0,ho1,ho2,hb⟩
        refine ⟨_,rfl,?_⟩
        have n0_:=Zk (zN (yM (yM (yM (V_old (by (with_reducible repeat (first|apply zL|apply zK|apply zM));exact HO580.out) hb) (zU ho0)) (zU ho1)) (zU ho2)) (fun _ h_=>h_.1))
        have n1_:=Zk (zN (yM (yM (yM (V_old (by (with_reducible repeat (first|apply zL|apply zK|apply zM));exact HO583.out) hb) (zU ho0)) (zU ho1)) (zU ho2)) (fun _ h_=>h_.1))
        have n2_:=Zk (zN (yM (yM (yM (V_old (by (with_reducible repeat (first|apply zL|apply zK|apply zM));exact HO586.out) hb) (zU ho0)) (zU ho1)) (zU ho2)) (fun _ h_=>h_.1))
        have n3_:=Zk (zN (yM (yM (yM (V_old (by (with_reducible repeat (first|apply zL|apply zK|apply zM));exact HO591.out) hb) (zU ho0)) (zU ho1)) (zU ho2)) (fun _ h_=>h_.1))
        have n4_:=Zk (zN (yM (yM (yM (V_old (by (with_reducible repeat (first|apply zL|apply zK|apply zM));exact HO594.out) hb) (zU ho0)) (zU ho1)) (zU ho2)) (fun _ h_=>h_.1))
        have n5_:=Zk (zN (yM (yM (yM (V_old (by (with_reducible repeat (first|apply zL|apply zK|apply zM));exact HO597.out) hb) (zU ho0)) (zU ho1)) (zU ho2)) (fun _ h_=>h_.1))
        have n6_:=Zk (yQ ho0 (zT (by repeat (first|(with_reducible first|exact HB.out|apply zG|apply zD|apply zH|refine zA ?_ GE574.out|refine zA ?_ GE588.out|refine zA ?_ GE599.out)|exact HB.out))))
        have n7_:=Zk (yQ ho1 (zT (by repeat (first|(with_reducible first|exact HB.out|apply zG|apply zD|apply zH|refine zA ?_ GE574.out|refine zA ?_ GE588.out|refine zA ?_ GE599.out)|exact HB.out))))
        have n8_:=Zk (yQ ho2 (zT (by repeat (first|(with_reducible first|exact HB.out|apply zG|apply zD|apply zH|refine zA ?_ GE574.out|refine zA ?_ GE588.out|refine zA ?_ GE599.out)|exact HB.out))))
        have n9_:=Zk (zX (g:=gb574) (o:=.cells #[.slice A0_0 l0_0.length c0_0,.slice A0_1 l0_1.length c0_1,.slice A0_2 l0_2.length c0_2] 30 (0,0)) (by (with_reducible repeat (first|refine zC ?_ _|refine zF ?_|refine zB ?_ _));exact BK574.out) hb)
        have n10_:=Zk (zX (g:=gb588) (o:=.cells #[.slice Ao35 t578.length co35,.slice Ao38 t581.length co38,.slice Ao39 t584.length co39] 30 (0,0)) (by (with_reducible repeat (first|refine zC ?_ _|refine zF ?_|refine zB ?_ _));exact BK588.out) hb)
        have n11_:=Zk (zX (g:=gb599) (o:=.cells #[.slice Ao44 t589.length co44,.slice Ao48 t592.length co48,.slice Ao49 t595.length co49] 30 (0,0)) (by (with_reducible repeat (first|refine zC ?_ _|refine zF ?_|refine zB ?_ _));exact BK599.out) hb)
        have n12_:=Zk (yB (by repeat (first|(with_reducible first|exact HB.out|apply zG|apply zD|apply zH|refine zA ?_ GE574.out|refine zA ?_ GE588.out|refine zA ?_ GE599.out)|exact HB.out)) hb)
        clear HO580
        clear HO583
        clear HO586
        clear HO591
        clear HO594
        clear HO597
        clear BK574
        clear BK588
        clear BK599
        clear HB
        have HO580:=n0_
        have HO583:=n1_
        have HO586:=n2_
        have HO591:=n3_
        have HO594:=n4_
        have HO597:=n5_
        have HO603:=n6_
        have HO606:=n7_
        have HO609:=n8_
        have BK574:=n9_
        have BK588:=n10_
        have BK599:=n11_
        have HB:=n12_
        clear n0_ n1_ n2_ n3_ n4_ n5_ n6_ n7_ n8_ n9_ n10_ n11_ n12_
        (try clear hb)
        (try clear hb2)
        (try clear hk)
        (try clear hi)
        (try clear ho0)
        (try clear ho1)
        (try clear ho2)
        refine hK.out _ _ ⟨(zI BK588.out 0).trans rfl,(zI BK588.out 1).trans rfl,(zI BK588.out 2).trans rfl,(zI BK599.out 0).trans rfl,(zI BK599.out 1).trans rfl,(zI BK599.out 2).trans rfl,(zI BK574.out 0).trans rfl,(zI BK574.out 1).trans rfl,(zI BK574.out 2).trans rfl⟩ (fun hHeld=>?_)
        clear hK K
        refine norm_ (a':=?_) ?_ ?_
        rotate_left
        ·show Act.put _ (some 44) _=_
         simp only [Act.put,List.setIfInBounds_toArray,List.set_cons_zero,List.set_cons_succ,yS,yU]
         rfl
        refine one_ (i:=12) (N:=some 46) #[true,true,true,true,true,true,true,true,true,true,true,true,true,false,false,false,false,false,false,false,false,false,false,false,false,false] rfl rfl (one_of HT_.out (by kernel_rfl)) (by decide) (fun K hK=>?_)
        refine goes_ Tryd.func28 (by kernel_rfl) rfl #[.agg #[.slice A0_0 l0_0.length c0_0,.slice A0_1 l0_1.length c0_1,.slice A0_2 l0_2.length c0_2]] (by rfl) rfl rfl (by (try simp only [List.map_toArray,List.map_cons,List.map_nil]);first|done|rfl|(simp only [List.length_drop,List.length_take];rfl)) ?_
        with_reducible refine (jobshellref25_Fork.calls _ _ l0_0 (fun k_=>k_ < w.heap.size) _ _ l0_1 (fun k_=>k_ < w.heap.size) _ _ l0_2 t610 t613 t616 _ ?side1 ?side2 ?side3 ?side4 A24.out).mono ?_
        (case side1=>repeat (first|exact (yT HR0_0.out HB.out)|(with_reducible refine yG ?_ _)|(with_reducible refine yF ?_ _)|(with_reducible refine yK ?_)))
        (case side2=>exact HC0_0.out)
        (case side3=>exact V_mk HC0_1.out (Kd.F_below (C_F (Kd.heap_int .i64) HR0_1.out) (by repeat (first|(with_reducible first|exact HB.out|apply zG|apply zD|apply zH|refine zA ?_ GE574.out|refine zA ?_ GE588.out|refine zA ?_ GE599.out)|exact HB.out))))
        (case side4=>exact V_mk HC0_2.out (Kd.F_below (C_F (Kd.heap_int .i64) HR0_2.out) (by repeat (first|(with_reducible first|exact HB.out|apply zG|apply zD|apply zH|refine zA ?_ GE574.out|refine zA ?_ GE588.out|refine zA ?_ GE599.out)|exact HB.out))))
        rintro e w54 ⟨v611,v614,v617,rfl,ho0,ho1,ho2,hb⟩
        refine ⟨_,rfl,?_⟩
        have n0_:=Zk (yC (by (with_reducible repeat (first|apply zL|apply zK|apply zM));exact HO580.out) (zU ho0) hb)
        have n1_:=Zk (yC (by (with_reducible repeat (first|apply zL|apply zK|apply zM));exact HO583.out) (zU ho0) hb)
        have n2_:=Zk (yC (by (with_reducible repeat (first|apply zL|apply zK|apply zM));exact HO586.out) (zU ho0) hb)
        have n3_:=Zk (yC (by (with_reducible repeat (first|apply zL|apply zK|apply zM));exact HO591.out) (zU ho0) hb)
        have n4_:=Zk (yC (by (with_reducible repeat (first|apply zL|apply zK|apply zM));exact HO594.out) (zU ho0) hb)
        have n5_:=Zk (yC (by (with_reducible repeat (first|apply zL|apply zK|apply zM));exact HO597.out) (zU ho0) hb)
        have n6_:=Zk (yH (by (with_reducible repeat (first|apply zP|apply zO|apply zQ));exact HO603.out) (zU ho0) hb)
        have n7_:=Zk (yH (by (with_reducible repeat (first|apply zP|apply zO|apply zQ));exact HO606.out) (zU ho0) hb)
        have n8_:=Zk (yH (by (with_reducible repeat (first|apply zP|apply zO|apply zQ));exact HO609.out) (zU ho0) hb)
        have n9_:=Zk (yQ (yL (yL (yL (zY (ok':=fun k_=>True) ho0 (fun _ hk_=>trivial)) (R_lt (by (with_reducible repeat (first|apply zP|apply zO|apply zQ));exact HO603.out))) (R_lt (by (with_reducible repeat (first|apply zP|apply zO|apply zQ));exact HO606.out))) (R_lt (by (with_reducible repeat (first|apply zP|apply zO|apply zQ));exact HO609.out))) (zT (by repeat (first|(with_reducible first|exact HB.out|apply zG|apply zD|apply zH|refine zA ?_ GE574.out|refine zA ?_ GE588.out|refine zA ?_ GE599.out)|exact HB.out))))
        have n10_:=Zk (V_lower (zN (ok':=fun k_=>some k_≠(v611:Value).ownBlock∧some k_≠(v602:Value).ownBlock∧some k_≠(v605:Value).ownBlock∧some k_≠(v608:Value).ownBlock∧k_≠gb574∧k_≠gb588∧k_≠gb599) ho1 (fun k_ hk_=>⟨hk_.2,Or.elim hk_.1 (fun hs_=>Or.elim hs_ (fun hs_=>fun e_=>Nat.not_le.2 hs_ (zU HO603.out k_ e_.symm)) (fun hs_=>fun e_=>Nat.not_le.2 hs_ (zU HO603.out k_ e_.symm))) (fun hn_=>(Kd.fresh' (R_lt (by (with_reducible repeat (first|apply zP|apply zO|apply zQ));exact HO603.out)) k_ hn_)),Or.elim hk_.1 (fun hs_=>Or.elim hs_ (fun hs_=>fun e_=>Nat.not_le.2 hs_ (zU HO606.out k_ e_.symm)) (fun hs_=>fun e_=>Nat.not_le.2 hs_ (zU HO606.out k_ e_.symm))) (fun hn_=>(Kd.fresh' (R_lt (by (with_reducible repeat (first|apply zP|apply zO|apply zQ));exact HO606.out)) k_ hn_)),Or.elim hk_.1 (fun hs_=>Or.elim hs_ (fun hs_=>fun e_=>Nat.not_le.2 hs_ (zU HO609.out k_ e_.symm)) (fun hs_=>fun e_=>Nat.not_le.2 hs_ (zU HO609.out k_ e_.symm))) (fun hn_=>(Kd.fresh' (R_lt (by (with_reducible repeat (first|apply zP|apply zO|apply zQ));exact HO609.out)) k_ hn_)),Or.elim hk_.1 (fun hs_=>Or.elim hs_ (fun hs_=>fun e_=>Nat.not_le.2 hs_ (by rw [e_];exact GW574.out)) (fun hs_=>fun e_=>Nat.not_le.2 hs_ (by rw [e_];exact GW574.out))) (fun hn_=>(Kd.freshB (g:=gb574) (o:=.cells #[.slice A0_0 l0_0.length c0_0,.slice A0_1 l0_1.length c0_1,.slice A0_2 l0_2.length c0_2] 30 (0,0)) (by (with_reducible repeat (first|refine zC ?_ _|refine zF ?_|refine zB ?_ _));exact BK574.out) k_ hn_)),Or.elim hk_.1 (fun hs_=>Or.elim hs_ (fun hs_=>fun e_=>Nat.not_le.2 hs_ (by rw [e_];exact GW588.out)) (fun hs_=>fun e_=>Nat.not_le.2 hs_ (by rw [e_];exact GW588.out))) (fun hn_=>(Kd.freshB (g:=gb588) (o:=.cells #[.slice Ao35 t578.length co35,.slice Ao38 t581.length co38,.slice Ao39 t584.length co39] 30 (0,0)) (by (with_reducible repeat (first|refine zC ?_ _|refine zF ?_|refine zB ?_ _));exact BK588.out) k_ hn_)),Or.elim hk_.1 (fun hs_=>Or.elim hs_ (fun hs_=>fun e_=>Nat.not_le.2 hs_ (by rw [e_];exact GW599.out)) (fun hs_=>fun e_=>Nat.not_le.2 hs_ (by rw [e_];exact GW599.out))) (fun hn_=>(Kd.freshB (g:=gb599) (o:=.cells #[.slice Ao44 t589.length co44,.slice Ao48 t592.length co48,.slice Ao49 t595.length co49] 30 (0,0)) (by (with_reducible repeat (first|refine zC ?_ _|refine zF ?_|refine zB ?_ _));exact BK599.out) k_ hn_))⟩)) (zT (by repeat (first|(with_reducible first|exact HB.out|apply zG|apply zD|apply zH|refine zA ?_ GE574.out|refine zA ?_ GE588.out|refine zA ?_ GE599.out)|exact HB.out))))
        have n11_:=Zk (V_lower (zN (ok':=fun k_=>some k_≠(v611:Value).ownBlock∧some k_≠(v602:Value).ownBlock∧some k_≠(v605:Value).ownBlock∧some k_≠(v608:Value).ownBlock∧k_≠gb574∧k_≠gb588∧k_≠gb599) ho2 (fun k_ hk_=>⟨hk_.2,Or.elim hk_.1 (fun hs_=>Or.elim hs_ (fun hs_=>fun e_=>Nat.not_le.2 hs_ (zU HO603.out k_ e_.symm)) (fun hs_=>fun e_=>Nat.not_le.2 hs_ (zU HO603.out k_ e_.symm))) (fun hn_=>(Kd.fresh' (R_lt (by (with_reducible repeat (first|apply zP|apply zO|apply zQ));exact HO603.out)) k_ hn_)),Or.elim hk_.1 (fun hs_=>Or.elim hs_ (fun hs_=>fun e_=>Nat.not_le.2 hs_ (zU HO606.out k_ e_.symm)) (fun hs_=>fun e_=>Nat.not_le.2 hs_ (zU HO606.out k_ e_.symm))) (fun hn_=>(Kd.fresh' (R_lt (by (with_reducible repeat (first|apply zP|apply zO|apply zQ));exact HO606.out)) k_ hn_)),Or.elim hk_.1 (fun hs_=>Or.elim hs_ (fun hs_=>fun e_=>Nat.not_le.2 hs_ (zU HO609.out k_ e_.symm)) (fun hs_=>fun e_=>Nat.not_le.2 hs_ (zU HO609.out k_ e_.symm))) (fun hn_=>(Kd.fresh' (R_lt (by (with_reducible repeat (first|apply zP|apply zO|apply zQ));exact HO609.out)) k_ hn_)),Or.elim hk_.1 (fun hs_=>Or.elim hs_ (fun hs_=>fun e_=>Nat.not_le.2 hs_ (by rw [e_];exact GW574.out)) (fun hs_=>fun e_=>Nat.not_le.2 hs_ (by rw [e_];exact GW574.out))) (fun hn_=>(Kd.freshB (g:=gb574) (o:=.cells #[.slice A0_0 l0_0.length c0_0,.slice A0_1 l0_1.length c0_1,.slice A0_2 l0_2.length c0_2] 30 (0,0)) (by (with_reducible repeat (first|refine zC ?_ _|refine zF ?_|refine zB ?_ _));exact BK574.out) k_ hn_)),Or.elim hk_.1 (fun hs_=>Or.elim hs_ (fun hs_=>fun e_=>Nat.not_le.2 hs_ (by rw [e_];exact GW588.out)) (fun hs_=>fun e_=>Nat.not_le.2 hs_ (by rw [e_];exact GW588.out))) (fun hn_=>(Kd.freshB (g:=gb588) (o:=.cells #[.slice Ao35 t578.length co35,.slice Ao38 t581.length co38,.slice Ao39 t584.length co39] 30 (0,0)) (by (with_reducible repeat (first|refine zC ?_ _|refine zF ?_|refine zB ?_ _));exact BK588.out) k_ hn_)),Or.elim hk_.1 (fun hs_=>Or.elim hs_ (fun hs_=>fun e_=>Nat.not_le.2 hs_ (by rw [e_];exact GW599.out)) (fun hs_=>fun e_=>Nat.not_le.2 hs_ (by rw [e_];exact GW599.out))) (fun hn_=>(Kd.freshB (g:=gb599) (o:=.cells #[.slice Ao44 t589.length co44,.slice Ao48 t592.length co48,.slice Ao49 t595.length co49] 30 (0,0)) (by (with_reducible repeat (first|refine zC ?_ _|refine zF ?_|refine zB ?_ _));exact BK599.out) k_ hn_))⟩)) (zT (by repeat (first|(with_reducible first|exact HB.out|apply zG|apply zD|apply zH|refine zA ?_ GE574.out|refine zA ?_ GE588.out|refine zA ?_ GE599.out)|exact HB.out))))
        have n12_:=Zk (zX (g:=gb574) (o:=.cells #[.slice A0_0 l0_0.length c0_0,.slice A0_1 l0_1.length c0_1,.slice A0_2 l0_2.length c0_2] 30 (0,0)) (by (with_reducible repeat (first|refine zC ?_ _|refine zF ?_|refine zB ?_ _));exact BK574.out) hb)
        have n13_:=Zk (zX (g:=gb588) (o:=.cells #[.slice Ao35 t578.length co35,.slice Ao38 t581.length co38,.slice Ao39 t584.length co39] 30 (0,0)) (by (with_reducible repeat (first|refine zC ?_ _|refine zF ?_|refine zB ?_ _));exact BK588.out) hb)
        have n14_:=Zk (zX (g:=gb599) (o:=.cells #[.slice Ao44 t589.length co44,.slice Ao48 t592.length co48,.slice Ao49 t595.length co49] 30 (0,0)) (by (with_reducible repeat (first|refine zC ?_ _|refine zF ?_|refine zB ?_ _));exact BK599.out) hb)
        have n15_:=Zk (yB (by repeat (first|(with_reducible first|exact HB.out|apply zG|apply zD|apply zH|refine zA ?_ GE574.out|refine zA ?_ GE588.out|refine zA ?_ GE599.out)|exact HB.out)) hb)
        clear HO580
        clear HO583
        clear HO586
        clear HO591
        clear HO594
        clear HO597
        clear HO603
        clear HO606
        clear HO609
        clear BK574
        clear BK588
        clear BK599
        clear HB
        have HO580:=n0_
        have HO583:=n1_
        have HO586:=n2_
        have HO591:=n3_
        have HO594:=n4_
        have HO597:=n5_
        have HO603:=n6_
        have HO606:=n7_
        have HO609:=n8_
        have HO612:=n9_
        have HO615:=n10_
        have HO618:=n11_
        have BK574:=n12_
        have BK588:=n13_
        have BK599:=n14_
        have HB:=n15_
        clear n0_ n1_ n2_ n3_ n4_ n5_ n6_ n7_ n8_ n9_ n10_ n11_ n12_ n13_ n14_ n15_
        (try clear hb)
        (try clear hb2)
        (try clear hk)
        (try clear hi)
        (try clear ho0)
        (try clear ho1)
        (try clear ho2)
        obtain ⟨Ao55,co55,eo55⟩:=yO HO603.out
        (first|subst eo55|(injection eo55 with f1_ f2_ f3_;have f4_:=f1_.symm;have f5_:=f3_.symm;clear f1_ f2_ f3_;subst f4_;subst f5_))
        obtain ⟨Ao56,co56,eo56⟩:=yO HO606.out
        (first|subst eo56|(injection eo56 with f1_ f2_ f3_;have f4_:=f1_.symm;have f5_:=f3_.symm;clear f1_ f2_ f3_;subst f4_;subst f5_))
        obtain ⟨Ao57,co57,eo57⟩:=yO HO609.out
        (first|subst eo57|(injection eo57 with f1_ f2_ f3_;have f4_:=f1_.symm;have f5_:=f3_.symm;clear f1_ f2_ f3_;subst f4_;subst f5_))
        obtain ⟨Ao58,co58,eo58⟩:=yO HO612.out
        (first|subst eo58|(injection eo58 with f1_ f2_ f3_;have f4_:=f1_.symm;have f5_:=f3_.symm;clear f1_ f2_ f3_;subst f4_;subst f5_))
        obtain ⟨Ao59,co59,eo59⟩:=V_slice HO615.out
        (first|subst eo59|(injection eo59 with f1_ f2_ f3_;have f4_:=f1_.symm;have f5_:=f3_.symm;clear f1_ f2_ f3_;subst f4_;subst f5_))
        obtain ⟨Ao60,co60,eo60⟩:=V_slice HO618.out
        (first|subst eo60|(injection eo60 with f1_ f2_ f3_;have f4_:=f1_.symm;have f5_:=f3_.symm;clear f1_ f2_ f3_;subst f4_;subst f5_))
        refine hK.out _ _ ⟨(zI BK588.out 0).trans rfl,(zI BK588.out 1).trans rfl,(zI BK588.out 2).trans rfl,(zI BK599.out 0).trans rfl,(zI BK599.out 1).trans rfl,(zI BK599.out 2).trans rfl,(zI BK574.out 0).trans rfl,(zI BK574.out 1).trans rfl,(zI BK574.out 2).trans rfl⟩ (fun hHeld=>?_)
        clear hK K
        refine norm_ (a':=?_) ?_ ?_
        rotate_left
        ·show Act.put _ (some 46) _=_
         simp only [Act.put,List.setIfInBounds_toArray,List.set_cons_zero,List.set_cons_succ,yS,yU]
         rfl
        refine one_ (i:=13) (N:=some 47) #[true,true,true,true,true,true,true,true,true,true,true,true,true,true,false,false,false,false,false,false,false,false,false,false,false,false] rfl rfl (one_of HT_.out (by kernel_rfl)) (by decide) (fun K hK=>?_)
        refine goes_ Tryd.func21 (by kernel_rfl) rfl #[.agg #[.slice Ao55 t601.length co55,.slice Ao56 t604.length co56,.slice Ao57 t607.length co57],.agg #[.slice Ao58 t610.length co58,.slice Ao59 t613.length co59,.slice Ao60 t616.length co60]] (by rfl) rfl rfl (by (try simp only [List.map_toArray,List.map_cons,List.map_nil]);first|done|rfl|(simp only [List.length_drop,List.length_take];rfl)) ?_
        with_reducible refine (jobshellref25_Same.calls kj3 _ _ t601 _ _ t604 _ _ t607 _ _ t610 _ _ t613 _ _ t616 true _ ?side1 ?side2 ?side3 ?side4 ?side5 ?side6 ?side7 ?side8 ?side9 ?side10 ?side11 ?side12 A25.out).mono ?_
        (case side1=>repeat (first|exact (yP HO603.out).2.2|(with_reducible refine yG ?_ _)|(with_reducible refine yF ?_ _)|(with_reducible refine yK ?_)))
        (case side2=>exact (yP HO603.out).2.1)
        (case side3=>repeat (first|exact (yP HO606.out).2.2|(with_reducible refine yG ?_ _)|(with_reducible refine yF ?_ _)|(with_reducible refine yK ?_)))
        (case side4=>exact (yP HO606.out).2.1)
        (case side5=>repeat (first|exact (yP HO609.out).2.2|(with_reducible refine yG ?_ _)|(with_reducible refine yF ?_ _)|(with_reducible refine yK ?_)))
        (case side6=>exact (yP HO609.out).2.1)
        (case side7=>repeat (first|exact (yP HO612.out).2.2|(with_reducible refine yG ?_ _)|(with_reducible refine yF ?_ _)|(with_reducible refine yK ?_)))
        (case side8=>exact (yP HO612.out).2.1)
        (case side9=>repeat (first|exact (yJ HO615.out).2.2|(with_reducible refine yG ?_ _)|(with_reducible refine yF ?_ _)|(with_reducible refine yK ?_)))
        (case side10=>exact (yJ HO615.out).2.1)
        (case side11=>repeat (first|exact (yJ HO618.out).2.2|(with_reducible refine yG ?_ _)|(with_reducible refine yF ?_ _)|(with_reducible refine yK ?_)))
        (case side12=>exact (yJ HO618.out).2.1)
        rintro e w61 ⟨rfl,hb⟩
        refine ⟨_,rfl,?_⟩
        have n0_:=Zk (zZ (by (with_reducible repeat (first|apply zL|apply zK|apply zM));exact HO580.out) hb)
        have n1_:=Zk (zZ (by (with_reducible repeat (first|apply zL|apply zK|apply zM));exact HO583.out) hb)
        have n2_:=Zk (zZ (by (with_reducible repeat (first|apply zL|apply zK|apply zM));exact HO586.out) hb)
        have n3_:=Zk (zZ (by (with_reducible repeat (first|apply zL|apply zK|apply zM));exact HO591.out) hb)
        have n4_:=Zk (zZ (by (with_reducible repeat (first|apply zL|apply zK|apply zM));exact HO594.out) hb)
        have n5_:=Zk (zZ (by (with_reducible repeat (first|apply zL|apply zK|apply zM));exact HO597.out) hb)
        have n6_:=Zk (R_below (by (with_reducible repeat (first|apply zP|apply zO|apply zQ));exact HO603.out) hb)
        have n7_:=Zk (R_below (by (with_reducible repeat (first|apply zP|apply zO|apply zQ));exact HO606.out) hb)
        have n8_:=Zk (R_below (by (with_reducible repeat (first|apply zP|apply zO|apply zQ));exact HO609.out) hb)
        have n9_:=Zk (R_below (by (with_reducible repeat (first|apply zP|apply zO|apply zQ));exact HO612.out) hb)
        have n10_:=Zk (zZ (by (with_reducible repeat (first|apply zL|apply zK|apply zM));exact HO615.out) hb)
        have n11_:=Zk (zZ (by (with_reducible repeat (first|apply zL|apply zK|apply zM));exact HO618.out) hb)
        have n12_:=Zk (zX (g:=gb574) (o:=.cells #[.slice A0_0 l0_0.length c0_0,.slice A0_1 l0_1.length c0_1,.slice A0_2 l0_2.length c0_2] 30 (0,0)) (by (with_reducible repeat (first|refine zC ?_ _|refine zF ?_|refine zB ?_ _));exact BK574.out) hb)
        have n13_:=Zk (zX (g:=gb588) (o:=.cells #[.slice Ao35 t578.length co35,.slice Ao38 t581.length co38,.slice Ao39 t584.length co39] 30 (0,0)) (by (with_reducible repeat (first|refine zC ?_ _|refine zF ?_|refine zB ?_ _));exact BK588.out) hb)
        have n14_:=Zk (zX (g:=gb599) (o:=.cells #[.slice Ao44 t589.length co44,.slice Ao48 t592.length co48,.slice Ao49 t595.length co49] 30 (0,0)) (by (with_reducible repeat (first|refine zC ?_ _|refine zF ?_|refine zB ?_ _));exact BK599.out) hb)
        have n15_:=Zk (yB (by repeat (first|(with_reducible first|exact HB.out|apply zG|apply zD|apply zH|refine zA ?_ GE574.out|refine zA ?_ GE588.out|refine zA ?_ GE599.out)|exact HB.out)) hb)
        clear HO580
        clear HO583
        clear HO586
        clear HO591
        clear HO594
        clear HO597
        clear HO603
        clear HO606
        clear HO609
        clear HO612
        clear HO615
        clear HO618
        clear BK574
        clear BK588
        clear BK599
        clear HB
        have HO580:=n0_
        have HO583:=n1_
        have HO586:=n2_
        have HO591:=n3_
        have HO594:=n4_
        have HO597:=n5_
        have HO603:=n6_
        have HO606:=n7_
        have HO609:=n8_
        have HO612:=n9_
        have HO615:=n10_
        have HO618:=n11_
        have BK574:=n12_
        have BK588:=n13_
        have BK599:=n14_
        have HB:=n15_
        clear n0_ n1_ n2_ n3_ n4_ n5_ n6_ n7_ n8_ n9_ n10_ n11_ n12_ n13_ n14_ n15_
        (try clear hb)
        (try clear hb2)
        (try clear hk)
        (try clear hi)
        refine hK.out _ _ ⟨(zI BK588.out 0).trans rfl,(zI BK588.out 1).trans rfl,(zI BK588.out 2).trans rfl,(zI BK599.out 0).trans rfl,(zI BK599.out 1).trans rfl,(zI BK599.out 2).trans rfl,(zI BK574.out 0).trans rfl,(zI BK574.out 1).trans rfl,(zI BK574.out 2).trans rfl⟩ (fun hHeld=>?_)
        clear hK K
        refine norm_ (a':=?_) ?_ ?_
        rotate_left
        ·show Act.put _ (some 47) _=_
         simp only [Act.put,List.setIfInBounds_toArray,List.set_cons_zero,List.set_cons_succ,yS,yU]
         rfl
        refine pure_ (i:=14) (N:=some 48) (v:=?_) (a':=?_) #[true,true,true,true,true,true,true,true,true,true,true,true,true,true,true,false,false,false,false,false,false,false,false,false,false,false] rfl rfl (any_of HT_.out (by kernel_rfl)) (fun _ _ _ h=>h) (Or.inl ⟨by rfl,?_⟩) ?_ ?_
        rotate_left
        ·intro w'
         go_simp
         with_reducible rfl
        rotate_left
        ·simp only [Act.put,List.setIfInBounds_toArray,List.set_cons_zero,List.set_cons_succ,yS,yU]
         rfl
        refine pure_ (i:=15) (N:=some 49) (v:=?_) (a':=?_) #[true,true,true,true,true,true,true,true,true,true,true,true,true,true,true,true,false,false,false,false,false,false,false,false,false,false] rfl rfl (any_of HT_.out (by kernel_rfl)) (fun _ _ _ h=>h) (Or.inl ⟨by rfl,?_⟩) ?_ ?_
        rotate_left
        ·intro w'
         go_simp
         with_reducible rfl
        rotate_left
        ·simp only [Act.put,List.setIfInBounds_toArray,List.set_cons_zero,List.set_cons_succ,yS,yU]
         rfl
        refine take_ (i:=16) (N:=some 50) (v:=?_) (a':=?_) #[true,true,true,true,true,true,true,true,true,true,true,true,true,true,true,true,true,false,false,false,false,false,false,false,false,false] rfl rfl (take_ofW HT_.out HW_.out (by kernel_rfl)) (fun _ _ _ h=>h) (Or.inl ⟨by rfl,?_⟩) hHeld ?_ ?_
        rotate_left
        ·rintro w' ⟨s0,s1,s2,s3,s4,s5,s6,s7,s8⟩
         go_simp
         with_reducible rfl
        rotate_left
        ·simp only [Act.put,List.setIfInBounds_toArray,List.set_cons_zero,List.set_cons_succ,yS,yU]
         rfl
        refine take_ (i:=18) (N:=some 52) (v:=?_) (a':=?_) #[true,true,true,true,true,true,true,true,true,true,true,true,true,true,true,true,true,false,true,false,false,false,false,false,false,false] rfl rfl (take_ofW HT_.out HW_.out (by kernel_rfl)) (fun _ _ _ h=>h) (Or.inl ⟨by rfl,?_⟩) hHeld ?_ ?_
        rotate_left
        ·rintro w' ⟨s0,s1,s2,s3,s4,s5,s6,s7,s8⟩
         go_simp
         with_reducible rfl
        rotate_left
        ·simp only [Act.put,List.setIfInBounds_toArray,List.set_cons_zero,List.set_cons_succ,yS,yU]
         rfl
        refine one_ (i:=17) (N:=some 51) #[true,true,true,true,true,true,true,true,true,true,true,true,true,true,true,true,true,true,true,false,false,false,false,false,false,false] rfl rfl (one_of HT_.out (by kernel_rfl)) (by decide) (fun K hK=>?_)
        refine goes_ Tryd.func29 (by kernel_rfl) rfl #[.agg #[.slice A0_0 l0_0.length c0_0,.slice A0_1 l0_1.length c0_1,.slice A0_2 l0_2.length c0_2]] (by rfl) rfl rfl (by (try simp only [List.map_toArray,List.map_cons,List.map_nil]);first|done|rfl|(simp only [List.length_drop,List.length_take];rfl)) ?_
        with_reducible refine (signal_Exec.calls _ _ l0_0 _ _ l0_1 _ _ l0_2 t620 t623 t626 _ ?side1 ?side2 ?side3 ?side4 ?side5 ?side6 A27.out).mono ?_
        (case side1=>repeat (first|exact (yT HR0_0.out HB.out)|(with_reducible refine yG ?_ _)|(with_reducible refine yF ?_ _)|(with_reducible refine yK ?_)))
        (case side2=>exact HC0_0.out)
        (case side3=>repeat (first|exact (yT HR0_1.out HB.out)|(with_reducible refine yG ?_ _)|(with_reducible refine yF ?_ _)|(with_reducible refine yK ?_)))
        (case side4=>exact HC0_1.out)
        (case side5=>repeat (first|exact (yT HR0_2.out HB.out)|(with_reducible refine yG ?_ _)|(with_reducible refine yF ?_ _)|(with_reducible refine yK ?_)))
        (case side6=>exact HC0_2.out)
        rintro e w62 ⟨v621,v624,v627,rfl,ho0,ho1,ho2,hb⟩
        refine ⟨_,rfl,?_⟩
        have n0_:=Zk (zN (yM (yM (yM (V_old (by (with_reducible repeat (first|apply zL|apply zK|apply zM));exact HO580.out) hb) (zU ho0)) (zU ho1)) (zU ho2)) (fun _ h_=>h_.1))
        have n1_:=Zk (zN (yM (yM (yM (V_old (by (with_reducible repeat (first|apply zL|apply zK|apply zM));exact HO583.out) hb) (zU ho0)) (zU ho1)) (zU ho2)) (fun _ h_=>h_.1))
        have n2_:=Zk (zN (yM (yM (yM (V_old (by (with_reducible repeat (first|apply zL|apply zK|apply zM));exact HO586.out) hb) (zU ho0)) (zU ho1)) (zU ho2)) (fun _ h_=>h_.1))
        have n3_:=Zk (zN (yM (yM (yM (V_old (by (with_reducible repeat (first|apply zL|apply zK|apply zM));exact HO591.out) hb) (zU ho0)) (zU ho1)) (zU ho2)) (fun _ h_=>h_.1))
        have n4_:=Zk (zN (yM (yM (yM (V_old (by (with_reducible repeat (first|apply zL|apply zK|apply zM));exact HO594.out) hb) (zU ho0)) (zU ho1)) (zU ho2)) (fun _ h_=>h_.1))
        have n5_:=Zk (zN (yM (yM (yM (V_old (by (with_reducible repeat (first|apply zL|apply zK|apply zM));exact HO597.out) hb) (zU ho0)) (zU ho1)) (zU ho2)) (fun _ h_=>h_.1))
        have n6_:=Zk (zY (R_told (R_told (R_told (R_old (by (with_reducible repeat (first|apply zP|apply zO|apply zQ));exact HO603.out) hb) (zU ho0)) (zU ho1)) (zU ho2)) (fun _ h_=>h_.1))
        have n7_:=Zk (zY (R_told (R_told (R_told (R_old (by (with_reducible repeat (first|apply zP|apply zO|apply zQ));exact HO606.out) hb) (zU ho0)) (zU ho1)) (zU ho2)) (fun _ h_=>h_.1))
        have n8_:=Zk (zY (R_told (R_told (R_told (R_old (by (with_reducible repeat (first|apply zP|apply zO|apply zQ));exact HO609.out) hb) (zU ho0)) (zU ho1)) (zU ho2)) (fun _ h_=>h_.1))
        have n9_:=Zk (zY (R_told (R_told (R_told (R_old (by (with_reducible repeat (first|apply zP|apply zO|apply zQ));exact HO612.out) hb) (zU ho0)) (zU ho1)) (zU ho2)) (fun _ h_=>h_.1))
        have n10_:=Zk (zN (yM (yM (yM (V_old (by (with_reducible repeat (first|apply zL|apply zK|apply zM));exact HO615.out) hb) (zU ho0)) (zU ho1)) (zU ho2)) (fun _ h_=>h_.1))
        have n11_:=Zk (zN (yM (yM (yM (V_old (by (with_reducible repeat (first|apply zL|apply zK|apply zM));exact HO618.out) hb) (zU ho0)) (zU ho1)) (zU ho2)) (fun _ h_=>h_.1))
        have n12_:=Zk (yQ (yL (yL (yL (yL ho0 (R_lt (by (with_reducible repeat (first|apply zP|apply zO|apply zQ));exact HO603.out))) (R_lt (by (with_reducible repeat (first|apply zP|apply zO|apply zQ));exact HO606.out))) (R_lt (by (with_reducible repeat (first|apply zP|apply zO|apply zQ));exact HO609.out))) (R_lt (by (with_reducible repeat (first|apply zP|apply zO|apply zQ));exact HO612.out))) (zT (by repeat (first|(with_reducible first|exact HB.out|apply zG|apply zD|apply zH|refine zA ?_ GE574.out|refine zA ?_ GE588.out|refine zA ?_ GE599.out)|exact HB.out))))
        have n13_:=Zk (yQ (yL (yL (yL (yL ho1 (R_lt (by (with_reducible repeat (first|apply zP|apply zO|apply zQ));exact HO603.out))) (R_lt (by (with_reducible repeat (first|apply zP|apply zO|apply zQ));exact HO606.out))) (R_lt (by (with_reducible repeat (first|apply zP|apply zO|apply zQ));exact HO609.out))) (R_lt (by (with_reducible repeat (first|apply zP|apply zO|apply zQ));exact HO612.out))) (zT (by repeat (first|(with_reducible first|exact HB.out|apply zG|apply zD|apply zH|refine zA ?_ GE574.out|refine zA ?_ GE588.out|refine zA ?_ GE599.out)|exact HB.out))))
        have n14_:=Zk (yQ (yL (yL (yL (yL ho2 (R_lt (by (with_reducible repeat (first|apply zP|apply zO|apply zQ));exact HO603.out))) (R_lt (by (with_reducible repeat (first|apply zP|apply zO|apply zQ));exact HO606.out))) (R_lt (by (with_reducible repeat (first|apply zP|apply zO|apply zQ));exact HO609.out))) (R_lt (by (with_reducible repeat (first|apply zP|apply zO|apply zQ));exact HO612.out))) (zT (by repeat (first|(with_reducible first|exact HB.out|apply zG|apply zD|apply zH|refine zA ?_ GE574.out|refine zA ?_ GE588.out|refine zA ?_ GE599.out)|exact HB.out))))
        have n15_:=Zk (zX (g:=gb574) (o:=.cells #[.slice A0_0 l0_0.length c0_0,.slice A0_1 l0_1.length c0_1,.slice A0_2 l0_2.length c0_2] 30 (0,0)) (by (with_reducible repeat (first|refine zC ?_ _|refine zF ?_|refine zB ?_ _));exact BK574.out) hb)
        have n16_:=Zk (zX (g:=gb588) (o:=.cells #[.slice Ao35 t578.length co35,.slice Ao38 t581.length co38,.slice Ao39 t584.length co39] 30 (0,0)) (by (with_reducible repeat (first|refine zC ?_ _|refine zF ?_|refine zB ?_ _));exact BK588.out) hb)
        have n17_:=Zk (zX (g:=gb599) (o:=.cells #[.slice Ao44 t589.length co44,.slice Ao48 t592.length co48,.slice Ao49 t595.length co49] 30 (0,0)) (by (with_reducible repeat (first|refine zC ?_ _|refine zF ?_|refine zB ?_ _));exact BK599.out) hb)
        have n18_:=Zk (yB (by repeat (first|(with_reducible first|exact HB.out|apply zG|apply zD|apply zH|refine zA ?_ GE574.out|refine zA ?_ GE588.out|refine zA ?_ GE599.out)|exact HB.out)) hb)
        clear HO580
        clear HO583
        clear HO586
        clear HO591
        clear HO594
        clear HO597
        clear HO603
        clear HO606
        clear HO609
        clear HO612
        clear HO615
        clear HO618
        clear BK574
        clear BK588
        clear BK599
        clear HB
        have HO580:=n0_
        have HO583:=n1_
        have HO586:=n2_
        have HO591:=n3_
        have HO594:=n4_
        have HO597:=n5_
        have HO603:=n6_
        have HO606:=n7_
        have HO609:=n8_
        have HO612:=n9_
        have HO615:=n10_
        have HO618:=n11_
        have HO622:=n12_
        have HO625:=n13_
        have HO628:=n14_
        have BK574:=n15_
        have BK588:=n16_
        have BK599:=n17_
        have HB:=n18_
        clear n0_ n1_ n2_ n3_ n4_ n5_ n6_ n7_ n8_ n9_ n10_ n11_ n12_ n13_ n14_ n15_ n16_ n17_ n18_
        (try clear hb)
        (try clear hb2)
        (try clear hk)
        (try clear hi)
        (try clear ho0)
        (try clear ho1)
        (try clear ho2)
        refine hK.out _ _ ⟨(zI BK588.out 0).trans rfl,(zI BK588.out 1).trans rfl,(zI BK588.out 2).trans rfl,(zI BK599.out 0).trans rfl,(zI BK599.out 1).trans rfl,(zI BK599.out 2).trans rfl,(zI BK574.out 0).trans rfl,(zI BK574.out 1).trans rfl,(zI BK574.out 2).trans rfl⟩ (fun hHeld=>?_)
        clear hK K
        refine norm_ (a':=?_) ?_ ?_
        rotate_left
        ·show Act.put _ (some 51) _=_
         simp only [Act.put,List.setIfInBounds_toArray,List.set_cons_zero,List.set_cons_succ,yS,yU]
         rfl
        refine one_ (i:=19) (N:=some 53) #[true,true,true,true,true,true,true,true,true,true,true,true,true,true,true,true,true,true,true,true,false,false,false,false,false,false] rfl rfl (one_of HT_.out (by kernel_rfl)) (by decide) (fun K hK=>?_)
        refine goes_ Tryd.func30 (by kernel_rfl) rfl #[.agg #[.slice A0_0 l0_0.length c0_0,.slice A0_1 l0_1.length c0_1,.slice A0_2 l0_2.length c0_2]] (by rfl) rfl rfl (by (try simp only [List.map_toArray,List.map_cons,List.map_nil]);first|done|rfl|(simp only [List.length_drop,List.length_take];rfl)) ?_
        with_reducible refine (jobshellref25_Exec.calls (fun k_=>k_ < w.heap.size) _ _ l0_0 (fun k_=>k_ < w.heap.size) _ _ l0_1 _ _ l0_2 t629 t632 t635 _ ?side1 ?side2 ?side3 ?side4 A28.out).mono ?_
        (case side1=>exact V_mk HC0_0.out (Kd.F_below (C_F (Kd.heap_int .i64) HR0_0.out) (by repeat (first|(with_reducible first|exact HB.out|apply zG|apply zD|apply zH|refine zA ?_ GE574.out|refine zA ?_ GE588.out|refine zA ?_ GE599.out)|exact HB.out))))
        (case side2=>exact V_mk HC0_1.out (Kd.F_below (C_F (Kd.heap_int .i64) HR0_1.out) (by repeat (first|(with_reducible first|exact HB.out|apply zG|apply zD|apply zH|refine zA ?_ GE574.out|refine zA ?_ GE588.out|refine zA ?_ GE599.out)|exact HB.out))))
        (case side3=>repeat (first|exact (yT HR0_2.out HB.out)|(with_reducible refine yG ?_ _)|(with_reducible refine yF ?_ _)|(with_reducible refine yK ?_)))
        (case side4=>exact HC0_2.out)
        rintro e w63 ⟨v630,v633,v636,rfl,ho0,ho1,ho2,hb⟩
        refine ⟨_,rfl,?_⟩
        have n0_:=Zk (yC (by (with_reducible repeat (first|apply zL|apply zK|apply zM));exact HO580.out) (zU ho2) hb)
        have n1_:=Zk (yC (by (with_reducible repeat (first|apply zL|apply zK|apply zM));exact HO583.out) (zU ho2) hb)
        have n2_:=Zk (yC (by (with_reducible repeat (first|apply zL|apply zK|apply zM));exact HO586.out) (zU ho2) hb)
        have n3_:=Zk (yC (by (with_reducible repeat (first|apply zL|apply zK|apply zM));exact HO591.out) (zU ho2) hb)
        have n4_:=Zk (yC (by (with_reducible repeat (first|apply zL|apply zK|apply zM));exact HO594.out) (zU ho2) hb)
        have n5_:=Zk (yC (by (with_reducible repeat (first|apply zL|apply zK|apply zM));exact HO597.out) (zU ho2) hb)
        have n6_:=Zk (yH (by (with_reducible repeat (first|apply zP|apply zO|apply zQ));exact HO603.out) (zU ho2) hb)
        have n7_:=Zk (yH (by (with_reducible repeat (first|apply zP|apply zO|apply zQ));exact HO606.out) (zU ho2) hb)
        have n8_:=Zk (yH (by (with_reducible repeat (first|apply zP|apply zO|apply zQ));exact HO609.out) (zU ho2) hb)
        have n9_:=Zk (yH (by (with_reducible repeat (first|apply zP|apply zO|apply zQ));exact HO612.out) (zU ho2) hb)
        have n10_:=Zk (yC (by (with_reducible repeat (first|apply zL|apply zK|apply zM));exact HO615.out) (zU ho2) hb)
        have n11_:=Zk (yC (by (with_reducible repeat (first|apply zL|apply zK|apply zM));exact HO618.out) (zU ho2) hb)
        have n12_:=Zk (yH (by (with_reducible repeat (first|apply zP|apply zO|apply zQ));exact HO622.out) (zU ho2) hb)
        have n13_:=Zk (yH (by (with_reducible repeat (first|apply zP|apply zO|apply zQ));exact HO625.out) (zU ho2) hb)
        have n14_:=Zk (yH (by (with_reducible repeat (first|apply zP|apply zO|apply zQ));exact HO628.out) (zU ho2) hb)
        have n15_:=Zk (V_lower (zN (ok':=fun k_=>some k_≠(v636:Value).ownBlock∧some k_≠(.slice Ao55 t601.length co55:Value).ownBlock∧some k_≠(.slice Ao56 t604.length co56:Value).ownBlock∧some k_≠(.slice Ao57 t607.length co57:Value).ownBlock∧some k_≠(.slice Ao58 t610.length co58:Value).ownBlock∧some k_≠(v621:Value).ownBlock∧some k_≠(v624:Value).ownBlock∧some k_≠(v627:Value).ownBlock∧k_≠gb574∧k_≠gb588∧k_≠gb599) ho0 (fun k_ hk_=>⟨hk_.2,Or.elim hk_.1 (fun hs_=>Or.elim hs_ (fun hs_=>fun e_=>Nat.not_le.2 hs_ (zU HO603.out k_ e_.symm)) (fun hs_=>fun e_=>Nat.not_le.2 hs_ (zU HO603.out k_ e_.symm))) (fun hn_=>(Kd.fresh' (R_lt (by (with_reducible repeat (first|apply zP|apply zO|apply zQ));exact HO603.out)) k_ hn_)),Or.elim hk_.1 (fun hs_=>Or.elim hs_ (fun hs_=>fun e_=>Nat.not_le.2 hs_ (zU HO606.out k_ e_.symm)) (fun hs_=>fun e_=>Nat.not_le.2 hs_ (zU HO606.out k_ e_.symm))) (fun hn_=>(Kd.fresh' (R_lt (by (with_reducible repeat (first|apply zP|apply zO|apply zQ));exact HO606.out)) k_ hn_)),Or.elim hk_.1 (fun hs_=>Or.elim hs_ (fun hs_=>fun e_=>Nat.not_le.2 hs_ (zU HO609.out k_ e_.symm)) (fun hs_=>fun e_=>Nat.not_le.2 hs_ (zU HO609.out k_ e_.symm))) (fun hn_=>(Kd.fresh' (R_lt (by (with_reducible repeat (first|apply zP|apply zO|apply zQ));exact HO609.out)) k_ hn_)),Or.elim hk_.1 (fun hs_=>Or.elim hs_ (fun hs_=>fun e_=>Nat.not_le.2 hs_ (zU HO612.out k_ e_.symm)) (fun hs_=>fun e_=>Nat.not_le.2 hs_ (zU HO612.out k_ e_.symm))) (fun hn_=>(Kd.fresh' (R_lt (by (with_reducible repeat (first|apply zP|apply zO|apply zQ));exact HO612.out)) k_ hn_)),Or.elim hk_.1 (fun hs_=>Or.elim hs_ (fun hs_=>fun e_=>Nat.not_le.2 hs_ (zU HO622.out k_ e_.symm)) (fun hs_=>fun e_=>Nat.not_le.2 hs_ (zU HO622.out k_ e_.symm))) (fun hn_=>(Kd.fresh' (R_lt (by (with_reducible repeat (first|apply zP|apply zO|apply zQ));exact HO622.out)) k_ hn_)),Or.elim hk_.1 (fun hs_=>Or.elim hs_ (fun hs_=>fun e_=>Nat.not_le.2 hs_ (zU HO625.out k_ e_.symm)) (fun hs_=>fun e_=>Nat.not_le.2 hs_ (zU HO625.out k_ e_.symm))) (fun hn_=>(Kd.fresh' (R_lt (by (with_reducible repeat (first|apply zP|apply zO|apply zQ));exact HO625.out)) k_ hn_)),Or.elim hk_.1 (fun hs_=>Or.elim hs_ (fun hs_=>fun e_=>Nat.not_le.2 hs_ (zU HO628.out k_ e_.symm)) (fun hs_=>fun e_=>Nat.not_le.2 hs_ (zU HO628.out k_ e_.symm))) (fun hn_=>(Kd.fresh' (R_lt (by (with_reducible repeat (first|apply zP|apply zO|apply zQ));exact HO628.out)) k_ hn_)),Or.elim hk_.1 (fun hs_=>Or.elim hs_ (fun hs_=>fun e_=>Nat.not_le.2 hs_ (by rw [e_];exact GW574.out)) (fun hs_=>fun e_=>Nat.not_le.2 hs_ (by rw [e_];exact GW574.out))) (fun hn_=>(Kd.freshB (g:=gb574) (o:=.cells #[.slice A0_0 l0_0.length c0_0,.slice A0_1 l0_1.length c0_1,.slice A0_2 l0_2.length c0_2] 30 (0,0)) (by (with_reducible repeat (first|refine zC ?_ _|refine zF ?_|refine zB ?_ _));exact BK574.out) k_ hn_)),Or.elim hk_.1 (fun hs_=>Or.elim hs_ (fun hs_=>fun e_=>Nat.not_le.2 hs_ (by rw [e_];exact GW588.out)) (fun hs_=>fun e_=>Nat.not_le.2 hs_ (by rw [e_];exact GW588.out))) (fun hn_=>(Kd.freshB (g:=gb588) (o:=.cells #[.slice Ao35 t578.length co35,.slice Ao38 t581.length co38,.slice Ao39 t584.length co39] 30 (0,0)) (by (with_reducible repeat (first|refine zC ?_ _|refine zF ?_|refine zB ?_ _));exact BK588.out) k_ hn_)),Or.elim hk_.1 (fun hs_=>Or.elim hs_ (fun hs_=>fun e_=>Nat.not_le.2 hs_ (by rw [e_];exact GW599.out)) (fun hs_=>fun e_=>Nat.not_le.2 hs_ (by rw [e_];exact GW599.out))) (fun hn_=>(Kd.freshB (g:=gb599) (o:=.cells #[.slice Ao44 t589.length co44,.slice Ao48 t592.length co48,.slice Ao49 t595.length co49] 30 (0,0)) (by (with_reducible repeat (first|refine zC ?_ _|refine zF ?_|refine zB ?_ _));exact BK599.out) k_ hn_))⟩)) (zT (by repeat (first|(with_reducible first|exact HB.out|apply zG|apply zD|apply zH|refine zA ?_ GE574.out|refine zA ?_ GE588.out|refine zA ?_ GE599.out)|exact HB.out))))
        have n16_:=Zk (V_lower (zN (ok':=fun k_=>some k_≠(v636:Value).ownBlock∧some k_≠(.slice Ao55 t601.length co55:Value).ownBlock∧some k_≠(.slice Ao56 t604.length co56:Value).ownBlock∧some k_≠(.slice Ao57 t607.length co57:Value).ownBlock∧some k_≠(.slice Ao58 t610.length co58:Value).ownBlock∧some k_≠(v621:Value).ownBlock∧some k_≠(v624:Value).ownBlock∧some k_≠(v627:Value).ownBlock∧k_≠gb574∧k_≠gb588∧k_≠gb599) ho1 (fun k_ hk_=>⟨hk_.2,Or.elim hk_.1 (fun hs_=>Or.elim hs_ (fun hs_=>fun e_=>Nat.not_le.2 hs_ (zU HO603.out k_ e_.symm)) (fun hs_=>fun e_=>Nat.not_le.2 hs_ (zU HO603.out k_ e_.symm))) (fun hn_=>(Kd.fresh' (R_lt (by (with_reducible repeat (first|apply zP|apply zO|apply zQ));exact HO603.out)) k_ hn_)),Or.elim hk_.1 (fun hs_=>Or.elim hs_ (fun hs_=>fun e_=>Nat.not_le.2 hs_ (zU HO606.out k_ e_.symm)) (fun hs_=>fun e_=>Nat.not_le.2 hs_ (zU HO606.out k_ e_.symm))) (fun hn_=>(Kd.fresh' (R_lt (by (with_reducible repeat (first|apply zP|apply zO|apply zQ));exact HO606.out)) k_ hn_)),Or.elim hk_.1 (fun hs_=>Or.elim hs_ (fun hs_=>fun e_=>Nat.not_le.2 hs_ (zU HO609.out k_ e_.symm)) (fun hs_=>fun e_=>Nat.not_le.2 hs_ (zU HO609.out k_ e_.symm))) (fun hn_=>(Kd.fresh' (R_lt (by (with_reducible repeat (first|apply zP|apply zO|apply zQ));exact HO609.out)) k_ hn_)),Or.elim hk_.1 (fun hs_=>Or.elim hs_ (fun hs_=>fun e_=>Nat.not_le.2 hs_ (zU HO612.out k_ e_.symm)) (fun hs_=>fun e_=>Nat.not_le.2 hs_ (zU HO612.out k_ e_.symm))) (fun hn_=>(Kd.fresh' (R_lt (by (with_reducible repeat (first|apply zP|apply zO|apply zQ));exact HO612.out)) k_ hn_)),Or.elim hk_.1 (fun hs_=>Or.elim hs_ (fun hs_=>fun e_=>Nat.not_le.2 hs_ (zU HO622.out k_ e_.symm)) (fun hs_=>fun e_=>Nat.not_le.2 hs_ (zU HO622.out k_ e_.symm))) (fun hn_=>(Kd.fresh' (R_lt (by (with_reducible repeat (first|apply zP|apply zO|apply zQ));exact HO622.out)) k_ hn_)),Or.elim hk_.1 (fun hs_=>Or.elim hs_ (fun hs_=>fun e_=>Nat.not_le.2 hs_ (zU HO625.out k_ e_.symm)) (fun hs_=>fun e_=>Nat.not_le.2 hs_ (zU HO625.out k_ e_.symm))) (fun hn_=>(Kd.fresh' (R_lt (by (with_reducible repeat (first|apply zP|apply zO|apply zQ));exact HO625.out)) k_ hn_)),Or.elim hk_.1 (fun hs_=>Or.elim hs_ (fun hs_=>fun e_=>Nat.not_le.2 hs_ (zU HO628.out k_ e_.symm)) (fun hs_=>fun e_=>Nat.not_le.2 hs_ (zU HO628.out k_ e_.symm))) (fun hn_=>(Kd.fresh' (R_lt (by (with_reducible repeat (first|apply zP|apply zO|apply zQ));exact HO628.out)) k_ hn_)),Or.elim hk_.1 (fun hs_=>Or.elim hs_ (fun hs_=>fun e_=>Nat.not_le.2 hs_ (by rw [e_];exact GW574.out)) (fun hs_=>fun e_=>Nat.not_le.2 hs_ (by rw [e_];exact GW574.out))) (fun hn_=>(Kd.freshB (g:=gb574) (o:=.cells #[.slice A0_0 l0_0.length c0_0,.slice A0_1 l0_1.length c0_1,.slice A0_2 l0_2.length c0_2] 30 (0,0)) (by (with_reducible repeat (first|refine zC ?_ _|refine zF ?_|refine zB ?_ _));exact BK574.out) k_ hn_)),Or.elim hk_.1 (fun hs_=>Or.elim hs_ (fun hs_=>fun e_=>Nat.not_le.2 hs_ (by rw [e_];exact GW588.out)) (fun hs_=>fun e_=>Nat.not_le.2 hs_ (by rw [e_];exact GW588.out))) (fun hn_=>(Kd.freshB (g:=gb588) (o:=.cells #[.slice Ao35 t578.length co35,.slice Ao38 t581.length co38,.slice Ao39 t584.length co39] 30 (0,0)) (by (with_reducible repeat (first|refine zC ?_ _|refine zF ?_|refine zB ?_ _));exact BK588.out) k_ hn_)),Or.elim hk_.1 (fun hs_=>Or.elim hs_ (fun hs_=>fun e_=>Nat.not_le.2 hs_ (by rw [e_];exact GW599.out)) (fun hs_=>fun e_=>Nat.not_le.2 hs_ (by rw [e_];exact GW599.out))) (fun hn_=>(Kd.freshB (g:=gb599) (o:=.cells #[.slice Ao44 t589.length co44,.slice Ao48 t592.length co48,.slice Ao49 t595.length co49] 30 (0,0)) (by (with_reducible repeat (first|refine zC ?_ _|refine zF ?_|refine zB ?_ _));exact BK599.out) k_ hn_))⟩)) (zT (by repeat (first|(with_reducible first|exact HB.out|apply zG|apply zD|apply zH|refine zA ?_ GE574.out|refine zA ?_ GE588.out|refine zA ?_ GE599.out)|exact HB.out))))
        have n17_:=Zk (yQ (yL (yL (yL (yL (yL (yL (yL (zY (ok':=fun k_=>True) ho2 (fun _ hk_=>trivial)) (R_lt (by (with_reducible repeat (first|apply zP|apply zO|apply zQ));exact HO603.out))) (R_lt (by (with_reducible repeat (first|apply zP|apply zO|apply zQ));exact HO606.out))) (R_lt (by (with_reducible repeat (first|apply zP|apply zO|apply zQ));exact HO609.out))) (R_lt (by (with_reducible repeat (first|apply zP|apply zO|apply zQ));exact HO612.out))) (R_lt (by (with_reducible repeat (first|apply zP|apply zO|apply zQ));exact HO622.out))) (R_lt (by (with_reducible repeat (first|apply zP|apply zO|apply zQ));exact HO625.out))) (R_lt (by (with_reducible repeat (first|apply zP|apply zO|apply zQ));exact HO628.out))) (zT (by repeat (first|(with_reducible first|exact HB.out|apply zG|apply zD|apply zH|refine zA ?_ GE574.out|refine zA ?_ GE588.out|refine zA ?_ GE599.out)|exact HB.out))))
        have n18_:=Zk (zX (g:=gb574) (o:=.cells #[.slice A0_0 l0_0.length c0_0,.slice A0_1 l0_1.length c0_1,.slice A0_2 l0_2.length c0_2] 30 (0,0)) (by (with_reducible repeat (first|refine zC ?_ _|refine zF ?_|refine zB ?_ _));exact BK574.out) hb)
        have n19_:=Zk (zX (g:=gb588) (o:=.cells #[.slice Ao35 t578.length co35,.slice Ao38 t581.length co38,.slice Ao39 t584.length co39] 30 (0,0)) (by (with_reducible repeat (first|refine zC ?_ _|refine zF ?_|refine zB ?_ _));exact BK588.out) hb)
        have n20_:=Zk (zX (g:=gb599) (o:=.cells #[.slice Ao44 t589.length co44,.slice Ao48 t592.length co48,.slice Ao49 t595.length co49] 30 (0,0)) (by (with_reducible repeat (first|refine zC ?_ _|refine zF ?_|refine zB ?_ _));exact BK599.out) hb)
        have n21_:=Zk (yB (by repeat (first|(with_reducible first|exact HB.out|apply zG|apply zD|apply zH|refine zA ?_ GE574.out|refine zA ?_ GE588.out|refine zA ?_ GE599.out)|exact HB.out)) hb)
        clear HO580
        clear HO583
        clear HO586
        clear HO591
        clear HO594
        clear HO597
        clear HO603
        clear HO606
        clear HO609
        clear HO612
        clear HO615
        clear HO618
        clear HO622
        clear HO625
        clear HO628
        clear BK574
        clear BK588
        clear BK599
        clear HB
        have HO580:=n0_
        have HO583:=n1_
        have HO586:=n2_
        have HO591:=n3_
        have HO594:=n4_
        have HO597:=n5_
        have HO603:=n6_
        have HO606:=n7_
        have HO609:=n8_
        have HO612:=n9_
        have HO615:=n10_
        have HO618:=n11_
        have HO622:=n12_
        have HO625:=n13_
        have HO628:=n14_
        have HO631:=n15_
        have HO634:=n16_
        have HO637:=n17_
        have BK574:=n18_
        have BK588:=n19_
        have BK599:=n20_
        have HB:=n21_
        clear n0_ n1_ n2_ n3_ n4_ n5_ n6_ n7_ n8_ n9_ n10_ n11_ n12_ n13_ n14_ n15_ n16_ n17_ n18_ n19_ n20_ n21_
        (try clear hb)
        (try clear hb2)
        (try clear hk)
        (try clear hi)
        (try clear ho0)
        (try clear ho1)
        (try clear ho2)
        obtain ⟨Ao64,co64,eo64⟩:=yO HO622.out
        (first|subst eo64|(injection eo64 with f1_ f2_ f3_;have f4_:=f1_.symm;have f5_:=f3_.symm;clear f1_ f2_ f3_;subst f4_;subst f5_))
        obtain ⟨Ao65,co65,eo65⟩:=yO HO625.out
        (first|subst eo65|(injection eo65 with f1_ f2_ f3_;have f4_:=f1_.symm;have f5_:=f3_.symm;clear f1_ f2_ f3_;subst f4_;subst f5_))
        obtain ⟨Ao66,co66,eo66⟩:=yO HO628.out
        (first|subst eo66|(injection eo66 with f1_ f2_ f3_;have f4_:=f1_.symm;have f5_:=f3_.symm;clear f1_ f2_ f3_;subst f4_;subst f5_))
        obtain ⟨Ao67,co67,eo67⟩:=V_slice HO631.out
        (first|subst eo67|(injection eo67 with f1_ f2_ f3_;have f4_:=f1_.symm;have f5_:=f3_.symm;clear f1_ f2_ f3_;subst f4_;subst f5_))
        obtain ⟨Ao68,co68,eo68⟩:=V_slice HO634.out
        (first|subst eo68|(injection eo68 with f1_ f2_ f3_;have f4_:=f1_.symm;have f5_:=f3_.symm;clear f1_ f2_ f3_;subst f4_;subst f5_))
        obtain ⟨Ao69,co69,eo69⟩:=yO HO637.out
        (first|subst eo69|(injection eo69 with f1_ f2_ f3_;have f4_:=f1_.symm;have f5_:=f3_.symm;clear f1_ f2_ f3_;subst f4_;subst f5_))
        refine hK.out _ _ ⟨(zI BK588.out 0).trans rfl,(zI BK588.out 1).trans rfl,(zI BK588.out 2).trans rfl,(zI BK599.out 0).trans rfl,(zI BK599.out 1).trans rfl,(zI BK599.out 2).trans rfl,(zI BK574.out 0).trans rfl,(zI BK574.out 1).trans rfl,(zI BK574.out 2).trans rfl⟩ (fun hHeld=>?_)
        clear hK K
        refine norm_ (a':=?_) ?_ ?_
        rotate_left
        ·show Act.put _ (some 53) _=_
         simp only [Act.put,List.setIfInBounds_toArray,List.set_cons_zero,List.set_cons_succ,yS,yU]
         rfl
        refine one_ (i:=20) (N:=some 54) #[true,true,true,true,true,true,true,true,true,true,true,true,true,true,true,true,true,true,true,true,true,false,false,false,false,false] rfl rfl (one_of HT_.out (by kernel_rfl)) (by decide) (fun K hK=>?_)
        refine goes_ Tryd.func21 (by kernel_rfl) rfl #[.agg #[.slice Ao64 t620.length co64,.slice Ao65 t623.length co65,.slice Ao66 t626.length co66],.agg #[.slice Ao67 t629.length co67,.slice Ao68 t632.length co68,.slice Ao69 t635.length co69]] (by rfl) rfl rfl (by (try simp only [List.map_toArray,List.map_cons,List.map_nil]);first|done|rfl|(simp only [List.length_drop,List.length_take];rfl)) ?_
        with_reducible refine (jobshellref25_Same.calls kj3 _ _ t620 _ _ t623 _ _ t626 _ _ t629 _ _ t632 _ _ t635 true _ ?side1 ?side2 ?side3 ?side4 ?side5 ?side6 ?side7 ?side8 ?side9 ?side10 ?side11 ?side12 A29.out).mono ?_
        (case side1=>repeat (first|exact (yP HO622.out).2.2|(with_reducible refine yG ?_ _)|(with_reducible refine yF ?_ _)|(with_reducible refine yK ?_)))
        (case side2=>exact (yP HO622.out).2.1)
        (case side3=>repeat (first|exact (yP HO625.out).2.2|(with_reducible refine yG ?_ _)|(with_reducible refine yF ?_ _)|(with_reducible refine yK ?_)))
        (case side4=>exact (yP HO625.out).2.1)
        (case side5=>repeat (first|exact (yP HO628.out).2.2|(with_reducible refine yG ?_ _)|(with_reducible refine yF ?_ _)|(with_reducible refine yK ?_)))
        (case side6=>exact (yP HO628.out).2.1)
        (case side7=>repeat (first|exact (yJ HO631.out).2.2|(with_reducible refine yG ?_ _)|(with_reducible refine yF ?_ _)|(with_reducible refine yK ?_)))
        (case side8=>exact (yJ HO631.out).2.1)
        (case side9=>repeat (first|exact (yJ HO634.out).2.2|(with_reducible refine yG ?_ _)|(with_reducible refine yF ?_ _)|(with_reducible refine yK ?_)))
        (case side10=>exact (yJ HO634.out).2.1)
        (case side11=>repeat (first|exact (yP HO637.out).2.2|(with_reducible refine yG ?_ _)|(with_reducible refine yF ?_ _)|(with_reducible refine yK ?_)))
        (case side12=>exact (yP HO637.out).2.1)
        rintro e w70 ⟨rfl,hb⟩
        refine ⟨_,rfl,?_⟩
        have n0_:=Zk (zZ (by (with_reducible repeat (first|apply zL|apply zK|apply zM));exact HO580.out) hb)
        have n1_:=Zk (zZ (by (with_reducible repeat (first|apply zL|apply zK|apply zM));exact HO583.out) hb)
        have n2_:=Zk (zZ (by (with_reducible repeat (first|apply zL|apply zK|apply zM));exact HO586.out) hb)
        have n3_:=Zk (zZ (by (with_reducible repeat (first|apply zL|apply zK|apply zM));exact HO591.out) hb)
        have n4_:=Zk (zZ (by (with_reducible repeat (first|apply zL|apply zK|apply zM));exact HO594.out) hb)
        have n5_:=Zk (zZ (by (with_reducible repeat (first|apply zL|apply zK|apply zM));exact HO597.out) hb)
        have n6_:=Zk (R_below (by (with_reducible repeat (first|apply zP|apply zO|apply zQ));exact HO603.out) hb)
        have n7_:=Zk (R_below (by (with_reducible repeat (first|apply zP|apply zO|apply zQ));exact HO606.out) hb)
        have n8_:=Zk (R_below (by (with_reducible repeat (first|apply zP|apply zO|apply zQ));exact HO609.out) hb)
        have n9_:=Zk (R_below (by (with_reducible repeat (first|apply zP|apply zO|apply zQ));exact HO612.out) hb)
        have n10_:=Zk (zZ (by (with_reducible repeat (first|apply zL|apply zK|apply zM));exact HO615.out) hb)
        have n11_:=Zk (zZ (by (with_reducible repeat (first|apply zL|apply zK|apply zM));exact HO618.out) hb)
        have n12_:=Zk (R_below (by (with_reducible repeat (first|apply zP|apply zO|apply zQ));exact HO622.out) hb)
        have n13_:=Zk (R_below (by (with_reducible repeat (first|apply zP|apply zO|apply zQ));exact HO625.out) hb)
        have n14_:=Zk (R_below (by (with_reducible repeat (first|apply zP|apply zO|apply zQ));exact HO628.out) hb)
        have n15_:=Zk (zZ (by (with_reducible repeat (first|apply zL|apply zK|apply zM));exact HO631.out) hb)
        have n16_:=Zk (zZ (by (with_reducible repeat (first|apply zL|apply zK|apply zM));exact HO634.out) hb)
        have n17_:=Zk (R_below (by (with_reducible repeat (first|apply zP|apply zO|apply zQ));exact HO637.out) hb)
        have n18_:=Zk (zX (g:=gb574) (o:=.cells #[.slice A0_0 l0_0.length c0_0,.slice A0_1 l0_1.length c0_1,.slice A0_2 l0_2.length c0_2] 30 (0,0)) (by (with_reducible repeat (first|refine zC ?_ _|refine zF ?_|refine zB ?_ _));exact BK574.out) hb)
        have n19_:=Zk (zX (g:=gb588) (o:=.cells #[.slice Ao35 t578.length co35,.slice Ao38 t581.length co38,.slice Ao39 t584.length co39] 30 (0,0)) (by (with_reducible repeat (first|refine zC ?_ _|refine zF ?_|refine zB ?_ _));exact BK588.out) hb)
        have n20_:=Zk (zX (g:=gb599) (o:=.cells #[.slice Ao44 t589.length co44,.slice Ao48 t592.length co48,.slice Ao49 t595.length co49] 30 (0,0)) (by (with_reducible repeat (first|refine zC ?_ _|refine zF ?_|refine zB ?_ _));exact BK599.out) hb)
        have n21_:=Zk (yB (by repeat (first|(with_reducible first|exact HB.out|apply zG|apply zD|apply zH|refine zA ?_ GE574.out|refine zA ?_ GE588.out|refine zA ?_ GE599.out)|exact HB.out)) hb)
        clear HO580
        clear HO583
        clear HO586
        clear HO591
        clear HO594
        clear HO597
        clear HO603
        clear HO606
        clear HO609
        clear HO612
        clear HO615
        clear HO618
        clear HO622
        clear HO625
        clear HO628
        clear HO631
        clear HO634
        clear HO637
        clear BK574
        clear BK588
        clear BK599
        clear HB
        have HO580:=n0_
        have HO583:=n1_
        have HO586:=n2_
        have HO591:=n3_
        have HO594:=n4_
        have HO597:=n5_
        have HO603:=n6_
        have HO606:=n7_
        have HO609:=n8_
        have HO612:=n9_
        have HO615:=n10_
        have HO618:=n11_
        have HO622:=n12_
        have HO625:=n13_
        have HO628:=n14_
        have HO631:=n15_
        have HO634:=n16_
        have HO637:=n17_
        have BK574:=n18_
        have BK588:=n19_
        have BK599:=n20_
        have HB:=n21_
        clear n0_ n1_ n2_ n3_ n4_ n5_ n6_ n7_ n8_ n9_ n10_ n11_ n12_ n13_ n14_ n15_ n16_ n17_ n18_ n19_ n20_ n21_
        (try clear hb)
        (try clear hb2)
        (try clear hk)
        (try clear hi)
        refine hK.out _ _ ⟨(zI BK588.out 0).trans rfl,(zI BK588.out 1).trans rfl,(zI BK588.out 2).trans rfl,(zI BK599.out 0).trans rfl,(zI BK599.out 1).trans rfl,(zI BK599.out 2).trans rfl,(zI BK574.out 0).trans rfl,(zI BK574.out 1).trans rfl,(zI BK574.out 2).trans rfl⟩ (fun hHeld=>?_)
        clear hK K
        refine norm_ (a':=?_) ?_ ?_
        rotate_left
        ·show Act.put _ (some 54) _=_
         simp only [Act.put,List.setIfInBounds_toArray,List.set_cons_zero,List.set_cons_succ,yS,yU]
         rfl
        refine pure_ (i:=21) (N:=some 55) (v:=?_) (a':=?_) #[true,true,true,true,true,true,true,true,true,true,true,true,true,true,true,true,true,true,true,true,true,true,false,false,false,false] rfl rfl (any_of HT_.out (by kernel_rfl)) (fun _ _ _ h=>h) (Or.inl ⟨by rfl,?_⟩) ?_ ?_
        rotate_left
        ·intro w'
         go_simp
         with_reducible rfl
        rotate_left
        ·simp only [Act.put,List.setIfInBounds_toArray,List.set_cons_zero,List.set_cons_succ,yS,yU]
         rfl
        refine pure_ (i:=22) (N:=some 56) (v:=?_) (a':=?_) #[true,true,true,true,true,true,true,true,true,true,true,true,true,true,true,true,true,true,true,true,true,true,true,false,false,false] rfl rfl (any_of HT_.out (by kernel_rfl)) (fun _ _ _ h=>h) (Or.inl ⟨by rfl,?_⟩) ?_ ?_
        rotate_left
        ·intro w'
         go_simp
         with_reducible rfl
        rotate_left
        ·simp only [Act.put,List.setIfInBounds_toArray,List.set_cons_zero,List.set_cons_succ,yS,yU]
         rfl
        refine one_ (i:=23) (N:=some 57) #[true,true,true,true,true,true,true,true,true,true,true,true,true,true,true,true,true,true,true,true,true,true,true,true,false,false] rfl rfl (one_of HT_.out (by kernel_rfl)) (by decide) (fun K hK=>?_)
        refine goes_ Tryd.func10 (by kernel_rfl) rfl #[] (by rfl) rfl rfl (by (try simp only [List.map_toArray,List.map_cons,List.map_nil]);first|done|rfl|(simp only [List.length_drop,List.length_take];rfl)) ?_
        with_reducible refine (jobshelllaw25_awake.calls kj3  t639 _ A31.out).mono ?_
        rintro e w71 ⟨rfl,hb⟩
        refine ⟨_,rfl,?_⟩
        have n0_:=Zk (zZ (by (with_reducible repeat (first|apply zL|apply zK|apply zM));exact HO580.out) hb)
        have n1_:=Zk (zZ (by (with_reducible repeat (first|apply zL|apply zK|apply zM));exact HO583.out) hb)
        have n2_:=Zk (zZ (by (with_reducible repeat (first|apply zL|apply zK|apply zM));exact HO586.out) hb)
        have n3_:=Zk (zZ (by (with_reducible repeat (first|apply zL|apply zK|apply zM));exact HO591.out) hb)
        have n4_:=Zk (zZ (by (with_reducible repeat (first|apply zL|apply zK|apply zM));exact HO594.out) hb)
        have n5_:=Zk (zZ (by (with_reducible repeat (first|apply zL|apply zK|apply zM));exact HO597.out) hb)
        have n6_:=Zk (R_below (by (with_reducible repeat (first|apply zP|apply zO|apply zQ));exact HO603.out) hb)
        have n7_:=Zk (R_below (by (with_reducible repeat (first|apply zP|apply zO|apply zQ));exact HO606.out) hb)
        have n8_:=Zk (R_below (by (with_reducible repeat (first|apply zP|apply zO|apply zQ));exact HO609.out) hb)
        have n9_:=Zk (R_below (by (with_reducible repeat (first|apply zP|apply zO|apply zQ));exact HO612.out) hb)
        have n10_:=Zk (zZ (by (with_reducible repeat (first|apply zL|apply zK|apply zM));exact HO615.out) hb)
        have n11_:=Zk (zZ (by (with_reducible repeat (first|apply zL|apply zK|apply zM));exact HO618.out) hb)
        have n12_:=Zk (R_below (by (with_reducible repeat (first|apply zP|apply zO|apply zQ));exact HO622.out) hb)
        have n13_:=Zk (R_below (by (with_reducible repeat (first|apply zP|apply zO|apply zQ));exact HO625.out) hb)
        have n14_:=Zk (R_below (by (with_reducible repeat (first|apply zP|apply zO|apply zQ));exact HO628.out) hb)
        have n15_:=Zk (zZ (by (with_reducible repeat (first|apply zL|apply zK|apply zM));exact HO631.out) hb)
        have n16_:=Zk (zZ (by (with_reducible repeat (first|apply zL|apply zK|apply zM));exact HO634.out) hb)
        have n17_:=Zk (R_below (by (with_reducible repeat (first|apply zP|apply zO|apply zQ));exact HO637.out) hb)
        have n18_:=Zk (zX (g:=gb574) (o:=.cells #[.slice A0_0 l0_0.length c0_0,.slice A0_1 l0_1.length c0_1,.slice A0_2 l0_2.length c0_2] 30 (0,0)) (by (with_reducible repeat (first|refine zC ?_ _|refine zF ?_|refine zB ?_ _));exact BK574.out) hb)
        have n19_:=Zk (zX (g:=gb588) (o:=.cells #[.slice Ao35 t578.length co35,.slice Ao38 t581.length co38,.slice Ao39 t584.length co39] 30 (0,0)) (by (with_reducible repeat (first|refine zC ?_ _|refine zF ?_|refine zB ?_ _));exact BK588.out) hb)
        have n20_:=Zk (zX (g:=gb599) (o:=.cells #[.slice Ao44 t589.length co44,.slice Ao48 t592.length co48,.slice Ao49 t595.length co49] 30 (0,0)) (by (with_reducible repeat (first|refine zC ?_ _|refine zF ?_|refine zB ?_ _));exact BK599.out) hb)
        have n21_:=Zk (yB (by repeat (first|(with_reducible first|exact HB.out|apply zG|apply zD|apply zH|refine zA ?_ GE574.out|refine zA ?_ GE588.out|refine zA ?_ GE599.out)|exact HB.out)) hb)
        clear HO580
        clear HO583
        clear HO586
        clear HO591
        clear HO594
        clear HO597
        clear HO603
        clear HO606
        clear HO609
        clear HO612
        clear HO615
        clear HO618
        clear HO622
        clear HO625
        clear HO628
        clear HO631
        clear HO634
        clear HO637
        clear BK574
        clear BK588
        clear BK599
        clear HB
        have HO580:=n0_
        have HO583:=n1_
        have HO586:=n2_
        have HO591:=n3_
        have HO594:=n4_
        have HO597:=n5_
        have HO603:=n6_
        have HO606:=n7_
        have HO609:=n8_
        have HO612:=n9_
        have HO615:=n10_
        have HO618:=n11_
        have HO622:=n12_
        have HO625:=n13_
        have HO628:=n14_
        have HO631:=n15_
        have HO634:=n16_
        have HO637:=n17_
        have BK574:=n18_
        have BK588:=n19_
        have BK599:=n20_
        have HB:=n21_
        clear n0_ n1_ n2_ n3_ n4_ n5_ n6_ n7_ n8_ n9_ n10_ n11_ n12_ n13_ n14_ n15_ n16_ n17_ n18_ n19_ n20_ n21_
        (try clear hb)
        (try clear hb2)
        (try clear hk)
        (try clear hi)
        refine hK.out _ _ ⟨(zI BK588.out 0).trans rfl,(zI BK588.out 1).trans rfl,(zI BK588.out 2).trans rfl,(zI BK599.out 0).trans rfl,(zI BK599.out 1).trans rfl,(zI BK599.out 2).trans rfl,(zI BK574.out 0).trans rfl,(zI BK574.out 1).trans rfl,(zI BK574.out 2).trans rfl⟩ (fun hHeld=>?_)
        clear hK K
        refine norm_ (a':=?_) ?_ ?_
        rotate_left
        ·show Act.put _ (some 57) _=_
         simp only [Act.put,List.setIfInBounds_toArray,List.set_cons_zero,List.set_cons_succ,yS,yU]
         rfl
        refine pure_ (i:=24) (N:=some 58) (v:=?_) (a':=?_) #[true,true,true,true,true,true,true,true,true,true,true,true,true,true,true,true,true,true,true,true,true,true,true,true,true,false] rfl rfl (any_of HT_.out (by kernel_rfl)) (fun _ _ _ h=>h) (Or.inl ⟨by rfl,?_⟩) ?_ ?_
        rotate_left
        ·intro w'
         go_simp
         with_reducible rfl
        rotate_left
        ·simp only [Act.put,List.setIfInBounds_toArray,List.set_cons_zero,List.set_cons_succ,yS,yU]
         rfl
        refine pure_ (i:=25) (N:=some 6) (v:=?_) (a':=?_) #[true,true,true,true,true,true,true,true,true,true,true,true,true,true,true,true,true,true,true,true,true,true,true,true,true,true] rfl rfl (any_of HT_.out (by kernel_rfl)) (fun _ _ _ h=>h) (Or.inl ⟨by rfl,?_⟩) ?_ ?_
        rotate_left
        ·intro w'
         go_simp
         with_reducible rfl
        rotate_left
        ·simp only [Act.put,List.setIfInBounds_toArray,List.set_cons_zero,List.set_cons_succ,yS,yU]
         rfl
        refine done_ (done_of HT_.out (by kernel_rfl)) ?_
        try go_wp2
        go_ret
        exact ⟨by first|rfl|(simp [errW_none,errW_some] <;> rfl)|(simp [*,errW_none,errW_some] <;> rfl),by repeat (first|(with_reducible first|exact HB.out|apply zG|apply zD|apply zH|refine zA ?_ GE574.out|refine zA ?_ GE588.out|refine zA ?_ GE599.out)|exact HB.out)⟩
       ·replace c30:=Bool.eq_false_iff.mpr c30
        subst c30
        have H1:(none)=some r:=by rw [if_neg (show ¬ (false=true) by decide)] at H;exact H
        clear H
        have H:=H1
        clear H1
        exact absurd H (by simp)
      ·replace c26:=Bool.eq_false_iff.mpr c26
       subst c26
       have H1:(none)=some r:=by rw [if_neg (show ¬ (false=true) by decide)] at H;exact H
       clear H
       have H:=H1
       clear H1
       exact absurd H (by simp)
     ·rw [if_neg c22] at H
      exact absurd H (by simp)
    ·replace c21:=Bool.eq_false_iff.mpr c21
     subst c21
     have H1:(none)=some r:=by rw [if_neg (show ¬ (false=true) by decide)] at H;exact H
     clear H
     have H:=H1
     clear H1
     exact absurd H (by simp)
end Go.Proofs.YtnkkdpjipfjdaaaDoor.Q
end
section

namespace Go.Proofs.YtnkkdpjipfjdaaaDoor.StSignalSets
open Go.RowKit Go.Proofs.YtnkkdpjipfjdaaaDoor.Q Go.Proofs.YtnkkdpjipfjdaaaDoorW.PrintWords Go.Proofs.YtnkkdpjipfjdaaaDoorW.PrintLast
def Pure:Prop:=∀ (l0_0:List Int) (l0_1:List Int) (l0_2:List Int) (a1:Int) (a2:Int),l0_0.length≤maxLen→l0_0.length * 8≤140737488351232→(∀ x ∈ l0_0,(Lit.int .i64 x).wf=true)→l0_1.length≤maxLen→l0_1.length * 8≤140737488351232→(∀ x ∈ l0_1,(Lit.int .i64 x).wf=true)→l0_2.length≤maxLen→l0_2.length * 8≤140737488351232→(∀ x ∈ l0_2,(Lit.int .i64 x).wf=true)→(Lit.int .i64 a1).wf=true→(Lit.int .i64 a2).wf=true→∃ k,jobshelllaw25_SignalSets.f k l0_0 l0_1 l0_2 a1 a2=some true
end Go.Proofs.YtnkkdpjipfjdaaaDoor.StSignalSets

end
section

namespace Go.Proofs.YtnkkdpjipfjdaaaDoor.Q
open Go.RowKit Go.Proofs.YtnkkdpjipfjdaaaDoorW.PrintWords Go.Proofs.YtnkkdpjipfjdaaaDoorW.PrintLast Go.Proofs.YtnkkdpjipfjdaaaDoorW.PrintMore Go.Proofs.YtnkkdpjipfjdaaaDoorM
open Kd
attribute [local go_sem] max2_int min2_int max_two min_two max_three min_three max_four min_four
set_option linter.unusedVariables false
set_option linter.unusedSimpArgs false
def signal_ascending.l0:Nat→List Int→List Int→Int→Int→Option (Bool)
 |0,_,_,_,_=>none
 |k + 1,x0,x5,x6,x7=>if x7 < x6 then (if 0≤x7 then (if x7 < (x5.length:Int) then ((signal_Name.f (rd x5 x7)).bind fun t641=>(if t641.toList=([]:List UInt8) then (some false) else (if x7 > 0 then (if 0≤(wrap64 (x7 - 1)) then (if (wrap64 (x7 - 1)) < (x0.length:Int) then (if (rd x5 x7)≤(rd x0 (wrap64 (x7 - 1))) then (some false) else (signal_ascending.l0 k x0 x5 x6 (wrap64 (x7 + 1)))) else (none)) else (none)) else (signal_ascending.l0 k x0 x5 x6 (wrap64 (x7 + 1)))))) else (none)) else (none)) else (some true)
def signal_ascending.f (k:Nat) (l0:List Int):Option (Bool):=signal_ascending.l0 k l0 l0 (l0.length:Int) 0
theorem signal_ascending.mono_l:∀ k,(∀ y0 y1 y2 y3,LeO (signal_ascending.l0 k y0 y1 y2 y3) (signal_ascending.l0 (k + 1) y0 y1 y2 y3))
 |0=>fun _ _ _ _ r h=>by simp [signal_ascending.l0] at h
 |k + 1=>by
  have ih0:=signal_ascending.mono_l k
  ·intro y0 y1 y2 y3
   unfold signal_ascending.l0
   repeat' first
   |(with_reducible exact ih0 _ _ _ _)
   |(with_reducible exact LeO.refl _)
   |(with_reducible exact LeO.none _)
   |(with_reducible refine LeO.ite ?_ ?_)
   |(with_reducible refine LeO.bind ?_ (fun _=>?_))
   |exact ih0 _ _ _ _
   |exact LeO.none _
   |refine LeO.ite ?_ ?_
   |refine LeO.bind ?_ (fun _=>?_)
theorem signal_ascending.mono:∀ a0 k,LeO (signal_ascending.f k a0) (signal_ascending.f (k + 1) a0):=by
 intro a0 k
 have ih0:=signal_ascending.mono_l k
 unfold signal_ascending.f
 repeat' first
   |(with_reducible exact ih0 _ _ _ _)
   |(with_reducible exact LeO.refl _)
   |(with_reducible exact LeO.none _)
   |(with_reducible refine LeO.ite ?_ ?_)
   |(with_reducible refine LeO.bind ?_ (fun _=>?_))
   |exact ih0 _ _ _ _
   |exact LeO.none _
   |refine LeO.ite ?_ ?_
   |refine LeO.bind ?_ (fun _=>?_)
set_option maxHeartbeats 8000000 in
set_option maxRecDepth 10000000 in
theorem signal_ascending.calls (k:Nat) (A0:Option Addr) (c0:Nat) (l0:List Int) (r:Bool) (w:World) (hr0:Kd.C (Kd.int .i64) w A0 l0.length l0) (hc0:l0.length≤c0) (h:signal_ascending.f k l0=some r) :
  Calls Tryd.prog 49 #[.slice A0 l0.length c0] w fun e w'=>e=.returned (.bool r)∧Below w.heap.size w w':=by
 have HR0:=Zk hr0
 have HC0:=Zk hc0
 clear hr0 hc0
 have HB:=Zk (Below.refl w.heap.size w)
 have H:(signal_ascending.l0 k l0 l0 (l0.length:Int) 0)=some r:=h
 clear h
 have H':=Zk H
 clear H
 go_enter Tryd.func49,Tryd.ntmps49
 go_wp2
 go_loopg [7] k (fun kq v7 w'=>∃ (x7_1:Int),v7=.int .i64 x7_1∧zR (signal_ascending.l0 kq l0 l0 (l0.length:Int) x7_1=some r)∧zR (kq≤k)∧zR (Below w.heap.size w w'))
 case atStart=>exact ⟨(0),(by first|rfl|(simp;done)|(simp [*];done)|(generalize ByteArray.toList _=l_;cases l_ <;> rfl)),H',⟨Nat.le_refl _⟩,⟨by repeat (first|(with_reducible first|exact HB.out|apply zG|apply zD|apply zH)|exact HB.out)⟩⟩
 case round=>
  clear H'
  obtain ⟨x7_1,rfl,HA,HK1,HB⟩:=hrel
  cases gk with
  |zero=>exact absurd HA.out (by simp [signal_ascending.l0])
  |succ k1=>
   have H:=HA.out
   clear HA
   simp only [signal_ascending.l0] at H
   by_cases c2:x7_1 < (l0.length:Int)
   ·rw [if_pos c2] at H
    have c2b0:decide (x7_1 < (l0.length:Int))=true:=decide_eq_true c2
    clear c2
    by_cases c3:0≤x7_1
    ·rw [if_pos c3] at H
     have c3b0:decide (0≤x7_1)=true:=decide_eq_true c3
     clear c3
     by_cases c4:x7_1 < (l0.length:Int)
     ·rw [if_pos c4] at H
      have c4b0:decide (x7_1 < (l0.length:Int))=true:=decide_eq_true c4
      clear c4
      replace H:=Option.bind_eq_some_iff.mp H
      obtain ⟨t641,A50,H⟩:=H
      replace H:(if t641.toList=([]:List UInt8) then (some false) else (if x7_1 > 0 then (if 0≤(wrap64 (x7_1 - 1)) then (if (wrap64 (x7_1 - 1)) < (l0.length:Int) then (if (rd l0 x7_1)≤(rd l0 (wrap64 (x7_1 - 1))) then (some false) else (signal_ascending.l0 k1 l0 l0 (l0.length:Int) (wrap64 (x7_1 + 1)))) else (none)) else (none)) else (signal_ascending.l0 k1 l0 l0 (l0.length:Int) (wrap64 (x7_1 + 1)))))=some r:=H
      have A5:=Zk A50
      clear A50
      by_cases c6:t641.toList=([]:List UInt8)
      ·rw [if_pos c6] at H
       have c6b0:(t641.toList == ([]:List UInt8))=true:=beq_iff_eq.mpr c6
       have c6b1:(t641.toList != ([]:List UInt8))=false:=bne_eq_false_iff_eq.mpr c6
       clear c6
       obtain rfl:=Option.some.inj H
       have p640:0≤(x7_1:Int):=of_decide_eq_true (by first|(with_reducible assumption)|assumption)
       have q640:x7_1 < (l0.length:Int):=of_decide_eq_true (by first|(with_reducible assumption)|assumption)
       obtain ⟨ad640,e640,hx640_0⟩:=Kd.at_int HR0.out x7_1 p640 q640
       cases e640
       replace hx640_0:=(HB.out.cell (World.block_lt_of_cell? w _ hx640_0)).trans hx640_0
       replace p640:=eq_true p640
       replace q640:=eq_true q640
       go_wp2_with (first|((with_reducible refine yE (f:=13) rfl ?_);refine yN (some 13) rfl rfl Tryd.func13 (by kernel_rfl) rfl #[.int .i64 (rd l0 x7_1)] rfl (by (try simp only [List.map_toArray,List.map_cons,List.map_nil]);first|done|rfl|(simp only [List.length_drop,List.length_take];rfl)) ?_;(with_reducible refine (signal_Name.calls (rd l0 x7_1) t641 _ A5.out).mono ?_);rintro e w7 ⟨rfl,hb⟩;refine ⟨_,rfl,?_⟩;have n0_:=Zk (yB (by repeat (first|(with_reducible first|exact HB.out|apply zG|apply zD|apply zH)|exact HB.out)) hb);clear HB;have HB:=n0_;clear n0_;(try clear hb);(try clear hb2);(try clear hk);(try clear hi)))
       go_ret
       exact ⟨by first|rfl|(simp [errW_none,errW_some] <;> rfl)|(simp [*,errW_none,errW_some] <;> rfl),by repeat (first|(with_reducible first|exact HB.out|apply zG|apply zD|apply zH)|exact HB.out)⟩
      ·rw [if_neg c6] at H
       have c6b0:(t641.toList == ([]:List UInt8))=false:=beq_eq_false_iff_ne.mpr c6
       have c6b1:(t641.toList != ([]:List UInt8))=true:=bne_iff_ne.mpr c6
       by_cases c8:x7_1 > 0
       ·rw [if_pos c8] at H
        have c8b0:decide (0 < x7_1)=true:=decide_eq_true c8
        clear c8
        obtain ⟨ji9,hji9⟩:∃ j_:Int,(wrap64 (x7_1 - 1))=j_:=⟨_,rfl⟩
        replace H:(if 0≤(ji9) then (if (ji9) < (l0.length:Int) then (if (rd l0 x7_1)≤(rd l0 (ji9)) then (some false) else (signal_ascending.l0 k1 l0 l0 (l0.length:Int) (wrap64 (x7_1 + 1)))) else (none)) else (none))=some r:=by first|(rw [hji9] at H;exact H)|(simp only [hji9] at H ⊢;exact H)
        (try rw [hji9] at A5)
        have hji9w:(IntKind.i64.wrap (x7_1 - 1))=ji9:=(yS _).trans hji9
        by_cases c10:0≤(ji9)
        ·rw [if_pos c10] at H
         have c10b0:decide (0≤(ji9))=true:=decide_eq_true c10
         clear c10
         by_cases c11:(ji9) < (l0.length:Int)
         ·rw [if_pos c11] at H
          have c11b0:decide ((ji9) < (l0.length:Int))=true:=decide_eq_true c11
          clear c11
          by_cases c12:(rd l0 x7_1)≤(rd l0 (ji9))
          ·rw [if_pos c12] at H
           have c12b0:decide ((rd l0 x7_1)≤(rd l0 (ji9)))=true:=decide_eq_true c12
           clear c12
           obtain rfl:=Option.some.inj H
           have p640:0≤(x7_1:Int):=of_decide_eq_true (by first|(with_reducible assumption)|assumption)
           have q640:x7_1 < (l0.length:Int):=of_decide_eq_true (by first|(with_reducible assumption)|assumption)
           obtain ⟨ad640,e640,hx640_0⟩:=Kd.at_int HR0.out x7_1 p640 q640
           cases e640
           replace hx640_0:=(HB.out.cell (World.block_lt_of_cell? w _ hx640_0)).trans hx640_0
           replace p640:=eq_true p640
           replace q640:=eq_true q640
           go_wp2_with (first|((with_reducible refine yE (f:=13) rfl ?_);refine yN (some 13) rfl rfl Tryd.func13 (by kernel_rfl) rfl #[.int .i64 (rd l0 x7_1)] rfl (by (try simp only [List.map_toArray,List.map_cons,List.map_nil]);first|done|rfl|(simp only [List.length_drop,List.length_take];rfl)) ?_;(with_reducible refine (signal_Name.calls (rd l0 x7_1) t641 _ A5.out).mono ?_);rintro e w13 ⟨rfl,hb⟩;refine ⟨_,rfl,?_⟩;have n0_:=Zk (yB (by repeat (first|(with_reducible first|exact HB.out|apply zG|apply zD|apply zH)|exact HB.out)) hb);clear HB;have HB:=n0_;clear n0_;(try clear hb);(try clear hb2);(try clear hk);(try clear hi);have p642:0≤((ji9):Int):=of_decide_eq_true (by first|(with_reducible assumption)|assumption);have q642:(ji9) < (l0.length:Int):=of_decide_eq_true (by first|(with_reducible assumption)|assumption);obtain ⟨ad642,e642,hx642_0⟩:=Kd.at_int HR0.out (ji9) p642 q642;obtain rfl:ad640=ad642:=(by injection e642);replace hx642_0:=(HB.out.cell (World.block_lt_of_cell? w _ hx642_0)).trans hx642_0;replace p642:=eq_true p642;replace q642:=eq_true q642))
           go_ret
           exact ⟨by first|rfl|(simp [errW_none,errW_some] <;> rfl)|(simp only [← hji9];first|rfl|(simp [errW_none,errW_some] <;> rfl))|(simp [*,errW_none,errW_some] <;> rfl),by repeat (first|(with_reducible first|exact HB.out|apply zG|apply zD|apply zH)|exact HB.out)⟩
          ·rw [if_neg c12] at H
           have c12b0:decide ((rd l0 x7_1)≤(rd l0 (ji9)))=false:=decide_eq_false c12
           clear c12
           have H':=Zk H
           clear H
           have p640:0≤(x7_1:Int):=of_decide_eq_true (by first|(with_reducible assumption)|assumption)
           have q640:x7_1 < (l0.length:Int):=of_decide_eq_true (by first|(with_reducible assumption)|assumption)
           obtain ⟨ad640,e640,hx640_0⟩:=Kd.at_int HR0.out x7_1 p640 q640
           cases e640
           replace hx640_0:=(HB.out.cell (World.block_lt_of_cell? w _ hx640_0)).trans hx640_0
           replace p640:=eq_true p640
           replace q640:=eq_true q640
           go_wp2_with (first|((with_reducible refine yE (f:=13) rfl ?_);refine yN (some 13) rfl rfl Tryd.func13 (by kernel_rfl) rfl #[.int .i64 (rd l0 x7_1)] rfl (by (try simp only [List.map_toArray,List.map_cons,List.map_nil]);first|done|rfl|(simp only [List.length_drop,List.length_take];rfl)) ?_;(with_reducible refine (signal_Name.calls (rd l0 x7_1) t641 _ A5.out).mono ?_);rintro e w14 ⟨rfl,hb⟩;refine ⟨_,rfl,?_⟩;have n0_:=Zk (yB (by repeat (first|(with_reducible first|exact HB.out|apply zG|apply zD|apply zH)|exact HB.out)) hb);clear HB;have HB:=n0_;clear n0_;(try clear hb);(try clear hb2);(try clear hk);(try clear hi);have p642:0≤((ji9):Int):=of_decide_eq_true (by first|(with_reducible assumption)|assumption);have q642:(ji9) < (l0.length:Int):=of_decide_eq_true (by first|(with_reducible assumption)|assumption);obtain ⟨ad642,e642,hx642_0⟩:=Kd.at_int HR0.out (ji9) p642 q642;obtain rfl:ad640=ad642:=(by injection e642);replace hx642_0:=(HB.out.cell (World.block_lt_of_cell? w _ hx642_0)).trans hx642_0;replace p642:=eq_true p642;replace q642:=eq_true q642))
           go_roundg k1
           case measure=>have:=HK1.out;omega
           case rel=>exact ⟨(wrap64 (x7_1 + 1)),(by first|rfl|(simp;done)|(simp [*];done)|(generalize ByteArray.toList _=l_;cases l_ <;> rfl)),H',⟨by have:=HK1.out;omega⟩,⟨by repeat (first|(with_reducible first|exact HB.out|apply zG|apply zD|apply zH)|exact HB.out)⟩⟩
         ·rw [if_neg c11] at H
          exact absurd H (by simp)
        ·rw [if_neg c10] at H
         exact absurd H (by simp)
       ·rw [if_neg c8] at H
        have c8b0:decide (0 < x7_1)=false:=decide_eq_false c8
        clear c8
        have H':=Zk H
        clear H
        have p640:0≤(x7_1:Int):=of_decide_eq_true (by first|(with_reducible assumption)|assumption)
        have q640:x7_1 < (l0.length:Int):=of_decide_eq_true (by first|(with_reducible assumption)|assumption)
        obtain ⟨ad640,e640,hx640_0⟩:=Kd.at_int HR0.out x7_1 p640 q640
        cases e640
        replace hx640_0:=(HB.out.cell (World.block_lt_of_cell? w _ hx640_0)).trans hx640_0
        replace p640:=eq_true p640
        replace q640:=eq_true q640
        go_wp2_with (first|((with_reducible refine yE (f:=13) rfl ?_);refine yN (some 13) rfl rfl Tryd.func13 (by kernel_rfl) rfl #[.int .i64 (rd l0 x7_1)] rfl (by (try simp only [List.map_toArray,List.map_cons,List.map_nil]);first|done|rfl|(simp only [List.length_drop,List.length_take];rfl)) ?_;(with_reducible refine (signal_Name.calls (rd l0 x7_1) t641 _ A5.out).mono ?_);rintro e w15 ⟨rfl,hb⟩;refine ⟨_,rfl,?_⟩;have n0_:=Zk (yB (by repeat (first|(with_reducible first|exact HB.out|apply zG|apply zD|apply zH)|exact HB.out)) hb);clear HB;have HB:=n0_;clear n0_;(try clear hb);(try clear hb2);(try clear hk);(try clear hi)))
        go_roundg k1
        case measure=>have:=HK1.out;omega
        case rel=>exact ⟨(wrap64 (x7_1 + 1)),(by first|rfl|(simp;done)|(simp [*];done)|(generalize ByteArray.toList _=l_;cases l_ <;> rfl)),H',⟨by have:=HK1.out;omega⟩,⟨by repeat (first|(with_reducible first|exact HB.out|apply zG|apply zD|apply zH)|exact HB.out)⟩⟩
     ·rw [if_neg c4] at H
      exact absurd H (by simp)
    ·rw [if_neg c3] at H
     exact absurd H (by simp)
   ·rw [if_neg c2] at H
    have c2b0:decide (x7_1 < (l0.length:Int))=false:=decide_eq_false c2
    clear c2
    obtain rfl:=Option.some.inj H
    go_wp2
    go_ret
    exact ⟨by first|rfl|(simp [errW_none,errW_some] <;> rfl)|(simp [*,errW_none,errW_some] <;> rfl),by repeat (first|(with_reducible first|exact HB.out|apply zG|apply zD|apply zH)|exact HB.out)⟩
end Go.Proofs.YtnkkdpjipfjdaaaDoor.Q
end
section
namespace Go.Proofs.YtnkkdpjipfjdaaaDoorM
open Go Go.RowKit Go.Proofs.YtnkkdpjipfjdaaaDoorW.PrintWords
section
variable {α β:Type} {A B:Nat→Option α} {r:α} {c:Prop} [Decidable c]
theorem yR (h:c) (k:Ev A r):Ev (fun n=>if c then A n else B n) r:=by
  obtain ⟨K,k⟩:=k
  exact ⟨K,fun n hn=>(if_pos h).trans (k n hn)⟩
theorem yZ (h:¬ c) (k:Ev B r):Ev (fun n=>if c then A n else B n) r:=by
  obtain ⟨K,k⟩:=k
  exact ⟨K,fun n hn=>(if_neg h).trans (k n hn)⟩
theorem ev_some {x:Option α} (h:x=some r):Ev (fun _=>x) r:=⟨0,fun _ _=>h⟩
theorem ev_bindc {x:Option β} {a:β} {f:Nat→β→Option α} (h:x=some a) (k:Ev (fun n=>f n a) r):Ev (fun n=>x.bind (f n)) r:=by
  obtain ⟨K,k⟩:=k
  exact ⟨K,fun n hn=>by show x.bind (f n)=some r;rw [h];exact k n hn⟩
theorem ev_eq {g:Nat→Option α} {r r':α} (h:Ev g r) (e:r=r'):Ev g r':=e ▸ h
end
theorem wrap_in {x:Int} (h0:-9223372036854775808≤x) (h1:x≤9223372036854775807):wrap64 x=x:=by
  unfold wrap64
  omega
end Go.Proofs.YtnkkdpjipfjdaaaDoorM

end
section
namespace Go.Proofs.YtnkkdpjipfjdaaaDoor.Sg
open Go.RowKit Go.Proofs.YtnkkdpjipfjdaaaDoor.Q Go.Proofs.YtnkkdpjipfjdaaaDoorW.PrintWords Go.Proofs.YtnkkdpjipfjdaaaDoorW.PrintLast Go.Proofs.YtnkkdpjipfjdaaaDoorM Go.Proofs.YtnkkdpjipfjdaaaDoor.Ix
set_option linter.unusedVariables false
theorem awake_30:jobshelllaw25_awake.f 30=some true:=by kernel_rfl
theorem awake_ev:Ev (fun k=>jobshelllaw25_awake.f k) true:=by
  refine ⟨30,fun k hk=>?_⟩
  obtain ⟨d,rfl⟩:∃ d,k=30 + d:=⟨k - 30,by omega⟩
  clear hk
  induction d with
  |zero=>exact awake_30
  |succ d ih=>exact jobshelllaw25_awake.mono (30 + d) _ ih
theorem in21 {n:Int} (h0:0≤n) (h1:n≤20):n=0∨n=1∨n=2∨n=3∨n=4∨n=5∨n=6∨n=7∨n=8∨n=9∨n=10∨n=11∨n=12∨n=13∨n=14∨n=15∨n=16∨n=17∨n=18∨n=19∨n=20:=by omega
theorem name_out {n:Int} (h:¬ (0≤n∧n≤20)):sigName n=⟨#[]⟩:=by
  unfold sigName
  by_cases h0:0≤n
  · rw [if_pos h0]
    have:sigNames.length≤n.toNat:=by show 21≤_;omega
    rw [List.getD_eq_getElem?_getD,List.getElem?_eq_none this]
    rfl
  · rw [if_neg h0]
theorem name_eq (n:Int):jobshellref25_Name.f n=some (sigName n):=by
  by_cases h:0≤n∧n≤20
  · rcases in21 h.1 h.2 with h|h|h|h|h|h|h|h|h|h|h|h|h|h|h|h|h|h|h|h|h <;> subst h <;> rfl
  · rw [name_out h]
    unfold jobshellref25_Name.f
    repeat rw [if_neg (by omega)]
theorem name_f (n:Int):signal_Name.f n=some (sigName n):=rfl
def named (n:Int):Prop:=¬ (sigName n).toList=([]:List UInt8)
instance (n:Int):Decidable (named n):=inferInstanceAs (Decidable (¬ _))
theorem empty_toList:(⟨#[]⟩:ByteArray).toList=([]:List UInt8):=by kernel_rfl
theorem named_in {n:Int} (h:named n):1≤n∧n≤20:=by
  by_cases hr:0≤n∧n≤20
  · by_cases h0:n=0
    · subst h0
      exact absurd (show (sigName 0).toList=[] by kernel_rfl) h
    · omega
  · rw [named,name_out hr] at h
    exact absurd empty_toList h
theorem drop_at (l:List Int) (i:Nat) (hi:i < l.length):l.drop i=l.getD i 0 :: l.drop (i + 1):=by
  rw [List.drop_eq_getElem_cons hi,List.getD_eq_getElem?_getD,List.getElem?_eq_getElem hi]
  rfl
theorem has_from (l:List Int) (n:Int) (hl:l.length≤1000):∀ (m i:Nat),i + m=l.length→Ev (fun k=>jobshellref25_Has.l0 k l n (i:Int)) (decide (n ∈ l.drop i))
  |0,i,h=>Ev.step (fun k=>by apply jobshellref25_Has.l0.eq_2) (yZ (by omega) (ev_some (by rw [List.drop_eq_nil_of_le (by omega)];rfl)))
  |m + 1,i,h=>by
    have hi:i < l.length:=by omega
    have hd:=drop_at l i hi
    have hr:rd l (i:Int)=l.getD i 0:=rfl
    refine Ev.step (fun k=>by apply jobshellref25_Has.l0.eq_2) (yR (by omega) (yR (by omega) ?_))
    rw [hr]
    by_cases hq:l.getD i 0=n
    · exact yR hq (ev_some (by rw [hd,hq];simp))
    · refine yZ hq ?_
      rw [wrap_in (by omega) (by omega),show (i:Int) + 1=((i + 1:Nat):Int) by omega]
      refine ev_eq (has_from l n hl m (i + 1) (by omega)) ?_
      rw [hd]
      exact decide_eq_decide.2 (by rw [List.mem_cons];exact ⟨.inr,fun h=>h.resolve_left (fun e=>hq e.symm)⟩)
theorem has_ev (l:List Int) (n:Int) (hl:l.length≤1000):Ev (fun k=>jobshellref25_Has.f k l n) (decide (n ∈ l)):=by
  have:=has_from l n hl l.length 0 (by omega)
  rwa [List.drop_zero] at this
def okFrom (l:List Int) (i:Nat):Prop:=∀ j,i≤j→j < l.length→named (l.getD j 0)∧(0 < j→l.getD (j - 1) 0 < l.getD j 0)
theorem ok_next {l:List Int} {i:Nat} (h:named (l.getD i 0)∧(0 < i→l.getD (i - 1) 0 < l.getD i 0)):okFrom l i↔okFrom l (i + 1):=by
  constructor
  · exact fun k j h1 h2=>k j (by omega) h2
  · intro k j h1 h2
    by_cases e:j=i
    · subst e;exact h
    · exact k j (by omega) h2
theorem list_from (l:List Int) (hl:l.length≤1000):∀ (m i:Nat),i + m=l.length→∃ b:Bool,(b=true↔okFrom l i)∧Ev (fun k=>jobshellref25_list.l0 k l (i:Int)) b
  |0,i,h=>⟨true,⟨fun _ j h1 h2=>by omega,fun _=>rfl⟩,Ev.step (fun k=>by apply jobshellref25_list.l0.eq_2) (yZ (by omega) (ev_some rfl))⟩
  |m + 1,i,h=>by
    have hi:i < l.length:=by omega
    have hr:rd l (i:Int)=l.getD i 0:=rfl
    have go:∀ {b:Bool} {g:Nat→Option Bool},(∀ k,g k=(if ((sigName (l.getD i 0)).toList=([]:List UInt8)) then some false else (if (i:Int) > 0 then (if 0≤(wrap64 ((i:Int) - 1)) then (if (wrap64 ((i:Int) - 1)) < (l.length:Int) then (if (rd l (i:Int))≤(rd l (wrap64 ((i:Int) - 1))) then (some false) else (jobshellref25_list.l0 k l (wrap64 ((i:Int) + 1)))) else (none)) else (none)) else (jobshellref25_list.l0 k l (wrap64 ((i:Int) + 1))))))→Ev g b→Ev (fun k=>jobshellref25_list.l0 k l (i:Int)) b:=by
      intro b g hg hb
      refine Ev.step (fun k=>by apply jobshellref25_list.l0.eq_2) (yR (by omega) (yR (by omega) ?_))
      refine ev_bindc (by rw [hr];exact name_eq _) ?_
      exact Ev.congr (fun k=>(hg k).symm) hb
    by_cases hn:named (l.getD i 0)
    · by_cases h0:0 < i
      · have hw:wrap64 ((i:Int) - 1)=((i - 1:Nat):Int):=by rw [wrap_in (by omega) (by omega)];omega
        have hr2:rd l ((i - 1:Nat):Int)=l.getD (i - 1) 0:=rfl
        by_cases hle:l.getD i 0≤l.getD (i - 1) 0
        · exact ⟨false,⟨fun h=>(by cases h),fun h=>absurd ((h i (Nat.le_refl _) hi).2 h0) (by omega)⟩,go (fun k=>rfl) (yZ hn (yR (by omega) (by rw [hw];exact yR (by omega) (yR (by omega) (yR (by rw [hr,hr2];exact hle) (ev_some rfl))))))⟩
        · obtain ⟨b,h1,h2⟩:=list_from l hl m (i + 1) (by omega)
          refine ⟨b,h1.trans (ok_next ⟨hn,fun _=>by omega⟩).symm,go (fun k=>rfl) (yZ hn (yR (by omega) (by rw [hw];refine yR (by omega) (yR (by omega) (yZ (by rw [hr,hr2];exact hle) ?_));rw [wrap_in (by omega) (by omega),show (i:Int) + 1=((i + 1:Nat):Int) by omega];exact h2)))⟩
      · obtain ⟨b,h1,h2⟩:=list_from l hl m (i + 1) (by omega)
        refine ⟨b,h1.trans (ok_next ⟨hn,fun h=>absurd h h0⟩).symm,go (fun k=>rfl) (yZ hn (yZ (by omega) (by rw [wrap_in (by omega) (by omega),show (i:Int) + 1=((i + 1:Nat):Int) by omega];exact h2)))⟩
    · exact ⟨false,⟨fun h=>(by cases h),fun h=>absurd (h i (Nat.le_refl _) hi).1 hn⟩,go (fun k=>rfl) (yR (Decidable.not_not.1 hn) (ev_some rfl))⟩
theorem asc_list (l:List Int):∀ (k:Nat) (i:Int),signal_ascending.l0 k l l (l.length:Int) i=jobshellref25_list.l0 k l i
  |0,_=>rfl
  |k + 1,i=>by
    unfold signal_ascending.l0 jobshellref25_list.l0
    by_cases h1:i < (l.length:Int)
    · simp only [h1,if_true,name_f,name_eq,asc_list l k]
    · simp only [h1,if_false]
theorem list_ev (l:List Int) (hl:l.length≤1000):∃ b:Bool,(b=true↔okFrom l 0)∧Ev (fun k=>jobshellref25_list.f k l) b∧Ev (fun k=>signal_ascending.f k l) b:=by
  obtain ⟨b,h1,h2⟩:=list_from l hl l.length 0 (by omega)
  exact ⟨b,h1,h2,Ev.congr (fun k=>asc_list l k 0) h2⟩
theorem ok_named {l:List Int} (h:okFrom l 0) {x:Int} (hx:x ∈ l):named x:=by
  obtain ⟨j,hj,rfl⟩:=List.getElem_of_mem hx
  have:=(h j (Nat.zero_le _) hj).1
  rwa [List.getD_eq_getElem?_getD,List.getElem?_eq_getElem hj] at this
end Go.Proofs.YtnkkdpjipfjdaaaDoor.Sg

end
section
namespace Go.Proofs.YtnkkdpjipfjdaaaDoor.Sg
open Go.RowKit Go.Proofs.YtnkkdpjipfjdaaaDoor.Q Go.Proofs.YtnkkdpjipfjdaaaDoorW.PrintWords Go.Proofs.YtnkkdpjipfjdaaaDoorW.PrintLast Go.Proofs.YtnkkdpjipfjdaaaDoorM Go.Proofs.YtnkkdpjipfjdaaaDoor.Ix
set_option linter.unusedVariables false
set_option linter.unusedSectionVars false
theorem ite_iff {c d:Prop} [Decidable c] [Decidable d] {a b:Int} (h:c↔d):(if c then a else b)=if d then a else b:=by
  by_cases k:c
  · rw [if_pos k,if_pos (h.1 k)]
  · rw [if_neg k,if_neg (fun e=>k (h.2 e))]
def stopsB (n:Int):Bool:=n == 19 ||(n == 20 ||(n == 4 ||n == 5))
theorem stops_ref (n:Int):jobshellref25_stops.f n=some (stopsB n):=by
  unfold jobshellref25_stops.f stopsB
  by_cases h1:n=19
  · subst h1;rfl
  · by_cases h2:n=20
    · subst h2;rfl
    · by_cases h3:n=4
      · subst h3;rfl
      · rw [if_neg h1,if_neg h2,if_neg h3,beq_eq_false_iff_ne.2 h1,beq_eq_false_iff_ne.2 h2,beq_eq_false_iff_ne.2 h3];rfl
def badA (g c:List Int) (m:Int):Prop:=((m=9∨m=19)∧(m ∈ g∨m ∈ c))∨(m ∈ g∧m ∈ c)
def badB (p g:List Int) (m:Int):Prop:=(m≠18∧m ∈ p∧m ∈ g)∨(stopsB m=true∧m ∈ p∧(18:Int) ∈ p)
instance (g c:List Int) (m:Int):Decidable (badA g c m):=by unfold badA;infer_instance
instance (p g:List Int) (m:Int):Decidable (badB p g m):=by unfold badB;infer_instance
section
variable (p g c:List Int) (hp:p.length≤1000) (hg:g.length≤1000) (hc:c.length≤1000)
include hp hg hc
theorem j4_ev (n:Int) (h0:1≤n) (h1:n≤20) (x:Bool) (r:Int) (hr:Ev (fun k=>jobshellref25_Valid.l1 k (n + 1) p g c) r) :
    Ev (fun k=>jobshellref25_Valid.j4 k n x p g c) (if x=true∨(stopsB n=true∧n ∈ p∧(18:Int) ∈ p) then 25 else r):=by
  refine Ev.step (fun k=>by apply jobshellref25_Valid.j4.eq_2) ?_
  cases x with
  |true=>rw [if_pos (.inl rfl)];exact yR rfl (ev_some rfl)
  |false=>
    refine yZ (by simp) (ev_bindc (stops_ref n) ?_)
    rw [wrap_in (by omega) (by omega)]
    by_cases hs:stopsB n=true
    · refine yR hs (Ev.bind (has_ev p n hp) ?_)
      by_cases hn:n ∈ p
      · refine yR (decide_eq_true hn) (Ev.bind (has_ev p 18 hp) ?_)
        by_cases h18:(18:Int) ∈ p
        · rw [if_pos (.inr ⟨hs,hn,h18⟩)];exact yR (decide_eq_true h18) (ev_some rfl)
        · rw [if_neg (fun h=>h.elim (by simp) (fun h=>h18 h.2.2))];exact yZ (by simp [h18]) hr
      · rw [if_neg (fun h=>h.elim (by simp) (fun h=>hn h.2.1))];exact yZ (by simp [hn]) hr
    · rw [if_neg (fun h=>h.elim (by simp) (fun h=>hs h.1))];exact yZ hs hr
theorem l1_ev:∀ (m:Nat) (n:Int),1≤n→n + m=21→∃ r:Int,Ev (fun k=>jobshellref25_Valid.l1 k n p g c) r∧((r=25∧∃ x,n≤x∧x≤20∧badB p g x)∨(r=0∧∀ x,n≤x→x≤20→¬ badB p g x))
  |0,n,h0,h=>⟨0,Ev.step (fun k=>by apply jobshellref25_Valid.l1.eq_2) (yZ (by omega) (ev_some rfl)),.inr ⟨rfl,fun x h1 h2=>by omega⟩⟩
  |m + 1,n,h0,h=>by
    obtain ⟨r,h1,h2⟩:=l1_ev m (n + 1) (by omega) (by omega)
    refine ⟨if badB p g n then 25 else r,?_,?_⟩
    · refine Ev.step (fun k=>by apply jobshellref25_Valid.l1.eq_2) (yR (by omega) ?_)
      by_cases h18:n=18
      · refine yR h18 (ev_eq (j4_ev p g c hp hg hc n h0 (by omega) false r h1) ?_)
        refine ite_iff ?_
        unfold badB
        constructor
        · exact fun h=>h.elim (by simp) .inr
        · exact fun h=>h.elim (fun h=>absurd h18 h.1) .inr
      · refine yZ h18 (Ev.bind (has_ev p n hp) ?_)
        by_cases hn:n ∈ p
        · refine yR (decide_eq_true hn) (Ev.bind (has_ev g n hg) (ev_eq (j4_ev p g c hp hg hc n h0 (by omega) _ r h1) ?_))
          refine ite_iff ?_
          unfold badB
          simp only [decide_eq_true_eq]
          constructor
          · exact fun h=>h.elim (fun h=>.inl ⟨h18,hn,h⟩) .inr
          · exact fun h=>h.elim (fun h=>.inl h.2.2) .inr
        · refine yZ (by simp [hn]) (ev_eq (j4_ev p g c hp hg hc n h0 (by omega) false r h1) ?_)
          refine ite_iff ?_
          unfold badB
          constructor
          · exact fun h=>h.elim (by simp) .inr
          · exact fun h=>h.elim (fun h=>absurd h.2.1 hn) .inr
    · by_cases hb:badB p g n
      · rw [if_pos hb];exact .inl ⟨rfl,n,Int.le_refl _,by omega,hb⟩
      · rw [if_neg hb]
        rcases h2 with ⟨e,x,x1,x2,x3⟩|⟨e,hx⟩
        · exact .inl ⟨e,x,by omega,x2,x3⟩
        · refine .inr ⟨e,fun x x1 x2=>?_⟩
          by_cases hxn:x=n
          · subst hxn;exact hb
          · exact hx x (by omega) x2
theorem j2_ev (n:Int) (h0:1≤n) (h1:n≤20) (x:Bool) (hx:x=true↔n=9∨n=19) (r:Int) (hr:Ev (fun k=>jobshellref25_Valid.l0 k (n + 1) p g c) r) :
    Ev (fun k=>jobshellref25_Valid.j2 k n x p g c) (if badA g c n then 1 else r):=by
  refine Ev.step (fun k=>by apply jobshellref25_Valid.j2.eq_2) ?_
  rw [wrap_in (by omega) (by omega)]
  by_cases h9:n=9∨n=19
  · refine yR (hx.2 h9) (Ev.bind (has_ev g n hg) ?_)
    by_cases hn:n ∈ g
    · rw [if_pos (.inl ⟨h9,.inl hn⟩)];exact yR (decide_eq_true hn) (ev_some rfl)
    · refine yZ (by simp [hn]) (Ev.bind (has_ev c n hc) ?_)
      by_cases hm:n ∈ c
      · rw [if_pos (.inl ⟨h9,.inr hm⟩)];exact yR (decide_eq_true hm) (ev_some rfl)
      · rw [if_neg (fun h=>h.elim (fun h=>h.2.elim hn hm) (fun h=>hn h.1))];exact yZ (by simp [hm]) hr
  · refine yZ (fun h=>h9 (hx.1 h)) (Ev.bind (has_ev g n hg) ?_)
    by_cases hn:n ∈ g
    · refine yR (decide_eq_true hn) (Ev.bind (has_ev c n hc) ?_)
      by_cases hm:n ∈ c
      · rw [if_pos (.inr ⟨hn,hm⟩)];exact yR (decide_eq_true hm) (ev_some rfl)
      · rw [if_neg (fun h=>h.elim (fun h=>h9 h.1) (fun h=>hm h.2))];exact yZ (by simp [hm]) hr
    · rw [if_neg (fun h=>h.elim (fun h=>h9 h.1) (fun h=>hn h.1))];exact yZ (by simp [hn]) hr
theorem l0_ev (r1:Int) (hr1:Ev (fun k=>jobshellref25_Valid.l1 k 1 p g c) r1):∀ (m:Nat) (n:Int),1≤n→n + m=21→∃ r:Int,Ev (fun k=>jobshellref25_Valid.l0 k n p g c) r∧((r=1∧∃ x,n≤x∧x≤20∧badA g c x)∨(r=r1∧∀ x,n≤x→x≤20→¬ badA g c x))
  |0,n,h0,h=>⟨r1,Ev.step (fun k=>by apply jobshellref25_Valid.l0.eq_2) (yZ (by omega) hr1),.inr ⟨rfl,fun x h1 h2=>by omega⟩⟩
  |m + 1,n,h0,h=>by
    obtain ⟨r,h1,h2⟩:=l0_ev r1 hr1 m (n + 1) (by omega) (by omega)
    refine ⟨if badA g c n then 1 else r,?_,?_⟩
    · refine Ev.step (fun k=>by apply jobshellref25_Valid.l0.eq_2) (yR (by omega) ?_)
      by_cases h9:n=9
      · exact yR h9 (j2_ev p g c hp hg hc n h0 (by omega) true ⟨fun _=>.inl h9,fun _=>rfl⟩ r h1)
      · exact yZ h9 (j2_ev p g c hp hg hc n h0 (by omega) (n == 19) ⟨fun h=>.inr (beq_iff_eq.1 h),fun h=>beq_iff_eq.2 (h.resolve_left h9)⟩ r h1)
    · by_cases hb:badA g c n
      · rw [if_pos hb];exact .inl ⟨rfl,n,Int.le_refl _,by omega,hb⟩
      · rw [if_neg hb]
        rcases h2 with ⟨e,x,x1,x2,x3⟩|⟨e,hx⟩
        · exact .inl ⟨e,x,by omega,x2,x3⟩
        · refine .inr ⟨e,fun x x1 x2=>?_⟩
          by_cases hxn:x=n
          · subst hxn;exact hb
          · exact hx x (by omega) x2
theorem valid_ref:∃ r:Int,Ev (fun k=>jobshellref25_Valid.f k p g c) r∧
    ((r=1∧¬ (okFrom p 0∧okFrom g 0∧okFrom c 0))∨
     ((okFrom p 0∧okFrom g 0∧okFrom c 0)∧((r=1∧∃ x,badA g c x)∨((∀ x,¬ badA g c x)∧((r=25∧∃ x,badB p g x)∨(r=0∧∀ x,¬ badB p g x)))))):=by
  obtain ⟨b1,e1,f1,_⟩:=list_ev p hp
  obtain ⟨b2,e2,f2,_⟩:=list_ev g hg
  obtain ⟨b3,e3,f3,_⟩:=list_ev c hc
  have out:Ev (fun k=>jobshellref25_Valid.j0 k true p g c) 1:=Ev.step (fun k=>by apply jobshellref25_Valid.j0.eq_2) (yR rfl (ev_some rfl))
  cases b1 with
  |false=>exact ⟨1,Ev.bind f1 (yZ (by simp) out),.inl ⟨rfl,fun h=>by simpa using e1.2 h.1⟩⟩
  |true=>
    cases b2 with
    |false=>exact ⟨1,Ev.bind f1 (yR rfl (Ev.bind f2 (yZ (by simp) out))),.inl ⟨rfl,fun h=>by simpa using e2.2 h.2.1⟩⟩
    |true=>
      cases b3 with
      |false=>exact ⟨1,Ev.bind f1 (yR rfl (Ev.bind f2 (yR rfl (Ev.bind f3 out)))),.inl ⟨rfl,fun h=>by simpa using e3.2 h.2.2⟩⟩
      |true=>
        have k1:=e1.1 rfl
        have k2:=e2.1 rfl
        have k3:=e3.1 rfl
        obtain ⟨r1,g1,s1⟩:=l1_ev p g c hp hg hc 20 1 (by omega) (by omega)
        obtain ⟨r0,g0,s0⟩:=l0_ev p g c hp hg hc r1 g1 20 1 (by omega) (by omega)
        have hA:∀ x,badA g c x→1≤x∧x≤20:=fun x h=>h.elim (fun h=>h.2.elim (fun h=>named_in (ok_named k2 h)) (fun h=>named_in (ok_named k3 h))) (fun h=>named_in (ok_named k2 h.1))
        have hB:∀ x,badB p g x→1≤x∧x≤20:=fun x h=>h.elim (fun h=>named_in (ok_named k1 h.2.1)) (fun h=>named_in (ok_named k1 h.2.1))
        refine ⟨r0,Ev.bind f1 (yR rfl (Ev.bind f2 (yR rfl (Ev.bind f3 (Ev.step (fun k=>by apply jobshellref25_Valid.j0.eq_2) (yZ (by simp) g0)))))),.inr ⟨⟨k1,k2,k3⟩,?_⟩⟩
        rcases s0 with ⟨e,x,_,_,hx⟩|⟨e,hx⟩
        · exact .inl ⟨e,x,hx⟩
        · refine .inr ⟨fun x h=>hx x (hA x h).1 (hA x h).2 h,?_⟩
          rcases s1 with ⟨e',y,_,_,hy⟩|⟨e',hy⟩
          · exact .inl ⟨e.trans e',y,hy⟩
          · exact .inr ⟨e.trans e',fun x h=>hy x (hB x h).1 (hB x h).2 h⟩
end
end Go.Proofs.YtnkkdpjipfjdaaaDoor.Sg

end
section
namespace Go.Proofs.YtnkkdpjipfjdaaaDoor.Sg
open Go.RowKit Go.Proofs.YtnkkdpjipfjdaaaDoor.Q Go.Proofs.YtnkkdpjipfjdaaaDoorW.PrintWords Go.Proofs.YtnkkdpjipfjdaaaDoorW.PrintLast Go.Proofs.YtnkkdpjipfjdaaaDoorM Go.Proofs.YtnkkdpjipfjdaaaDoor.Ix
set_option linter.unusedVariables false
theorem less_f (x y:Int):cmp_Less_int.f x y=some (decide (x < y)):=by
  have h:cmp_isNaN_int.f x=some false:=by unfold cmp_isNaN_int.f;simp
  unfold cmp_Less_int.f
  rw [h,Option.bind_some,if_neg Bool.false_ne_true]
theorem nan_f (x:Int):slices_isNaN_int.f x=some false:=by unfold slices_isNaN_int.f;simp
theorem mid_eq (s:Int) (h0:0≤s) (h1:s≤4000):wrap64 ((IntKind.u64.wrap (wrap64 s)) / 2)=s / 2:=by
  rw [wrap_in (x:=s) (by omega) (by omega),show IntKind.u64.wrap s=s by rw [IntKind.wrap_u64];omega,wrap_in (by omega) (by omega)]
def cutAt (l:List Int) (x:Int) (p:Nat):Prop:=p≤l.length∧(∀ q,q < p→l.getD q 0 < x)∧∀ q,p≤q→q < l.length→x≤l.getD q 0
theorem asc_get {l:List Int} (h:okFrom l 0):∀ (d i:Nat),i + d < l.length→l.getD i 0≤l.getD (i + d) 0
  |0,i,_=>Int.le_refl _
  |d + 1,i,hd=>by
    have h1:=asc_get h d i (by omega)
    have h2:=(h (i + d + 1) (Nat.zero_le _) (by omega)).2 (by omega)
    rw [Nat.add_sub_cancel] at h2
    rw [← Nat.add_assoc]
    omega
theorem bs_from (l:List Int) (x:Int) (hl:l.length≤1000) (ha:okFrom l 0):∀ (d i j:Nat),j=i + d→j≤l.length→(∀ q,q < i→l.getD q 0 < x)→(∀ q,j≤q→q < l.length→x≤l.getD q 0)→
    ∃ p:Nat,cutAt l x p∧Ev (fun k=>slices_BinarySearch_int_int.l0 k l x (l.length:Int) (i:Int) (j:Int)) ((p:Int),decide (p < l.length∧l.getD p 0=x)):=by
  intro d
  induction d using Nat.strongRecOn with
  |ind d ih=>
    intro i j hj hjl h1 h2
    by_cases hd:d=0
    · subst hd
      obtain rfl:i=j:=by omega
      refine ⟨i,⟨hjl,h1,h2⟩,Ev.step (fun k=>by apply slices_BinarySearch_int_int.l0.eq_2) (yZ (by omega) ?_)⟩
      by_cases hi:i < l.length
      · refine yR (by omega) (yR (by omega) (yR (by omega) ?_))
        have hr:rd l (i:Int)=l.getD i 0:=rfl
        rw [hr]
        by_cases hx:l.getD i 0=x
        · exact yR hx (ev_some (by rw [decide_eq_true (p:=_∧_) ⟨hi,hx⟩]))
        · refine yZ hx (ev_bindc (nan_f _) ?_)
          exact yZ Bool.false_ne_true (ev_some (by rw [decide_eq_false (p:=_∧_) (fun h=>hx h.2)]))
      · exact yZ (by omega) (ev_some (by rw [decide_eq_false (p:=_∧_) (fun h=>hi h.1)]))
    · have hm:=mid_eq ((i:Int) + (j:Int)) (by omega) (by omega)
      obtain ⟨m,hmm⟩:∃ m:Nat,m=(i + j) / 2:=⟨_,rfl⟩
      have hmi:((i:Int) + (j:Int)) / 2=(m:Int):=by omega
      rw [hmi] at hm
      have hr:rd l (m:Int)=l.getD m 0:=rfl
      by_cases hlt:l.getD m 0 < x
      · obtain ⟨p,hp,hev⟩:=ih (j - (m + 1)) (by omega) (m + 1) j (by omega) hjl (fun q hq=>by
          have:=asc_get ha (m - q) q (by omega)
          rw [show q + (m - q)=m by omega] at this
          omega) h2
        refine ⟨p,hp,Ev.step (fun k=>by apply slices_BinarySearch_int_int.l0.eq_2) (yR (by omega) ?_)⟩
        rw [hm]
        refine yR (by omega) (yR (by omega) (ev_bindc (less_f _ _) ?_))
        rw [hr]
        refine yR (decide_eq_true hlt) ?_
        rw [wrap_in (by omega) (by omega),show (m:Int) + 1=((m + 1:Nat):Int) by omega]
        exact hev
      · obtain ⟨p,hp,hev⟩:=ih (m - i) (by omega) i m (by omega) (by omega) h1 (fun q hq hql=>by
          have:=asc_get ha (q - m) m (by omega)
          rw [show m + (q - m)=q by omega] at this
          omega)
        refine ⟨p,hp,Ev.step (fun k=>by apply slices_BinarySearch_int_int.l0.eq_2) (yR (by omega) ?_)⟩
        rw [hm]
        refine yR (by omega) (yR (by omega) (ev_bindc (less_f _ _) ?_))
        rw [hr]
        exact yZ (fun h=>hlt (of_decide_eq_true h)) hev
theorem with_ev (l:List Int) (x:Int) (hl:l.length≤1000) (ha:okFrom l 0):∃ p:Nat,cutAt l x p∧Ev (fun k=>signal_with.f k l x) (if p < l.length∧l.getD p 0=x then l else l.take p ++ x :: l.drop p):=by
  obtain ⟨p,hp,hev⟩:=bs_from l x hl ha l.length 0 l.length (by omega) (Nat.le_refl _) (fun q hq=>absurd hq (Nat.not_lt_zero _)) (fun q hq hq2=>absurd hq2 (by omega))
  refine ⟨p,hp,Ev.bind hev (yR (by omega) ?_)⟩
  by_cases h:p < l.length∧l.getD p 0=x
  · rw [if_pos h]
    exact yR (decide_eq_true h) (ev_some rfl)
  · rw [if_neg h]
    have:=hp.1
    exact yZ (fun e=>h (of_decide_eq_true e)) (yR (by show (0:Int)≤(p:Int)∧(p:Int)≤_;omega) (ev_some rfl))
end Go.Proofs.YtnkkdpjipfjdaaaDoor.Sg

end
section
namespace Go.Proofs.YtnkkdpjipfjdaaaDoor.Sg
open Go.RowKit Go.Proofs.YtnkkdpjipfjdaaaDoor.Q Go.Proofs.YtnkkdpjipfjdaaaDoorW.PrintWords Go.Proofs.YtnkkdpjipfjdaaaDoorW.PrintLast Go.Proofs.YtnkkdpjipfjdaaaDoorM Go.Proofs.YtnkkdpjipfjdaaaDoor.Ix
set_option linter.unusedVariables false
def withL (l:List Int) (x:Int) (p:Nat):List Int:=if p < l.length∧l.getD p 0=x then l else l.take p ++ x :: l.drop p
theorem withL_mem (l:List Int) (x:Int) (p:Nat) (y:Int):y ∈ withL l x p↔y=x∨y ∈ l:=by
  unfold withL
  by_cases h:p < l.length∧l.getD p 0=x
  · rw [if_pos h]
    have hx:x ∈ l:=by
      rw [← h.2,List.getD_eq_getElem?_getD,List.getElem?_eq_getElem h.1]
      exact List.getElem_mem h.1
    exact ⟨.inr,fun k=>k.elim (fun e=>e ▸ hx) id⟩
  · rw [if_neg h,List.mem_append,List.mem_cons]
    have e:y ∈ l↔y ∈ l.take p∨y ∈ l.drop p:=by
      rw [← List.mem_append,List.take_append_drop]
    rw [e]
    exact ⟨fun k=>k.elim (fun a=>.inr (.inl a)) (fun k=>k.elim .inl (fun a=>.inr (.inr a))),fun k=>k.elim (fun a=>.inr (.inl a)) (fun k=>k.elim .inl (fun a=>.inr (.inr a)))⟩
theorem ok_pair {l:List Int}:okFrom l 0↔(∀ x ∈ l,named x)∧l.Pairwise (· < ·):=by
  constructor
  · intro h
    refine ⟨fun x hx=>ok_named h hx,?_⟩
    rw [List.pairwise_iff_getElem]
    intro i j hi hj hij
    have h1:=asc_get h (j - 1 - i) i (by omega)
    have h2:=(h j (Nat.zero_le _) hj).2 (by omega)
    rw [show i + (j - 1 - i)=j - 1 by omega] at h1
    have e1:l.getD i 0=l[i]:=by rw [List.getD_eq_getElem?_getD,List.getElem?_eq_getElem hi];rfl
    have e2:l.getD j 0=l[j]:=by rw [List.getD_eq_getElem?_getD,List.getElem?_eq_getElem hj];rfl
    omega
  · intro ⟨h1,h2⟩ j _ hj
    rw [List.pairwise_iff_getElem] at h2
    have e2:l.getD j 0=l[j]:=by rw [List.getD_eq_getElem?_getD,List.getElem?_eq_getElem hj];rfl
    refine ⟨by rw [e2];exact h1 _ (List.getElem_mem hj),fun h0=>?_⟩
    have hj1:j - 1 < l.length:=by omega
    have e1:l.getD (j - 1) 0=l[j - 1]:=by rw [List.getD_eq_getElem?_getD,List.getElem?_eq_getElem hj1];rfl
    rw [e1,e2]
    exact h2 (j - 1) j hj1 hj (by omega)
theorem ok_filter {l:List Int} (h:okFrom l 0) (f:Int→Bool):okFrom (l.filter f) 0:=by
  rw [ok_pair] at h ⊢
  exact ⟨fun x hx=>h.1 x (List.mem_filter.1 hx).1,h.2.filter f⟩
theorem withL_ok {l:List Int} {x:Int} {p:Nat} (h:okFrom l 0) (hn:named x) (hp:cutAt l x p):okFrom (withL l x p) 0:=by
  have h':=ok_pair.1 h
  refine ok_pair.2 ⟨fun y hy=>(withL_mem l x p y).1 hy |>.elim (fun e=>e ▸ hn) (h'.1 y),?_⟩
  unfold withL
  by_cases hf:p < l.length∧l.getD p 0=x
  · rw [if_pos hf];exact h'.2
  · rw [if_neg hf]
    have hlow:∀ y ∈ l.take p,y < x:=by
      intro y hy
      obtain ⟨q,hq,rfl⟩:=List.getElem_of_mem hy
      rw [List.length_take] at hq
      have:=hp.2.1 q (by omega)
      rw [List.getD_eq_getElem?_getD,List.getElem?_eq_getElem (by omega)] at this
      rw [List.getElem_take]
      exact this
    have hhigh:∀ y ∈ l.drop p,x < y:=by
      intro y hy
      obtain ⟨q,hq,rfl⟩:=List.getElem_of_mem hy
      rw [List.length_drop] at hq
      have h0:=hp.2.2 (p + q) (by omega) (by omega)
      have hpl:p < l.length:=by omega
      have h1:=hp.2.2 p (Nat.le_refl _) hpl
      have h2:=asc_get h q p (by omega)
      have hne:l.getD p 0≠x:=fun e=>hf ⟨hpl,e⟩
      rw [List.getElem_drop]
      have e2:l.getD (p + q) 0=l[p + q]:=by rw [List.getD_eq_getElem?_getD,List.getElem?_eq_getElem (by omega)];rfl
      omega
    rw [List.pairwise_append]
    refine ⟨h'.2.sublist (List.take_sublist _ _),List.pairwise_cons.2 ⟨hhigh,h'.2.sublist (List.drop_sublist _ _)⟩,fun a ha b hb=>?_⟩
    rcases List.mem_cons.1 hb with rfl|hb
    · exact hlow a ha
    · have:=hlow a ha
      have:=hhigh b hb
      omega
theorem asc_unique:∀ {l m:List Int},l.Pairwise (· < ·)→m.Pairwise (· < ·)→(∀ x,x ∈ l↔x ∈ m)→l=m
  |[],[],_,_,_=>rfl
  |[],y :: m,_,_,h=>absurd ((h y).2 (List.mem_cons_self)) (by simp)
  |x :: l,[],_,_,h=>absurd ((h x).1 (List.mem_cons_self)) (by simp)
  |x :: l,y :: m,hl,hm,h=>by
    rw [List.pairwise_cons] at hl hm
    have e:x=y:=by
      have h1:=List.mem_cons.1 ((h x).1 List.mem_cons_self)
      have h2:=List.mem_cons.1 ((h y).2 List.mem_cons_self)
      rcases h1 with h1|h1
      · exact h1
      · rcases h2 with h2|h2
        · exact h2.symm
        · have:=hm.1 x h1
          have:=hl.1 y h2
          omega
    subst e
    congr 1
    refine asc_unique hl.2 hm.2 (fun z=>?_)
    have hz:=h z
    rw [List.mem_cons,List.mem_cons] at hz
    constructor
    · intro k
      have:=hl.1 z k
      exact (hz.1 (.inr k)).resolve_left (by omega)
    · intro k
      have:=hm.1 z k
      exact (hz.2 (.inr k)).resolve_left (by omega)
end Go.Proofs.YtnkkdpjipfjdaaaDoor.Sg

end
section
namespace Go.Proofs.YtnkkdpjipfjdaaaDoor.Sg
open Go.RowKit Go.Proofs.YtnkkdpjipfjdaaaDoor.Q Go.Proofs.YtnkkdpjipfjdaaaDoorW.PrintWords Go.Proofs.YtnkkdpjipfjdaaaDoorW.PrintLast Go.Proofs.YtnkkdpjipfjdaaaDoorM Go.Proofs.YtnkkdpjipfjdaaaDoor.Ix
set_option linter.unusedVariables false
theorem clone_f (l:List Int) (h:l.length≤1000):slices_Clone_int_int.f l=some l:=by
  unfold slices_Clone_int_int.f
  rw [if_pos (by omega)]
theorem copied_f (p g c:List Int) (hp:p.length≤1000) (hg:g.length≤1000) (hc:c.length≤1000):signal_copied.f p g c=some (p,g,c):=by
  unfold signal_copied.f
  rw [clone_f p hp,clone_f g hg,clone_f c hc]
  rfl
end Go.Proofs.YtnkkdpjipfjdaaaDoor.Sg

end
section
namespace Go.Proofs.YtnkkdpjipfjdaaaDoor.Sg
open Go.RowKit Go.Proofs.YtnkkdpjipfjdaaaDoor.Q Go.Proofs.YtnkkdpjipfjdaaaDoorW.PrintWords Go.Proofs.YtnkkdpjipfjdaaaDoorW.PrintLast Go.Proofs.YtnkkdpjipfjdaaaDoorM Go.Proofs.YtnkkdpjipfjdaaaDoor.Ix
set_option linter.unusedVariables false
def fixedB (n:Int):Bool:=n == 9 ||n == 19
theorem fixed_f (n:Int):signal_fixed.f n=some (fixedB n):=by
  unfold signal_fixed.f fixedB
  by_cases h:n=9
  · subst h;rfl
  · rw [if_neg h,beq_eq_false_iff_ne.2 h];rfl
def lessL (l:List Int) (n:Int):List Int:=l.filter fun x=>!(x == n)
theorem lessL_len (l:List Int) (n:Int):(lessL l n).length≤l.length:=List.length_filter_le _ _
theorem less48 (l:List Int) (n:Int) (h:l.length≤1000):signal_without_1_48.f l n=some (lessL l n):=by
  unfold signal_without_1_48.f lessL
  rw [if_pos (by omega)]
theorem set_bad (p g c:List Int) (n how:Int) (h:¬ (named n∧fixedB n=false∧0≤how∧how≤2)):Ev (fun k=>signal_Set.f k p g c n how) (p,g,c,1):=by
  have out:Ev (fun k=>signal_Set.j0 k how true p g c n) (p,g,c,1):=Ev.step (fun k=>by apply signal_Set.j0.eq_2) (yR rfl (ev_some rfl))
  refine ev_bindc (name_f n) ?_
  by_cases hn:named n
  · refine yZ hn (ev_bindc (fixed_f n) ?_)
    cases hf:fixedB n with
    |true=>exact yR rfl out
    |false=>
      refine yZ Bool.false_ne_true ?_
      by_cases h0:how < 0
      · exact yR h0 out
      · refine yZ h0 ?_
        have:how > 2:=by
          by_cases h2:how > 2
          · exact h2
          · exact absurd ⟨hn,hf,by omega,by omega⟩ h
        rw [decide_eq_true this]
        exact out
  · exact yR (Decidable.not_not.1 hn) out
theorem set_good (p g c:List Int) (n how:Int) (hp:p.length≤900) (hg:g.length≤900) (hc:c.length≤900) (hog:okFrom g 0) (hoc:okFrom c 0) (h:named n∧fixedB n=false∧0≤how∧how≤2) :
    ∃ q q':Nat,cutAt (lessL g n) n q∧cutAt (lessL c n) n q'∧Ev (fun k=>signal_Set.f k p g c n how)
      (if how=1 then (if n=18 then p else lessL p n) else p,if how=1 then withL (lessL g n) n q else lessL g n,if how=2 then withL (lessL c n) n q' else lessL c n,0):=by
  have hgl:=lessL_len g n
  have hcl:=lessL_len c n
  obtain ⟨q,hq,hev⟩:=with_ev (lessL g n) n (by omega) (ok_filter hog _)
  obtain ⟨q',hq',hev'⟩:=with_ev (lessL c n) n (by omega) (ok_filter hoc _)
  refine ⟨q,q',hq,hq',?_⟩
  refine ev_bindc (name_f n) (yZ h.1 (ev_bindc ((fixed_f n).trans (congrArg some h.2.1)) (yZ Bool.false_ne_true (yZ (by omega) ?_))))
  rw [decide_eq_false (p:=how > 2) (by omega)]
  refine Ev.step (fun k=>by apply signal_Set.j0.eq_2) (yZ Bool.false_ne_true (ev_bindc (copied_f p g c (by omega) (by omega) (by omega)) (ev_bindc (less48 g n (by omega)) (ev_bindc (less48 c n (by omega)) ?_))))
  by_cases h1:how=1
  · refine yR h1 (Ev.bind hev ?_)
    rw [if_pos h1,if_pos h1,if_neg (show ¬ how=2 by omega)]
    by_cases h18:n=18
    · rw [if_pos h18,if_pos h18]
      exact ev_some rfl
    · rw [if_neg h18,if_neg h18]
      exact (ev_bindc (less48 p n (by omega)) (ev_some rfl))
  · refine yZ h1 ?_
    rw [if_neg h1,if_neg h1]
    by_cases h2:how=2
    · refine yR h2 (Ev.bind hev' ?_)
      rw [if_pos h2]
      exact ev_some rfl
    · refine yZ h2 ?_
      rw [if_neg h2]
      exact ev_some rfl
end Go.Proofs.YtnkkdpjipfjdaaaDoor.Sg

end
section
namespace Go.Proofs.YtnkkdpjipfjdaaaDoor.Sg
open Go.RowKit Go.Proofs.YtnkkdpjipfjdaaaDoor.Q Go.Proofs.YtnkkdpjipfjdaaaDoorW.PrintWords Go.Proofs.YtnkkdpjipfjdaaaDoorW.PrintLast Go.Proofs.YtnkkdpjipfjdaaaDoorM Go.Proofs.YtnkkdpjipfjdaaaDoor.Ix
set_option linter.unusedVariables false
theorem drop_from (l:List Int) (n:Int) (hl:l.length≤1000):∀ (m i:Nat) (out:List Int),i + m=l.length→out.length + m≤5000→Ev (fun k=>jobshellref25_drop.l0 k l n out (i:Int)) (out ++ lessL (l.drop i) n)
  |0,i,out,h,ho=>Ev.step (fun k=>by apply jobshellref25_drop.l0.eq_2) (yZ (by omega) (ev_some (by rw [List.drop_eq_nil_of_le (by omega)];simp [lessL])))
  |m + 1,i,out,h,ho=>by
    have hi:i < l.length:=by omega
    have hd:=drop_at l i hi
    have hr:rd l (i:Int)=l.getD i 0:=rfl
    refine Ev.step (fun k=>by apply jobshellref25_drop.l0.eq_2) (yR (by omega) (yR (by omega) ?_))
    rw [hr,wrap_in (by omega) (by omega),show (i:Int) + 1=((i + 1:Nat):Int) by omega]
    by_cases hq:l.getD i 0=n
    · refine yR hq (ev_eq (drop_from l n hl m (i + 1) out (by omega) (by omega)) ?_)
      rw [hd]
      unfold lessL
      rw [List.filter_cons_of_neg (by simpa using hq)]
    · refine yZ hq (yR (by omega) (ev_eq (drop_from l n hl m (i + 1) (out ++ [l.getD i 0]) (by omega) (by rw [List.length_append,List.length_singleton];omega)) ?_))
      rw [hd]
      unfold lessL
      rw [List.filter_cons_of_pos (by simpa using hq),List.append_assoc]
      rfl
theorem drop_ev (l:List Int) (n:Int) (hl:l.length≤1000):Ev (fun k=>jobshellref25_drop.f k l n) (lessL l n):=by
  have h:=drop_from l n hl l.length 0 [] (by omega) (by simp;omega)
  rwa [List.drop_zero,List.nil_append] at h
def up (i:Int):Nat→List Int
  |0=>[]
  |m + 1=>i :: up (i + 1) m
theorem up_mem:∀ (m:Nat) (i x:Int),x ∈ up i m↔i≤x∧x < i + m
  |0,i,x=>by unfold up;exact ⟨fun h=>(by cases h),fun h=>(by omega)⟩
  |m + 1,i,x=>by
    unfold up
    rw [List.mem_cons,up_mem m (i + 1) x]
    omega
theorem up_asc:∀ (m:Nat) (i:Int),(up i m).Pairwise (· < ·)
  |0,i=>.nil
  |m + 1,i=>.cons (fun x hx=>by have:=(up_mem m (i + 1) x).1 hx;omega) (up_asc m (i + 1))
theorem up_len:∀ (m:Nat) (i:Int),(up i m).length=m
  |0,i=>rfl
  |m + 1,i=>by unfold up;rw [List.length_cons,up_len m (i + 1)]
def addL (l:List Int) (n:Int):List Int:=(up 1 20).filter fun x=>x == n ||decide (x ∈ l)
theorem add_from (l:List Int) (n:Int) (hl:l.length≤1000):∀ (m:Nat) (i:Int) (out:List Int),1≤i→i + m=21→out.length + m≤5000→Ev (fun k=>jobshellref25_add.l0 k l n out i) (out ++ (up i m).filter fun x=>x == n ||decide (x ∈ l))
  |0,i,out,h1,h,ho=>Ev.step (fun k=>by apply jobshellref25_add.l0.eq_2) (yZ (by omega) (ev_some (by simp [up])))
  |m + 1,i,out,h1,h,ho=>by
    refine Ev.step (fun k=>by apply jobshellref25_add.l0.eq_2) (yR (by omega) ?_)
    rw [wrap_in (by omega) (by omega)]
    have ih1:=add_from l n hl m (i + 1) (out ++ [i]) (by omega) (by omega) (by rw [List.length_append,List.length_singleton];omega)
    have ih0:=add_from l n hl m (i + 1) out (by omega) (by omega) (by omega)
    unfold up
    by_cases hq:i=n
    · refine yR hq (yR (by omega) (ev_eq ih1 ?_))
      rw [List.filter_cons_of_pos (by simp [hq]),List.append_assoc]
      rfl
    · refine yZ hq (Ev.bind (has_ev l i hl) ?_)
      by_cases hin:i ∈ l
      · refine yR (decide_eq_true hin) (yR (by omega) (ev_eq ih1 ?_))
        rw [List.filter_cons_of_pos (by simp [hin]),List.append_assoc]
        rfl
      · refine yZ (fun h=>hin (of_decide_eq_true h)) (ev_eq ih0 ?_)
        rw [List.filter_cons_of_neg (by simp [hq,hin])]
theorem add_ev (l:List Int) (n:Int) (hl:l.length≤1000):Ev (fun k=>jobshellref25_add.f k l n) (addL l n):=by
  have h:=add_from l n hl 20 1 [] (by omega) (by omega) (by simp)
  rwa [List.nil_append] at h
theorem addL_eq {l:List Int} {n:Int} {q:Nat} (ho:okFrom l 0) (hn:named n) (hq:cutAt l n q):addL l n=withL l n q:=by
  refine asc_unique ((up_asc 20 1).filter _) (ok_pair.1 (withL_ok ho hn hq)).2 (fun x=>?_)
  rw [withL_mem]
  unfold addL
  rw [List.mem_filter,up_mem]
  have hx:x ∈ l→1≤x∧x≤20:=fun h=>named_in (ok_named ho h)
  have hn':=named_in hn
  constructor
  · intro h
    simpa using h.2
  · intro h
    refine ⟨?_,by simpa using h⟩
    rcases h with h|h
    · omega
    · have:=hx h;omega
theorem ok_len {l:List Int} (ho:okFrom l 0):l.length≤20:=by
  have e:(up 1 20).filter (fun x=>decide (x ∈ l))=l:=by
    refine asc_unique ((up_asc 20 1).filter _) (ok_pair.1 ho).2 (fun x=>?_)
    rw [List.mem_filter,up_mem]
    constructor
    · intro h
      simpa using h.2
    · intro h
      have:=named_in (ok_named ho h)
      exact ⟨by omega,by simpa using h⟩
  have h:=List.length_filter_le (fun x=>decide (x ∈ l)) (up 1 20)
  rw [e,up_len] at h
  exact h
theorem numbers_from (l:List Int) (hl:l.length≤1000):∀ (m i:Nat),i + m=l.length→Ev (fun k=>jobshellref25_numbers.l0 k l l (i:Int)) true
  |0,i,h=>Ev.step (fun k=>by apply jobshellref25_numbers.l0.eq_2) (yZ (by omega) (ev_some rfl))
  |m + 1,i,h=>by
    refine Ev.step (fun k=>by apply jobshellref25_numbers.l0.eq_2) (yR (by omega) (yR (by omega) (yR (by omega) (yR rfl ?_))))
    rw [wrap_in (by omega) (by omega),show (i:Int) + 1=((i + 1:Nat):Int) by omega]
    exact numbers_from l hl m (i + 1) (by omega)
theorem numbers_ev (l:List Int) (hl:l.length≤1000):Ev (fun k=>jobshellref25_numbers.f k l l) true:=yR rfl (numbers_from l hl l.length 0 (by omega))
theorem same_ev (p g c:List Int) (hp:p.length≤1000) (hg:g.length≤1000) (hc:c.length≤1000):Ev (fun k=>jobshellref25_Same.f k p g c p g c) true:=
  Ev.bind (numbers_ev p hp) (yR rfl (Ev.bind (numbers_ev g hg) (yR rfl (Ev.bind (numbers_ev c hc) (ev_some rfl)))))
end Go.Proofs.YtnkkdpjipfjdaaaDoor.Sg

end
section
namespace Go.Proofs.YtnkkdpjipfjdaaaDoor.Sg
open Go.RowKit Go.Proofs.YtnkkdpjipfjdaaaDoor.Q Go.Proofs.YtnkkdpjipfjdaaaDoorW.PrintWords Go.Proofs.YtnkkdpjipfjdaaaDoorW.PrintLast Go.Proofs.YtnkkdpjipfjdaaaDoorM Go.Proofs.YtnkkdpjipfjdaaaDoor.Ix
set_option linter.unusedVariables false
theorem refset_bad (p g c:List Int) (n how:Int) (h:¬ (named n∧fixedB n=false∧0≤how∧how≤2)):Ev (fun k=>jobshellref25_Set.f k p g c n how) (p,g,c,1):=by
  have out:Ev (fun k=>jobshellref25_Set.j0 k n how true p g c) (p,g,c,1):=Ev.step (fun k=>by apply jobshellref25_Set.j0.eq_2) (yR rfl (ev_some rfl))
  refine ev_bindc (name_eq n) ?_
  by_cases hn:named n
  · refine yZ hn ?_
    by_cases h9:n=9
    · exact yR h9 out
    · refine yZ h9 ?_
      by_cases h19:n=19
      · exact yR h19 out
      · refine yZ h19 ?_
        by_cases h0:how < 0
        · exact yR h0 out
        · refine yZ h0 ?_
          have:how > 2:=by
            by_cases h2:how > 2
            · exact h2
            · exact absurd ⟨hn,by unfold fixedB;rw [beq_eq_false_iff_ne.2 h9,beq_eq_false_iff_ne.2 h19];rfl,by omega,by omega⟩ h
          rw [decide_eq_true this]
          exact out
  · exact yR (Decidable.not_not.1 hn) out
theorem refset_good (p g c:List Int) (n how:Int) (hp:p.length≤900) (hg:g.length≤900) (hc:c.length≤900) (h:named n∧fixedB n=false∧0≤how∧how≤2) :
    Ev (fun k=>jobshellref25_Set.f k p g c n how)
      (if how=1 then (if n=18 then p else lessL p n) else p,if how=1 then addL (lessL g n) n else lessL g n,if how=2 then addL (lessL c n) n else lessL c n,0):=by
  have hgl:=lessL_len g n
  have hcl:=lessL_len c n
  have hf:¬ (n=9∨n=19):=by
    intro k
    have e:=h.2.1
    unfold fixedB at e
    rcases k with k|k <;> subst k <;> exact absurd e (by decide)
  refine ev_bindc (name_eq n) (yZ h.1 (yZ (fun k=>hf (.inl k)) (yZ (fun k=>hf (.inr k)) (yZ (by omega) ?_))))
  rw [decide_eq_false (p:=how > 2) (by omega)]
  refine Ev.step (fun k=>by apply jobshellref25_Set.j0.eq_2) (yZ Bool.false_ne_true (Ev.bind (drop_ev g n (by omega)) (Ev.bind (drop_ev c n (by omega)) ?_)))
  by_cases h1:how=1
  · refine yR h1 (Ev.bind (add_ev _ n (by omega)) ?_)
    rw [if_pos h1,if_pos h1,if_neg (show ¬ how=2 by omega)]
    by_cases h18:n=18
    · rw [if_pos h18]
      exact yR h18 (yZ (by omega) (ev_some rfl))
    · rw [if_neg h18]
      exact yZ h18 (Ev.bind (drop_ev p n (by omega)) (yZ (by omega) (ev_some rfl)))
  · refine yZ h1 ?_
    rw [if_neg h1,if_neg h1]
    by_cases h2:how=2
    · rw [if_pos h2]
      exact yR h2 (Ev.bind (add_ev _ n (by omega)) (ev_some rfl))
    · rw [if_neg h2]
      exact yZ h2 (ev_some rfl)
theorem set_same (p g c:List Int) (n how:Int) (hop:okFrom p 0) (hog:okFrom g 0) (hoc:okFrom c 0) :
    ∃ (P G C:List Int) (e:Int),Ev (fun k=>signal_Set.f k p g c n how) (P,G,C,e)∧Ev (fun k=>jobshellref25_Set.f k p g c n how) (P,G,C,e)∧okFrom P 0∧okFrom G 0∧okFrom C 0:=by
  have lp:=ok_len hop
  have lg:=ok_len hog
  have lc:=ok_len hoc
  by_cases h:named n∧fixedB n=false∧0≤how∧how≤2
  · obtain ⟨q,q',hq,hq',e⟩:=set_good p g c n how (by omega) (by omega) (by omega) hog hoc h
    have e':=refset_good p g c n how (by omega) (by omega) (by omega) h
    have og:=ok_filter hog (fun x=>!(x == n))
    have oc:=ok_filter hoc (fun x=>!(x == n))
    rw [show addL (lessL g n) n=_ from addL_eq og h.1 hq,show addL (lessL c n) n=_ from addL_eq oc h.1 hq'] at e'
    refine ⟨_,_,_,_,e,e',?_,?_,?_⟩
    · split
      · split
        · exact hop
        · exact ok_filter hop _
      · exact hop
    · split
      · exact withL_ok og h.1 hq
      · exact og
    · split
      · exact withL_ok oc h.1 hq'
      · exact oc
  · exact ⟨p,g,c,1,set_bad p g c n how h,refset_bad p g c n how h,hop,hog,hoc⟩
end Go.Proofs.YtnkkdpjipfjdaaaDoor.Sg

end
section
namespace Go.Proofs.YtnkkdpjipfjdaaaDoor.Pure
open Go.RowKit Go.Proofs.YtnkkdpjipfjdaaaDoor.Q Go.Proofs.YtnkkdpjipfjdaaaDoorW.PrintWords Go.Proofs.YtnkkdpjipfjdaaaDoorW.PrintLast Go.Proofs.YtnkkdpjipfjdaaaDoorM Go.Proofs.YtnkkdpjipfjdaaaDoor.Ix Go.Proofs.YtnkkdpjipfjdaaaDoor.Sg
set_option linter.unusedVariables false
theorem short_f (p g c:List Int):jobshelllaw25_short.f p g c=some (decide (p.length≤30∧g.length≤30∧c.length≤30)):=by
  unfold jobshelllaw25_short.f
  by_cases h1:p.length≤30
  · rw [if_pos (by omega)]
    by_cases h2:g.length≤30
    · rw [if_pos (by omega)]
      exact congrArg some (decide_eq_decide.2 (by omega))
    · rw [if_neg (by omega)]
      exact congrArg some (by simp [h2])
  · rw [if_neg (by omega)]
    exact congrArg some (by simp [h1])
theorem SignalSets:StSignalSets.Pure:=by
  intro p g c n how _ _ _ _ _ _ _ _ _ _ _
  have h:Ev (fun k=>jobshelllaw25_SignalSets.f k p g c n how) true:=by
    have out:Ev (fun k=>jobshelllaw25_SignalSets.j0 k n how true p g c) true:=Ev.step (fun k=>by apply jobshelllaw25_SignalSets.j0.eq_2) (yR rfl (Ev.bind awake_ev (ev_some rfl)))
    by_cases hs:p.length≤30∧g.length≤30∧c.length≤30
    · obtain ⟨r,h1,h2⟩:=valid_ref p g c (by omega) (by omega) (by omega)
      refine ev_bindc (short_f p g c) (yR (decide_eq_true hs) (Ev.bind h1 ?_))
      by_cases hr:r=0
      · have ok:okFrom p 0∧okFrom g 0∧okFrom c 0:=by
          rcases h2 with ⟨a,_⟩|⟨o,_⟩
          · omega
          · exact o
        obtain ⟨P,G,C,e,e1,e2,oP,oG,oC⟩:=set_same p g c n how ok.1 ok.2.1 ok.2.2
        have lP:=ok_len oP
        have lG:=ok_len oG
        have lC:=ok_len oC
        have cop:=copied_f p g c (by omega) (by omega) (by omega)
        rw [bne_eq_false_iff_eq.2 hr]
        refine Ev.step (fun k=>by apply jobshelllaw25_SignalSets.j0.eq_2) (yZ Bool.false_ne_true (Ev.bind e1 (Ev.bind e2 (Ev.bind (same_ev P G C (by omega) (by omega) (by omega)) (yR rfl (yR rfl ?_))))))
        refine ev_bindc (by unfold signal_Fork.f;rw [cop];rfl) (ev_bindc rfl (Ev.bind (same_ev [] g c (by simp) (by omega) (by omega)) (yR rfl ?_)))
        exact ev_bindc (by unfold signal_Exec.f;rw [cop];rfl) (ev_bindc rfl (Ev.bind (same_ev p g [] (by omega) (by omega) (by simp)) (yR rfl (Ev.bind awake_ev (ev_some rfl)))))
      · rw [bne_iff_ne.2 hr]
        exact out
    · exact ev_bindc (short_f p g c) (yZ (by simpa using hs) out)
  obtain ⟨K,hK⟩:=h
  exact ⟨K,hK K (Nat.le_refl _)⟩
end Go.Proofs.YtnkkdpjipfjdaaaDoor.Pure

end
section
namespace Go.Proofs.YtnkkdpjipfjdaaaDoorM
open Go Go.RowKit Go.Proofs.YtnkkdpjipfjdaaaDoorW.PrintWords Go.WideShapes Go.ChangeShapes
def Opens {α:Type} (P:Program) (d:Kd α) (t:TypeId) (G:α→Prop):Prop:=
  ∀ (H:Type) (enc:TypeId × Value→H) (w:World) (spare:Nat→Bool) (held:Bool) (fuel:Nat) (cs:List Value) (dd:DataW H) (ps:List MemPlace),
    DataW.trod enc P w 0 spare held fuel t cs=some (dd,ps)→(dd.weights P t).all (·≤reachBytes)=true→∃ x:α,d.K w x cs∧G x
theorem opens_int {P:Program} {t:TypeId} {k:IntKind} (ht:P.underlying t=some (.int k)):Opens P (Kd.int k) t (fun x=>(Lit.int k x).wf=true):=by
  intro H enc w s hd fuel cs dd ps h _
  obtain ⟨n,rfl,_,hw⟩:=DataW.trod_int ht h
  exact ⟨n,rfl,hw⟩
theorem weightsAll_mem {H:Type} {P:Program} {e:TypeId} {d:DataW H}:∀ {l:List (DataW H)},d ∈ l→(DataW.weightsAll P e l).all (·≤reachBytes)=true→(d.weights P e).all (·≤reachBytes)=true
  |a :: l,hd,h=>by
    rw [DataW.weightsAll,List.all_append,Bool.and_eq_true] at h
    rcases List.mem_cons.1 hd with rfl|hd
    · exact h.1
    · exact weightsAll_mem hd h.2
theorem collect {α:Type} {Q:Nat→α→Prop}:∀ {n:Nat},(∀ i,i < n→∃ x,Q i x)→∃ l:List α,l.length=n∧∀ j x,l[j]?=some x→Q j x
  |0,_=>⟨[],rfl,fun j x hx=>by simp at hx⟩
  |n + 1,h=>by
    obtain ⟨l,hl,hq⟩:=collect (n:=n) (fun i hi=>h i (by omega))
    obtain ⟨x,hx⟩:=h n (by omega)
    refine ⟨l ++ [x],by simp [hl],fun j y hy=>?_⟩
    rcases Nat.lt_or_ge j l.length with hj|hj
    · rw [List.getElem?_append_left hj] at hy
      exact hq j y hy
    · rw [List.getElem?_append_right hj] at hy
      have h0:j - l.length=0:=by
        rcases Nat.eq_zero_or_pos (j - l.length) with h0|h0
        · exact h0
        · rw [List.getElem?_eq_none (by simp;omega)] at hy
          cases hy
      rw [h0] at hy
      obtain rfl:x=y:=by simpa using hy
      obtain rfl:j=n:=by omega
      exact hx
theorem add_add_ (a:Addr) (i j:Nat):(a.add i).add j=a.add (i + j):=by
  by_cases hi:i=0
  · subst hi
    simp [Addr.add]
  · by_cases hj:j=0
    · subst hj
      simp [Addr.add,hi]
    · simp [Addr.add,hi,hj,Nat.add_assoc]
theorem opens_slice {α:Type} {P:Program} {d:Kd α} {t e:TypeId} {G:α→Prop} (ht:P.underlying t=some (.slice e)) (he:Opens P d e G) (hsz:P.cellsOf e=d.sz) :
    Opens P (Kd.slice e d) t (fun l=>l.length * P.bytesOf e≤140737488351232∧l.length≤maxLen∧∀ x ∈ l,G x):=by
  intro H enc w s hd fuel cs dd ps h hw
  rcases Go.Deep.open_slice ht h with ⟨rfl,_⟩|⟨a,len,cap,m,n,D,Pl,rfl,hb,hl,hm,hmm,hx,hget⟩
  · exact ⟨[],⟨none,0,rfl,Nat.le_refl _,rfl,by simp,fun h0=>absurd h0 (by simp)⟩,by simp,by simp,by simp⟩
  · injection hx with h1 h2
    subst h1
    have hlm:len≤m:=by rw [hmm];split <;> omega
    have hw1:(len * P.bytesOf e≤reachBytes)∧∀ i,i < len→((D i).weights P e).all (·≤reachBytes)=true:=by
      simp only [DataW.weights,ht,List.all_cons,List.all_append,Bool.and_eq_true,decide_eq_true_eq,List.length_map,List.length_range] at hw
      obtain ⟨hw1,hw2,_⟩:=hw
      refine ⟨Nat.le_trans (Nat.mul_le_mul_right _ (Nat.le_add_right _ _)) hw1,fun i hi=>weightsAll_mem (List.mem_map.2 ⟨i,List.mem_range.2 hi,rfl⟩) hw2⟩
    have hex:∀ i:Nat,i < len→∃ x:α,G x∧∃ c,c.length=d.sz∧d.K w x c∧∀ q u,c[q]?=some u→w.cell? ((a.add (i * P.cellsOf e)).add q)=some u:=by
      intro i hi
      obtain ⟨cs',h1,h2⟩:=hget i (by omega)
      obtain ⟨x,hk,hg⟩:=he H enc w s hd n cs' (D i) (Pl i) h2 (hw1.2 i hi)
      obtain ⟨_,hlen,hc⟩:=World.cells?_some h1
      refine ⟨x,hg,cs',hlen.trans hsz,hk,fun q u hq=>?_⟩
      have hq':q < P.cellsOf e:=by rw [← hlen];exact (List.getElem?_eq_some_iff.1 hq).1
      rw [hc q hq']
      exact hq
    obtain ⟨l,hll,hl2⟩:=collect hex
    subst hll
    have hmax:cap≤9223372036854775807:=hm
    refine ⟨l,⟨some a,cap,rfl,hl,rfl,by omega,fun _=>⟨a,rfl,fun j x hj=>?_⟩⟩,hw1.1,Nat.le_trans hl hm,fun x hx=>?_⟩
    · obtain ⟨_,c,hc,hk,hcell⟩:=hl2 j x hj
      refine ⟨c,hc,hk,fun q u hq=>?_⟩
      rw [← add_add_ a (j * d.sz) q,← hsz]
      exact hcell q u hq
    · obtain ⟨j,hj⟩:=List.getElem?_of_mem hx
      exact (hl2 j x hj).1
def OpensF {γ:Type} (P:Program) (fs:List Field) (o n:Nat) (d:Kd γ) (G:γ→Prop):Prop:=
  ∀ (H:Type) (enc:TypeId × Value→H) (w:World) (spare:Nat→Bool) (held:Bool) (fuel:Nat) (cs:List Value) (xs:List (DataW H × List MemPlace)),cs.length=n→xs.length=fs.length→
    (∀ (i:Nat) (f:Field),fs[i]?=some f→DataW.trod enc P w 0 spare held fuel f.type ((cs.drop f.offset).take (P.cellsOf f.type))=xs[i]?)→
    (DataW.weightsEach P (fs.map (·.type)) (xs.map (·.1))).all (·≤reachBytes)=true→∃ x:γ,d.K w x (cs.drop o)∧G x
theorem OpensF.last {γ:Type} {P:Program} {f:Field} {o n:Nat} {d:Kd γ} {G:γ→Prop} (h:Opens P d f.type G) (ho:f.offset=o) (hn:n=o + P.cellsOf f.type):OpensF P [f] o n d G:=by
  intro H enc w s hd fuel cs xs hl hx hf hw
  obtain ⟨x0,rfl⟩:∃ x0,xs=[x0]:=by
    rcases xs with _|⟨x0,_|⟨x1,r⟩⟩
    · cases hx
    · exact ⟨x0,rfl⟩
    · simp at hx
  have h0:=hf 0 f rfl
  rw [ho,List.take_of_length_le (by rw [List.length_drop];omega)] at h0
  obtain ⟨x1,x2⟩:=x0
  refine h H enc w s hd fuel _ x1 x2 (by rw [h0];rfl) ?_
  simpa [DataW.weightsEach] using hw
theorem OpensF.next {α γ:Type} {P:Program} {f:Field} {fs:List Field} {o n:Nat} {a:Kd α} {b:Kd γ} {Ga:α→Prop} {Gb:γ→Prop} (h:Opens P a f.type Ga) (ho:f.offset=o) (m:Nat) (hm:m=o + P.cellsOf f.type) (hr:OpensF P fs m n b Gb) :
    OpensF P (f :: fs) o n (Kd.pair a b) (fun x=>Ga x.1∧Gb x.2):=by
  intro H enc w s hd fuel cs xs hl hx hf hw
  rcases xs with _|⟨⟨x1,x2⟩,xs⟩
  · cases hx
  have h0:=hf 0 f rfl
  rw [ho] at h0
  simp only [List.map_cons,DataW.weightsEach,List.all_append,Bool.and_eq_true] at hw
  obtain ⟨x,hk,hg⟩:=h H enc w s hd fuel _ x1 x2 (by rw [h0];rfl) hw.1
  obtain ⟨y,hk2,hg2⟩:=hr H enc w s hd fuel cs xs hl (by simpa using hx) (fun i f' hf'=>hf (i + 1) f' (by simpa using hf')) hw.2
  refine ⟨(x,y),⟨_,_,?_,hk,hk2⟩,hg,hg2⟩
  rw [hm,← List.drop_drop,List.take_append_drop]
theorem Opens.struct {γ:Type} {P:Program} {t:TypeId} {fs:Array Field} {n:Nat} {d:Kd γ} {G:γ→Prop} (ht:P.underlying t=some (.struct fs)) (hn:P.cellsOf t=n) (h:OpensF P fs.toList 0 n d G):Opens P d t G:=by
  intro H enc w s hd fuel cs dd ps h1 hw
  obtain ⟨xs,m,_,hx,hl,hlen,hf⟩:=DataW.trod_struct ht h1
  injection hx with h2 h3
  subst h2
  have:=h H enc w s hd m cs xs (hl.trans hn) (by simpa using hlen) (fun i f hf'=>hf i f (by simpa using hf')) (by simpa [DataW.weights,ht] using hw)
  simpa using this
theorem Opens.iso {α β:Type} {P:Program} {t:TypeId} {d:Kd α} {G:α→Prop} (h:Opens P d t G) (f:β→α) (g:α→β) (hfg:∀ x,f (g x)=x):Opens P (Kd.iso d f) t (fun y=>G (f y)):=by
  intro H enc w s hd fuel cs dd ps h1 hw
  obtain ⟨x,hk,hg⟩:=h H enc w s hd fuel cs dd ps h1 hw
  exact ⟨g x,by show d.K w (f (g x)) cs;rw [hfg];exact hk,by show G (f (g x));rw [hfg];exact hg⟩
theorem Opens.arg {α:Type} {P:Program} {d:Kd α} {t:TypeId} {G:α→Prop} (h:Opens P d t G) {H:Type} {enc:TypeId × Value→H} {w:World} {spare:Nat→Bool} {held:Bool} {v:Value} {dd:DataW H} {ps:List MemPlace} {ts:List TypeId} {ds:List (DataW H)}
    (hT:DataW.Trod enc P w 0 spare held t v dd ps) (hs:(DataW.weightsEach P ts ds).all (·≤reachBytes)=true) {j:Nat} (h1:ts[j]?=some t) (h2:ds[j]?=some dd):∃ x:α,d.K w x v.cells.toList∧G x:=by
  obtain ⟨fuel,hf⟩:=hT
  exact h H enc w spare held fuel _ dd ps hf (List.all_eq_true.2 (fun n hn=>List.all_eq_true.1 hs n (DataW.weights_mem_each h1 h2 n hn)))
end Go.Proofs.YtnkkdpjipfjdaaaDoorM

end
section
namespace Go.Proofs.YtnkkdpjipfjdaaaDoorM
open Go Go.Proofs.YtnkkdpjipfjdaaaDoor
def tab10:List Int:=[1,10,100,1000,10000,100000,1000000,10000000,100000000,1000000000,10000000000,100000000000,1000000000000,10000000000000,100000000000000,1000000000000000,10000000000000000,100000000000000000,1000000000000000000,10000000000000000000]
def tab32:List Int:=[0,1,28,2,29,14,24,3,30,22,20,15,25,17,4,8,31,27,13,23,21,19,16,7,26,12,18,6,11,5,10,9]
def tab64:List Int:=[0,1,56,2,57,49,28,3,61,58,42,50,38,29,17,4,62,47,59,36,45,43,51,22,53,39,33,30,24,18,12,5,63,55,48,27,60,41,37,16,46,35,44,21,52,32,23,11,54,26,40,15,34,20,31,10,25,14,19,9,13,8,7,6]
def putCells (cs:Array Value):Obj→Obj
  |.cells _ t frozen=>.cells cs t frozen
  |o=>o
noncomputable def laidWorld (os:Os):World:=
  { World.holding Tryd.prog os ⟨#[],#[],[]⟩ with heap:=(((World.holding Tryd.prog os ⟨#[],#[],[]⟩).heap.modify 0 (putCells (tab10.map fun z=>Value.int .u64 z).toArray)).modify 1 (putCells (tab32.map fun z=>Value.int .u8 z).toArray)).modify 2 (putCells (tab64.map fun z=>Value.int .u8 z).toArray) }
theorem laid_met (os:Os) (args:Array Value):laidMet Tryd.prog Rows.signalNamesRow.laid ((laidWorld os).forCall (fun _ _=>0) ⟨#[],args,[]⟩).memory:=
  laidMet_of_run' 8 (by kernel_rfl) (by kernel_rfl)
end Go.Proofs.YtnkkdpjipfjdaaaDoorM

end
