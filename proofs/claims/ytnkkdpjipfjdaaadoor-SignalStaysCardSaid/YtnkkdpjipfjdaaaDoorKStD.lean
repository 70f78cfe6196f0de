/- Own texts of one claim, put one behind the other by wip/tool/pack.py: words beside the print's, what each printed function computes, and the plain laws. -/
import Derived.Test.YtnkkdpjipfjdaaaDoorKStC
section

namespace Go.Proofs.YtnkkdpjipfjdaaaDoor.Q
open Go.RowKit Go.Proofs.YtnkkdpjipfjdaaaDoorW.PrintWords Go.Proofs.YtnkkdpjipfjdaaaDoorW.PrintLast Go.Proofs.YtnkkdpjipfjdaaaDoorW.PrintMore Go.Proofs.YtnkkdpjipfjdaaaDoorM
open Kd
attribute [local go_sem] max2_int min2_int max_two min_two max_three min_three max_four min_four
set_option linter.unusedVariables false
set_option linter.unusedSimpArgs false
mutual
def jobshellref25_Valid.j0:Nat→Bool→List Int→List Int→List Int→Option (Int)
 |0,_,_,_,_=>none
 |k + 1,x21,x274000,x274001,x274002=>if x21=true then (some 1) else (jobshellref25_Valid.l0 k 1 x274000 x274001 x274002)
def jobshellref25_Valid.l0:Nat→Int→List Int→List Int→List Int→Option (Int)
 |0,_,_,_,_=>none
 |k + 1,x3,x274000,x274001,x274002=>if x3≤20 then (if x3=9 then (jobshellref25_Valid.j2 k x3 true x274000 x274001 x274002) else (jobshellref25_Valid.j2 k x3 (x3 == 19) x274000 x274001 x274002)) else (jobshellref25_Valid.l1 k 1 x274000 x274001 x274002)
def jobshellref25_Valid.j2:Nat→Int→Bool→List Int→List Int→List Int→Option (Int)
 |0,_,_,_,_,_=>none
 |k + 1,x3,x4,x274000,x274001,x274002=>if x4=true then ((jobshellref25_Has.f k x274001 x3).bind fun t277=>(if t277=true then (some 1) else ((jobshellref25_Has.f k x274002 x3).bind fun t278=>(if t278=true then (some 1) else (jobshellref25_Valid.l0 k (wrap64 (x3 + 1)) x274000 x274001 x274002))))) else ((jobshellref25_Has.f k x274001 x3).bind fun t279=>(if t279=true then ((jobshellref25_Has.f k x274002 x3).bind fun t280=>(if t280=true then (some 1) else (jobshellref25_Valid.l0 k (wrap64 (x3 + 1)) x274000 x274001 x274002))) else (jobshellref25_Valid.l0 k (wrap64 (x3 + 1)) x274000 x274001 x274002)))
def jobshellref25_Valid.l1:Nat→Int→List Int→List Int→List Int→Option (Int)
 |0,_,_,_,_=>none
 |k + 1,x5,x274000,x274001,x274002=>if x5≤20 then (if x5=18 then (jobshellref25_Valid.j4 k x5 false x274000 x274001 x274002) else ((jobshellref25_Has.f k x274000 x5).bind fun t281=>(if t281=true then ((jobshellref25_Has.f k x274001 x5).bind fun t282=>(jobshellref25_Valid.j4 k x5 t282 x274000 x274001 x274002)) else (jobshellref25_Valid.j4 k x5 false x274000 x274001 x274002)))) else (some 0)
def jobshellref25_Valid.j4:Nat→Int→Bool→List Int→List Int→List Int→Option (Int)
 |0,_,_,_,_,_=>none
 |k + 1,x5,x74,x274000,x274001,x274002=>if x74=true then (some 25) else ((jobshellref25_stops.f x5).bind fun t283=>(if t283=true then ((jobshellref25_Has.f k x274000 x5).bind fun t284=>(if t284=true then ((jobshellref25_Has.f k x274000 18).bind fun t285=>(if t285=true then (some 25) else (jobshellref25_Valid.l1 k (wrap64 (x5 + 1)) x274000 x274001 x274002))) else (jobshellref25_Valid.l1 k (wrap64 (x5 + 1)) x274000 x274001 x274002))) else (jobshellref25_Valid.l1 k (wrap64 (x5 + 1)) x274000 x274001 x274002)))
end
def jobshellref25_Valid.f (k:Nat) (l0_0:List Int) (l0_1:List Int) (l0_2:List Int):Option (Int):=(jobshellref25_list.f k l0_0).bind fun t274=>(if t274=true then ((jobshellref25_list.f k l0_1).bind fun t275=>(if t275=true then ((jobshellref25_list.f k l0_2).bind fun t276=>(jobshellref25_Valid.j0 k (!t276) l0_0 l0_1 l0_2)) else (jobshellref25_Valid.j0 k true l0_0 l0_1 l0_2))) else (jobshellref25_Valid.j0 k true l0_0 l0_1 l0_2))
theorem jobshellref25_Valid.mono_l:∀ k,(∀ y0 y1 y2 y3,LeO (jobshellref25_Valid.j0 k y0 y1 y2 y3) (jobshellref25_Valid.j0 (k + 1) y0 y1 y2 y3))∧(∀ y0 y1 y2 y3,LeO (jobshellref25_Valid.l0 k y0 y1 y2 y3) (jobshellref25_Valid.l0 (k + 1) y0 y1 y2 y3))∧(∀ y0 y1 y2 y3 y4,LeO (jobshellref25_Valid.j2 k y0 y1 y2 y3 y4) (jobshellref25_Valid.j2 (k + 1) y0 y1 y2 y3 y4))∧(∀ y0 y1 y2 y3,LeO (jobshellref25_Valid.l1 k y0 y1 y2 y3) (jobshellref25_Valid.l1 (k + 1) y0 y1 y2 y3))∧(∀ y0 y1 y2 y3 y4,LeO (jobshellref25_Valid.j4 k y0 y1 y2 y3 y4) (jobshellref25_Valid.j4 (k + 1) y0 y1 y2 y3 y4))
 |0=>⟨fun _ _ _ _ r h=>by simp [jobshellref25_Valid.j0] at h,fun _ _ _ _ r h=>by simp [jobshellref25_Valid.l0] at h,fun _ _ _ _ _ r h=>by simp [jobshellref25_Valid.j2] at h,fun _ _ _ _ r h=>by simp [jobshellref25_Valid.l1] at h,fun _ _ _ _ _ r h=>by simp [jobshellref25_Valid.j4] at h⟩
 |k + 1=>by
  obtain ⟨ih0,ih1,ih2,ih3,ih4⟩:=jobshellref25_Valid.mono_l k
  refine ⟨?_,?_,?_,?_,?_⟩
  ·intro y0 y1 y2 y3
   unfold jobshellref25_Valid.j0
   repeat' first
   |(with_reducible exact ih0 _ _ _ _)
   |(with_reducible exact ih1 _ _ _ _)
   |(with_reducible exact ih2 _ _ _ _ _)
   |(with_reducible exact ih3 _ _ _ _)
   |(with_reducible exact ih4 _ _ _ _ _)
   |(with_reducible exact jobshellref25_Has.mono _ _ _)
   |(with_reducible exact jobshellref25_list.mono _ _)
   |(with_reducible exact LeO.refl _)
   |(with_reducible exact LeO.none _)
   |(with_reducible refine LeO.ite ?_ ?_)
   |(with_reducible refine LeO.bind ?_ (fun _=>?_))
   |exact ih0 _ _ _ _
   |exact ih1 _ _ _ _
   |exact ih2 _ _ _ _ _
   |exact ih3 _ _ _ _
   |exact ih4 _ _ _ _ _
   |exact jobshellref25_Has.mono _ _ _
   |exact jobshellref25_list.mono _ _
   |exact LeO.none _
   |refine LeO.ite ?_ ?_
   |refine LeO.bind ?_ (fun _=>?_)
  ·intro y0 y1 y2 y3
   unfold jobshellref25_Valid.l0
   repeat' first
   |(with_reducible exact ih0 _ _ _ _)
   |(with_reducible exact ih1 _ _ _ _)
   |(with_reducible exact ih2 _ _ _ _ _)
   |(with_reducible exact ih3 _ _ _ _)
   |(with_reducible exact ih4 _ _ _ _ _)
   |(with_reducible exact jobshellref25_Has.mono _ _ _)
   |(with_reducible exact jobshellref25_list.mono _ _)
   |(with_reducible exact LeO.refl _)
   |(with_reducible exact LeO.none _)
   |(with_reducible refine LeO.ite ?_ ?_)
   |(with_reducible refine LeO.bind ?_ (fun _=>?_))
   |exact ih0 _ _ _ _
   |exact ih1 _ _ _ _
   |exact ih2 _ _ _ _ _
   |exact ih3 _ _ _ _
   |exact ih4 _ _ _ _ _
   |exact jobshellref25_Has.mono _ _ _
   |exact jobshellref25_list.mono _ _
   |exact LeO.none _
   |refine LeO.ite ?_ ?_
   |refine LeO.bind ?_ (fun _=>?_)
  ·intro y0 y1 y2 y3 y4
   unfold jobshellref25_Valid.j2
   repeat' first
   |(with_reducible exact ih0 _ _ _ _)
   |(with_reducible exact ih1 _ _ _ _)
   |(with_reducible exact ih2 _ _ _ _ _)
   |(with_reducible exact ih3 _ _ _ _)
   |(with_reducible exact ih4 _ _ _ _ _)
   |(with_reducible exact jobshellref25_Has.mono _ _ _)
   |(with_reducible exact jobshellref25_list.mono _ _)
   |(with_reducible exact LeO.refl _)
   |(with_reducible exact LeO.none _)
   |(with_reducible refine LeO.ite ?_ ?_)
   |(with_reducible refine LeO.bind ?_ (fun _=>?_))
   |exact ih0 _ _ _ _
   |exact ih1 _ _ _ _
   |exact ih2 _ _ _ _ _
   |exact ih3 _ _ _ _
   |exact ih4 _ _ _ _ _
   |exact jobshellref25_Has.mono _ _ _
   |exact jobshellref25_list.mono _ _
   |exact LeO.none _
   |refine LeO.ite ?_ ?_
   |refine LeO.bind ?_ (fun _=>?_)
  ·intro y0 y1 y2 y3
   unfold jobshellref25_Valid.l1
   repeat' first
   |(with_reducible exact ih0 _ _ _ _)
   |(with_reducible exact ih1 _ _ _ _)
   |(with_reducible exact ih2 _ _ _ _ _)
   |(with_reducible exact ih3 _ _ _ _)
   |(with_reducible exact ih4 _ _ _ _ _)
   |(with_reducible exact jobshellref25_Has.mono _ _ _)
   |(with_reducible exact jobshellref25_list.mono _ _)
   |(with_reducible exact LeO.refl _)
   |(with_reducible exact LeO.none _)
   |(with_reducible refine LeO.ite ?_ ?_)
   |(with_reducible refine LeO.bind ?_ (fun _=>?_))
   |exact ih0 _ _ _ _
   |exact ih1 _ _ _ _
   |exact ih2 _ _ _ _ _
   |exact ih3 _ _ _ _
   |exact ih4 _ _ _ _ _
   |exact jobshellref25_Has.mono _ _ _
   |exact jobshellref25_list.mono _ _
   |exact LeO.none _
   |refine LeO.ite ?_ ?_
   |refine LeO.bind ?_ (fun _=>?_)
  ·intro y0 y1 y2 y3 y4
   unfold jobshellref25_Valid.j4
   repeat' first
   |(with_reducible exact ih0 _ _ _ _)
   |(with_reducible exact ih1 _ _ _ _)
   |(with_reducible exact ih2 _ _ _ _ _)
   |(with_reducible exact ih3 _ _ _ _)
   |(with_reducible exact ih4 _ _ _ _ _)
   |(with_reducible exact jobshellref25_Has.mono _ _ _)
   |(with_reducible exact jobshellref25_list.mono _ _)
   |(with_reducible exact LeO.refl _)
   |(with_reducible exact LeO.none _)
   |(with_reducible refine LeO.ite ?_ ?_)
   |(with_reducible refine LeO.bind ?_ (fun _=>?_))
   |exact ih0 _ _ _ _
   |exact ih1 _ _ _ _
   |exact ih2 _ _ _ _ _
   |exact ih3 _ _ _ _
   |exact ih4 _ _ _ _ _
   |exact jobshellref25_Has.mono _ _ _
   |exact jobshellref25_list.mono _ _
   |exact LeO.none _
   |refine LeO.ite ?_ ?_
   |refine LeO.bind ?_ (fun _=>?_)
theorem jobshellref25_Valid.mono:∀ a0 a1 a2 k,LeO (jobshellref25_Valid.f k a0 a1 a2) (jobshellref25_Valid.f (k + 1) a0 a1 a2):=by
 intro a0 a1 a2 k
 obtain ⟨ih0,ih1,ih2,ih3,ih4⟩:=jobshellref25_Valid.mono_l k
 unfold jobshellref25_Valid.f
 repeat' first
   |(with_reducible exact ih0 _ _ _ _)
   |(with_reducible exact ih1 _ _ _ _)
   |(with_reducible exact ih2 _ _ _ _ _)
   |(with_reducible exact ih3 _ _ _ _)
   |(with_reducible exact ih4 _ _ _ _ _)
   |(with_reducible exact jobshellref25_Has.mono _ _ _)
   |(with_reducible exact jobshellref25_list.mono _ _)
   |(with_reducible exact LeO.refl _)
   |(with_reducible exact LeO.none _)
   |(with_reducible refine LeO.ite ?_ ?_)
   |(with_reducible refine LeO.bind ?_ (fun _=>?_))
   |exact ih0 _ _ _ _
   |exact ih1 _ _ _ _
   |exact ih2 _ _ _ _ _
   |exact ih3 _ _ _ _
   |exact ih4 _ _ _ _ _
   |exact jobshellref25_Has.mono _ _ _
   |exact jobshellref25_list.mono _ _
   |exact LeO.none _
   |refine LeO.ite ?_ ?_
   |refine LeO.bind ?_ (fun _=>?_)
set_option maxHeartbeats 8000000 in
set_option maxRecDepth 10000000 in
theorem jobshellref25_Valid.calls (k:Nat) (A0_0:Option Addr) (c0_0:Nat) (l0_0:List Int) (A0_1:Option Addr) (c0_1:Nat) (l0_1:List Int) (A0_2:Option Addr) (c0_2:Nat) (l0_2:List Int) (r:Int) (w:World) (hr0_0:Kd.C (Kd.int .i64) w A0_0 l0_0.length l0_0) (hc0_0:l0_0.length≤c0_0) (hr0_1:Kd.C (Kd.int .i64) w A0_1 l0_1.length l0_1) (hc0_1:l0_1.length≤c0_1) (hr0_2:Kd.C (Kd.int .i64) w A0_2 l0_2.length l0_2) (hc0_2:l0_2.length≤c0_2) (h:jobshellref25_Valid.f k l0_0 l0_1 l0_2=some r) :
  Calls Tryd.prog 18 #[.agg #[.slice A0_0 l0_0.length c0_0,.slice A0_1 l0_1.length c0_1,.slice A0_2 l0_2.length c0_2]] w fun e w'=>e=.returned (.int .i64 r)∧Below w.heap.size w w':=by
 have hu30:=Tryd.underlying30
 have HR0_0:=Zk hr0_0
 have HC0_0:=Zk hc0_0
 clear hr0_0 hc0_0
 have HR0_1:=Zk hr0_1
 have HC0_1:=Zk hc0_1
 clear hr0_1 hc0_1
 have HR0_2:=Zk hr0_2
 have HC0_2:=Zk hc0_2
 clear hr0_2 hc0_2
 have HB:=Zk (Below.refl w.heap.size w)
 have H:((jobshellref25_list.f k l0_0).bind fun t274=>(if t274=true then ((jobshellref25_list.f k l0_1).bind fun t275=>(if t275=true then ((jobshellref25_list.f k l0_2).bind fun t276=>(jobshellref25_Valid.j0 k (!t276) l0_0 l0_1 l0_2)) else (jobshellref25_Valid.j0 k true l0_0 l0_1 l0_2))) else (jobshellref25_Valid.j0 k true l0_0 l0_1 l0_2)))=some r:=h
 clear h
 have HC2:=Zk H
 clear H
 go_enter Tryd.func18,Tryd.ntmps18
 go_upto_region 1 with (first|((with_reducible refine yT (N:=1) rfl ?_);refine yV ?hg (N:=1) ?hd (cs:=#[.slice A0_0 l0_0.length c0_0,.slice A0_1 l0_1.length c0_1,.slice A0_2 l0_2.length c0_2]) (t:=30) ?hr ?_;(case hd=>rfl);(case hg=>rfl);(case hr=>first|(go_simp;done)|(go_simp;rfl));intro gb273 hg w3 hbox hb;have n0_:=Zk (yA (by repeat (first|(with_reducible first|exact HB.out|apply zG|apply zD|apply zH)|exact HB.out)) hb);have n1_:=Zk (hbox);have n2_:=Zk ((by rw [hg];exact (zP (by repeat (first|(with_reducible first|exact HB.out|apply zG|apply zD|apply zH)|exact HB.out))):w.heap.size≤gb273));have n3_:=Zk ((by rw [hg];exact (zP (by repeat (first|(with_reducible first|exact HB.out|apply zG|apply zD|apply zH)|exact HB.out))):w.heap.size≤gb273));clear HB;have HB:=n0_;have BK273:=n1_;have GW273:=n2_;have GE273:=n3_;clear n0_ n1_ n2_ n3_;clear hb hbox hg))
 (try simp only [Act.put,List.setIfInBounds_toArray,List.set_cons_zero,List.set_cons_succ])
 go_cut [21] (fun v21 wc=>∃ (kq:Nat) (x21_1:Bool),v21=.bool x21_1∧zN (jobshellref25_Valid.j0 kq x21_1 l0_0 l0_1 l0_2=some r)∧zN (kq≤k)∧zN (wc.heap[gb273]?=some (.cells #[(.slice A0_0 l0_0.length c0_0),(.slice A0_1 l0_1.length c0_1),(.slice A0_2 l0_2.length c0_2)] 30 (0,0)))∧zN (Below w.heap.size w wc))
 case first=>
  have H:=HC2.out
  clear HC2
  replace H:=Option.bind_eq_some_iff.mp H
  obtain ⟨t274,A40,H⟩:=H
  replace H:(if t274=true then ((jobshellref25_list.f k l0_1).bind fun t275=>(if t275=true then ((jobshellref25_list.f k l0_2).bind fun t276=>(jobshellref25_Valid.j0 k (!t276) l0_0 l0_1 l0_2)) else (jobshellref25_Valid.j0 k true l0_0 l0_1 l0_2))) else (jobshellref25_Valid.j0 k true l0_0 l0_1 l0_2))=some r:=H
  have A4:=Zk A40
  clear A40
  by_cases c5:t274=true
  ·subst c5
   have H1:((jobshellref25_list.f k l0_1).bind fun t275=>(if t275=true then ((jobshellref25_list.f k l0_2).bind fun t276=>(jobshellref25_Valid.j0 k (!t276) l0_0 l0_1 l0_2)) else (jobshellref25_Valid.j0 k true l0_0 l0_1 l0_2)))=some r:=by rw [if_pos rfl] at H;exact H
   clear H
   have H:=H1
   clear H1
   replace H:=Option.bind_eq_some_iff.mp H
   obtain ⟨t275,A60,H⟩:=H
   replace H:(if t275=true then ((jobshellref25_list.f k l0_2).bind fun t276=>(jobshellref25_Valid.j0 k (!t276) l0_0 l0_1 l0_2)) else (jobshellref25_Valid.j0 k true l0_0 l0_1 l0_2))=some r:=H
   have A6:=Zk A60
   clear A60
   by_cases c7:t275=true
   ·subst c7
    have H1:((jobshellref25_list.f k l0_2).bind fun t276=>(jobshellref25_Valid.j0 k (!t276) l0_0 l0_1 l0_2))=some r:=by rw [if_pos rfl] at H;exact H
    clear H
    have H:=H1
    clear H1
    replace H:=Option.bind_eq_some_iff.mp H
    obtain ⟨t276,A80,H⟩:=H
    replace H:(jobshellref25_Valid.j0 k (!t276) l0_0 l0_1 l0_2)=some r:=H
    have A8:=Zk A80
    clear A80
    have H':=Zk H
    clear H
    have hcz9_0:w3.cell? ⟨gb273,0,none⟩=some (.slice A0_0 l0_0.length c0_0):=(zJ BK273.out 0).trans rfl
    have hcz9_1:w3.cell? ⟨gb273,1,none⟩=some (.slice A0_1 l0_1.length c0_1):=(zJ BK273.out 1).trans rfl
    have hcz9_2:w3.cell? ⟨gb273,2,none⟩=some (.slice A0_2 l0_2.length c0_2):=(zJ BK273.out 2).trans rfl
    have hfz9_0:=zI BK273.out 0
    have hfz9_1:=zI BK273.out 1
    have hfz9_2:=zI BK273.out 2
    go_wp2_with (first|((with_reducible refine yD (f:=36) rfl ?_);refine yM (some 8) rfl rfl Tryd.func36 (by kernel_rfl) rfl #[.slice A0_0 l0_0.length c0_0] rfl (by (try simp only [List.map_toArray,List.map_cons,List.map_nil]);first|done|rfl|(simp only [List.length_drop,List.length_take];rfl)) ?_;(with_reducible refine (jobshellref25_list.calls k _ _ l0_0 true _ ?side1 ?side2 A4.out).mono ?_);(case side1=>repeat (first|exact (yS HR0_0.out HB.out)|(with_reducible refine yG ?_ _)|(with_reducible refine yF ?_ _)|(with_reducible refine yI ?_)));(case side2=>exact HC0_0.out);rintro e w' ⟨rfl,⟨nd,rfl⟩⟩;refine ⟨_,rfl,?_⟩)|(go_at_call 36;(with_reducible refine (jobshellref25_list.calls k _ _ l0_1 true _ ?side1 ?side2 A6.out).mono ?_);(case side1=>repeat (first|exact (yS HR0_1.out (by repeat (first|(with_reducible first|exact HB.out|apply zG|apply zD|apply zH|refine zC ?_ GE273.out)|exact HB.out)))|(with_reducible refine yG ?_ _)|(with_reducible refine yF ?_ _)|(with_reducible refine yI ?_)));(case side2=>exact HC0_1.out);rintro e w' ⟨rfl,⟨nd,rfl⟩⟩)|(go_at_call 36;(with_reducible refine (jobshellref25_list.calls k _ _ l0_2 t276 _ ?side1 ?side2 A8.out).mono ?_);(case side1=>repeat (first|exact (yS HR0_2.out (by repeat (first|(with_reducible first|exact HB.out|apply zG|apply zD|apply zH|refine zC ?_ GE273.out)|exact HB.out)))|(with_reducible refine yG ?_ _)|(with_reducible refine yF ?_ _)|(with_reducible refine yI ?_)));(case side2=>exact HC0_2.out);rintro e w' ⟨rfl,⟨nd,rfl⟩⟩))
    go_meet
    case rel=>exact ⟨_,(!t276),(by first|rfl|(simp;done)|(simp [*];done)|(generalize ByteArray.toList _=l_;cases l_ <;> rfl)),H',⟨by first|omega|exact Nat.le_refl _⟩,⟨by (with_reducible repeat (first|refine zB ?_ _|refine zF ?_|refine zA ?_ _));exact BK273.out⟩,⟨by repeat (first|(with_reducible first|exact HB.out|apply zG|apply zD|apply zH|refine zC ?_ GE273.out)|exact HB.out)⟩⟩
   ·replace c7:=Bool.eq_false_iff.mpr c7
    subst c7
    have H1:(jobshellref25_Valid.j0 k true l0_0 l0_1 l0_2)=some r:=by rw [if_neg (show ¬ (false=true) by decide)] at H;exact H
    clear H
    have H:=H1
    clear H1
    have H':=Zk H
    clear H
    have hcz10_0:w3.cell? ⟨gb273,0,none⟩=some (.slice A0_0 l0_0.length c0_0):=(zJ BK273.out 0).trans rfl
    have hcz10_1:w3.cell? ⟨gb273,1,none⟩=some (.slice A0_1 l0_1.length c0_1):=(zJ BK273.out 1).trans rfl
    have hcz10_2:w3.cell? ⟨gb273,2,none⟩=some (.slice A0_2 l0_2.length c0_2):=(zJ BK273.out 2).trans rfl
    have hfz10_0:=zI BK273.out 0
    have hfz10_1:=zI BK273.out 1
    have hfz10_2:=zI BK273.out 2
    go_wp2_with (first|((with_reducible refine yD (f:=36) rfl ?_);refine yM (some 8) rfl rfl Tryd.func36 (by kernel_rfl) rfl #[.slice A0_0 l0_0.length c0_0] rfl (by (try simp only [List.map_toArray,List.map_cons,List.map_nil]);first|done|rfl|(simp only [List.length_drop,List.length_take];rfl)) ?_;(with_reducible refine (jobshellref25_list.calls k _ _ l0_0 true _ ?side1 ?side2 A4.out).mono ?_);(case side1=>repeat (first|exact (yS HR0_0.out HB.out)|(with_reducible refine yG ?_ _)|(with_reducible refine yF ?_ _)|(with_reducible refine yI ?_)));(case side2=>exact HC0_0.out);rintro e w' ⟨rfl,⟨nd,rfl⟩⟩;refine ⟨_,rfl,?_⟩)|(go_at_call 36;(with_reducible refine (jobshellref25_list.calls k _ _ l0_1 false _ ?side1 ?side2 A6.out).mono ?_);(case side1=>repeat (first|exact (yS HR0_1.out (by repeat (first|(with_reducible first|exact HB.out|apply zG|apply zD|apply zH|refine zC ?_ GE273.out)|exact HB.out)))|(with_reducible refine yG ?_ _)|(with_reducible refine yF ?_ _)|(with_reducible refine yI ?_)));(case side2=>exact HC0_1.out);rintro e w' ⟨rfl,⟨nd,rfl⟩⟩))
    go_meet
    case rel=>exact ⟨_,(true),(by first|rfl|(simp;done)|(simp [*];done)|(generalize ByteArray.toList _=l_;cases l_ <;> rfl)),H',⟨by first|omega|exact Nat.le_refl _⟩,⟨by (with_reducible repeat (first|refine zB ?_ _|refine zF ?_|refine zA ?_ _));exact BK273.out⟩,⟨by repeat (first|(with_reducible first|exact HB.out|apply zG|apply zD|apply zH|refine zC ?_ GE273.out)|exact HB.out)⟩⟩
  ·replace c5:=Bool.eq_false_iff.mpr c5
   subst c5
   have H1:(jobshellref25_Valid.j0 k true l0_0 l0_1 l0_2)=some r:=by rw [if_neg (show ¬ (false=true) by decide)] at H;exact H
   clear H
   have H:=H1
   clear H1
   have H':=Zk H
   clear H
   have hcz11_0:w3.cell? ⟨gb273,0,none⟩=some (.slice A0_0 l0_0.length c0_0):=(zJ BK273.out 0).trans rfl
   have hcz11_1:w3.cell? ⟨gb273,1,none⟩=some (.slice A0_1 l0_1.length c0_1):=(zJ BK273.out 1).trans rfl
   have hcz11_2:w3.cell? ⟨gb273,2,none⟩=some (.slice A0_2 l0_2.length c0_2):=(zJ BK273.out 2).trans rfl
   have hfz11_0:=zI BK273.out 0
   have hfz11_1:=zI BK273.out 1
   have hfz11_2:=zI BK273.out 2
   go_wp2_with (first|((with_reducible refine yD (f:=36) rfl ?_);refine yM (some 8) rfl rfl Tryd.func36 (by kernel_rfl) rfl #[.slice A0_0 l0_0.length c0_0] rfl (by (try simp only [List.map_toArray,List.map_cons,List.map_nil]);first|done|rfl|(simp only [List.length_drop,List.length_take];rfl)) ?_;(with_reducible refine (jobshellref25_list.calls k _ _ l0_0 false _ ?side1 ?side2 A4.out).mono ?_);(case side1=>repeat (first|exact (yS HR0_0.out HB.out)|(with_reducible refine yG ?_ _)|(with_reducible refine yF ?_ _)|(with_reducible refine yI ?_)));(case side2=>exact HC0_0.out);rintro e w' ⟨rfl,⟨nd,rfl⟩⟩;refine ⟨_,rfl,?_⟩))
   go_meet
   case rel=>exact ⟨_,(true),(by first|rfl|(simp;done)|(simp [*];done)|(generalize ByteArray.toList _=l_;cases l_ <;> rfl)),H',⟨by first|omega|exact Nat.le_refl _⟩,⟨by (with_reducible repeat (first|refine zB ?_ _|refine zF ?_|refine zA ?_ _));exact BK273.out⟩,⟨by repeat (first|(with_reducible first|exact HB.out|apply zG|apply zD|apply zH|refine zC ?_ GE273.out)|exact HB.out)⟩⟩
 case rest=>
  clear HC2
  try clear c1
  try clear p2
  try clear c3
  try clear c5
  try clear c7
  try clear hcz10_0
  try clear hcz10_1
  try clear hcz10_2
  try clear hcz11_0
  try clear hcz11_1
  try clear hcz11_2
  try clear hcz9_0
  try clear hcz9_1
  try clear hcz9_2
  try clear hfz10_0
  try clear hfz10_1
  try clear hfz10_2
  try clear hfz11_0
  try clear hfz11_1
  try clear hfz11_2
  try clear hfz9_0
  try clear hfz9_1
  try clear hfz9_2
  obtain ⟨kq,x21_1,rfl,HA,HJ1,BK273,HB⟩:=hcut
  cases kq with
  |zero=>exact absurd HA.out (by simp [jobshellref25_Valid.j0])
  |succ kj1=>
   have H:=HA.out
   clear HA
   simp only [jobshellref25_Valid.j0] at H
   by_cases c12:x21_1=true
   ·subst c12
    have H1:(some 1)=some r:=by rw [if_pos rfl] at H;exact H
    clear H
    have H:=H1
    clear H1
    obtain rfl:=Option.some.inj H
    go_wp2
    go_ret
    exact ⟨by first|rfl|(simp [errW_none,errW_some] <;> rfl)|(simp [*,errW_none,errW_some] <;> rfl),by repeat (first|(with_reducible first|exact HB.out|apply zG|apply zD|apply zH|refine zC ?_ GE273.out)|exact HB.out)⟩
   ·replace c12:=Bool.eq_false_iff.mpr c12
    subst c12
    have H1:(jobshellref25_Valid.l0 kj1 1 l0_0 l0_1 l0_2)=some r:=by rw [if_neg (show ¬ (false=true) by decide)] at H;exact H
    clear H
    have H:=H1
    clear H1
    have H':=Zk H
    clear H
    go_wp2
    go_loopg [3] kj1 (fun kq v3 w'=>∃ (x3_2:Int),v3=.int .i64 x3_2∧zN (jobshellref25_Valid.l0 kq x3_2 l0_0 l0_1 l0_2=some r)∧zN (kq≤kj1)∧zN (w'.heap[gb273]?=some (.cells #[(.slice A0_0 l0_0.length c0_0),(.slice A0_1 l0_1.length c0_1),(.slice A0_2 l0_2.length c0_2)] 30 (0,0)))∧zN (Below w.heap.size w w'))
    case atStart=>exact ⟨(1),(by first|rfl|(simp;done)|(simp [*];done)|(generalize ByteArray.toList _=l_;cases l_ <;> rfl)),H',⟨Nat.le_refl _⟩,⟨by (with_reducible repeat (first|refine zB ?_ _|refine zF ?_|refine zA ?_ _));exact BK273.out⟩,⟨by repeat (first|(with_reducible first|exact HB.out|apply zG|apply zD|apply zH|refine zC ?_ GE273.out)|exact HB.out)⟩⟩
    case round=>
     clear H'
     try clear c1
     try clear p2
     try clear c3
     try clear c5
     try clear c7
     try clear c12
     try clear hcz10_0
     try clear hcz10_1
     try clear hcz10_2
     try clear hcz11_0
     try clear hcz11_1
     try clear hcz11_2
     try clear hcz9_0
     try clear hcz9_1
     try clear hcz9_2
     try clear hfz10_0
     try clear hfz10_1
     try clear hfz10_2
     try clear hfz11_0
     try clear hfz11_1
     try clear hfz11_2
     try clear hfz9_0
     try clear hfz9_1
     try clear hfz9_2
     try clear p2
     obtain ⟨x3_2,rfl,HA,HK2,BK273,HB⟩:=hrel
     cases gk with
     |zero=>exact absurd HA.out (by simp [jobshellref25_Valid.l0])
     |succ k2=>
      have H:=HA.out
      clear HA
      simp only [jobshellref25_Valid.l0] at H
      by_cases c13:x3_2≤20
      ·rw [if_pos c13] at H
       have c13b0:decide (x3_2≤20)=true:=decide_eq_true c13
       clear c13
       have HC14:=Zk H
       clear H
       go_upto_region 6 with (fail)
       go_cut [4] (fun v4 wc=>∃ (kq:Nat) (x4_13:Bool),v4=.bool x4_13∧zN (jobshellref25_Valid.j2 kq x3_2 x4_13 l0_0 l0_1 l0_2=some r)∧zN (kq≤k2)∧zN (wc.heap[gb273]?=some (.cells #[(.slice A0_0 l0_0.length c0_0),(.slice A0_1 l0_1.length c0_1),(.slice A0_2 l0_2.length c0_2)] 30 (0,0)))∧zN (Below w.heap.size w wc))
       case first=>
        have H:=HC14.out
        clear HC14
        by_cases c15:x3_2=9
        ·rw [if_pos c15] at H
         have c15b0:(x3_2 == 9)=true:=beq_iff_eq.mpr c15
         have c15b1:(x3_2 != 9)=false:=bne_eq_false_iff_eq.mpr c15
         clear c15
         (first|rw [c15b0]|(simp only [yX,i32_w];rw [c15b0])|skip)
         have H':=Zk H
         clear H
         go_wp2
         go_meet
         case rel=>exact ⟨_,(true),(by first|rfl|(simp;done)|(simp [*];done)|(generalize ByteArray.toList _=l_;cases l_ <;> rfl)),H',⟨by have:=HJ1.out;have:=HK2.out;first|omega|exact Nat.le_refl _⟩,⟨by (with_reducible repeat (first|refine zB ?_ _|refine zF ?_|refine zA ?_ _));exact BK273.out⟩,⟨by repeat (first|(with_reducible first|exact HB.out|apply zG|apply zD|apply zH|refine zC ?_ GE273.out)|exact HB.out)⟩⟩
        ·rw [if_neg c15] at H
         have c15b0:(x3_2 == 9)=false:=beq_eq_false_iff_ne.mpr c15
         have c15b1:(x3_2 != 9)=true:=bne_iff_ne.mpr c15
         (first|rw [c15b0]|(simp only [yX,i32_w];rw [c15b0])|skip)
         have H':=Zk H
         clear H
         go_wp2
         go_meet
         case rel=>exact ⟨_,((x3_2 == 19)),(by first|rfl|(simp;done)|(simp [*];done)|(generalize ByteArray.toList _=l_;cases l_ <;> rfl)),H',⟨by have:=HJ1.out;have:=HK2.out;first|omega|exact Nat.le_refl _⟩,⟨by (with_reducible repeat (first|refine zB ?_ _|refine zF ?_|refine zA ?_ _));exact BK273.out⟩,⟨by repeat (first|(with_reducible first|exact HB.out|apply zG|apply zD|apply zH|refine zC ?_ GE273.out)|exact HB.out)⟩⟩
       case rest=>
        clear HC14
        try clear c1
        try clear p2
        try clear c3
        try clear c5
        try clear c7
        try clear c12
        try clear c13
        try clear c13b0
        try clear c15
        try clear c15b0
        try clear c15b1
        try clear hcz10_0
        try clear hcz10_1
        try clear hcz10_2
        try clear hcz11_0
        try clear hcz11_1
        try clear hcz11_2
        try clear hcz9_0
        try clear hcz9_1
        try clear hcz9_2
        try clear hfz10_0
        try clear hfz10_1
        try clear hfz10_2
        try clear hfz11_0
        try clear hfz11_1
        try clear hfz11_2
        try clear hfz9_0
        try clear hfz9_1
        try clear hfz9_2
        try clear p2
        obtain ⟨kq,x4_13,rfl,HA,HJ13,BK273,HB⟩:=hcut
        cases kq with
        |zero=>exact absurd HA.out (by simp [jobshellref25_Valid.j2])
        |succ kj13=>
         have H:=HA.out
         clear HA
         simp only [jobshellref25_Valid.j2] at H
         by_cases c16:x4_13=true
         ·subst c16
          have H1:((jobshellref25_Has.f kj13 l0_1 x3_2).bind fun t277=>(if t277=true then (some 1) else ((jobshellref25_Has.f kj13 l0_2 x3_2).bind fun t278=>(if t278=true then (some 1) else (jobshellref25_Valid.l0 kj13 (wrap64 (x3_2 + 1)) l0_0 l0_1 l0_2)))))=some r:=by rw [if_pos rfl] at H;exact H
          clear H
          have H:=H1
          clear H1
          replace H:=Option.bind_eq_some_iff.mp H
          obtain ⟨t277,A170,H⟩:=H
          replace H:(if t277=true then (some 1) else ((jobshellref25_Has.f kj13 l0_2 x3_2).bind fun t278=>(if t278=true then (some 1) else (jobshellref25_Valid.l0 kj13 (wrap64 (x3_2 + 1)) l0_0 l0_1 l0_2))))=some r:=H
          have A17:=Zk A170
          clear A170
          by_cases c18:t277=true
          ·subst c18
           have H1:(some 1)=some r:=by rw [if_pos rfl] at H;exact H
           clear H
           have H:=H1
           clear H1
           obtain rfl:=Option.some.inj H
           have hcz19_0:wc.cell? ⟨gb273,0,none⟩=some (.slice A0_0 l0_0.length c0_0):=(zJ BK273.out 0).trans rfl
           have hcz19_1:wc.cell? ⟨gb273,1,none⟩=some (.slice A0_1 l0_1.length c0_1):=(zJ BK273.out 1).trans rfl
           have hcz19_2:wc.cell? ⟨gb273,2,none⟩=some (.slice A0_2 l0_2.length c0_2):=(zJ BK273.out 2).trans rfl
           have hfz19_0:=zI BK273.out 0
           have hfz19_1:=zI BK273.out 1
           have hfz19_2:=zI BK273.out 2
           go_wp2_with (first|(go_at_call 24;(with_reducible refine (jobshellref25_Has.calls kj13 _ _ l0_1 x3_2 true _ ?side1 ?side2 A17.out).mono ?_);(case side1=>repeat (first|exact (yS HR0_1.out HB.out)|(with_reducible refine yG ?_ _)|(with_reducible refine yF ?_ _)|(with_reducible refine yI ?_)));(case side2=>exact HC0_1.out);rintro e w' ⟨rfl,⟨nd,rfl⟩⟩))
           go_ret
           exact ⟨by first|rfl|(simp [errW_none,errW_some] <;> rfl)|(simp [*,errW_none,errW_some] <;> rfl),by repeat (first|(with_reducible first|exact HB.out|apply zG|apply zD|apply zH|refine zC ?_ GE273.out)|exact HB.out)⟩
          ·replace c18:=Bool.eq_false_iff.mpr c18
           subst c18
           have H1:((jobshellref25_Has.f kj13 l0_2 x3_2).bind fun t278=>(if t278=true then (some 1) else (jobshellref25_Valid.l0 kj13 (wrap64 (x3_2 + 1)) l0_0 l0_1 l0_2)))=some r:=by rw [if_neg (show ¬ (false=true) by decide)] at H;exact H
           clear H
           have H:=H1
           clear H1
           replace H:=Option.bind_eq_some_iff.mp H
           obtain ⟨t278,A200,H⟩:=H
           replace H:(if t278=true then (some 1) else (jobshellref25_Valid.l0 kj13 (wrap64 (x3_2 + 1)) l0_0 l0_1 l0_2))=some r:=H
           have A20:=Zk A200
           clear A200
           by_cases c21:t278=true
           ·subst c21
            have H1:(some 1)=some r:=by rw [if_pos rfl] at H;exact H
            clear H
            have H:=H1
            clear H1
            obtain rfl:=Option.some.inj H
            have hcz22_0:wc.cell? ⟨gb273,0,none⟩=some (.slice A0_0 l0_0.length c0_0):=(zJ BK273.out 0).trans rfl
            have hcz22_1:wc.cell? ⟨gb273,1,none⟩=some (.slice A0_1 l0_1.length c0_1):=(zJ BK273.out 1).trans rfl
            have hcz22_2:wc.cell? ⟨gb273,2,none⟩=some (.slice A0_2 l0_2.length c0_2):=(zJ BK273.out 2).trans rfl
            have hfz22_0:=zI BK273.out 0
            have hfz22_1:=zI BK273.out 1
            have hfz22_2:=zI BK273.out 2
            go_wp2_with (first|(go_at_call 24;(with_reducible refine (jobshellref25_Has.calls kj13 _ _ l0_1 x3_2 false _ ?side1 ?side2 A17.out).mono ?_);(case side1=>repeat (first|exact (yS HR0_1.out HB.out)|(with_reducible refine yG ?_ _)|(with_reducible refine yF ?_ _)|(with_reducible refine yI ?_)));(case side2=>exact HC0_1.out);rintro e w' ⟨rfl,⟨nd,rfl⟩⟩)|(go_at_call 24;(with_reducible refine (jobshellref25_Has.calls kj13 _ _ l0_2 x3_2 true _ ?side1 ?side2 A20.out).mono ?_);(case side1=>repeat (first|exact (yS HR0_2.out (by repeat (first|(with_reducible first|exact HB.out|apply zG|apply zD|apply zH|refine zC ?_ GE273.out)|exact HB.out)))|(with_reducible refine yG ?_ _)|(with_reducible refine yF ?_ _)|(with_reducible refine yI ?_)));(case side2=>exact HC0_2.out);rintro e w' ⟨rfl,⟨nd,rfl⟩⟩))
            go_ret
            exact ⟨by first|rfl|(simp [errW_none,errW_some] <;> rfl)|(simp [*,errW_none,errW_some] <;> rfl),by repeat (first|(with_reducible first|exact HB.out|apply zG|apply zD|apply zH|refine zC ?_ GE273.out)|exact HB.out)⟩
           ·replace c21:=Bool.eq_false_iff.mpr c21
            subst c21
            have H1:(jobshellref25_Valid.l0 kj13 (wrap64 (x3_2 + 1)) l0_0 l0_1 l0_2)=some r:=by rw [if_neg (show ¬ (false=true) by decide)] at H;exact H
            clear H
            have H:=H1
            clear H1
            have H':=Zk H
            clear H
            have hcz23_0:wc.cell? ⟨gb273,0,none⟩=some (.slice A0_0 l0_0.length c0_0):=(zJ BK273.out 0).trans rfl
            have hcz23_1:wc.cell? ⟨gb273,1,none⟩=some (.slice A0_1 l0_1.length c0_1):=(zJ BK273.out 1).trans rfl
            have hcz23_2:wc.cell? ⟨gb273,2,none⟩=some (.slice A0_2 l0_2.length c0_2):=(zJ BK273.out 2).trans rfl
            have hfz23_0:=zI BK273.out 0
            have hfz23_1:=zI BK273.out 1
            have hfz23_2:=zI BK273.out 2
            go_wp2_with (first|(go_at_call 24;(with_reducible refine (jobshellref25_Has.calls kj13 _ _ l0_1 x3_2 false _ ?side1 ?side2 A17.out).mono ?_);(case side1=>repeat (first|exact (yS HR0_1.out HB.out)|(with_reducible refine yG ?_ _)|(with_reducible refine yF ?_ _)|(with_reducible refine yI ?_)));(case side2=>exact HC0_1.out);rintro e w' ⟨rfl,⟨nd,rfl⟩⟩)|(go_at_call 24;(with_reducible refine (jobshellref25_Has.calls kj13 _ _ l0_2 x3_2 false _ ?side1 ?side2 A20.out).mono ?_);(case side1=>repeat (first|exact (yS HR0_2.out (by repeat (first|(with_reducible first|exact HB.out|apply zG|apply zD|apply zH|refine zC ?_ GE273.out)|exact HB.out)))|(with_reducible refine yG ?_ _)|(with_reducible refine yF ?_ _)|(with_reducible refine yI ?_)));(case side2=>exact HC0_2.out);rintro e w' ⟨rfl,⟨nd,rfl⟩⟩))
            go_roundg kj13
            case measure=>have:=HJ1.out;have:=HK2.out;have:=HJ13.out;omega
            case rel=>exact ⟨(wrap64 (x3_2 + 1)),(by first|rfl|(simp;done)|(simp [*];done)|(generalize ByteArray.toList _=l_;cases l_ <;> rfl)),H',⟨by have:=HJ1.out;have:=HK2.out;have:=HJ13.out;omega⟩,⟨by (with_reducible repeat (first|refine zB ?_ _|refine zF ?_|refine zA ?_ _));exact BK273.out⟩,⟨by repeat (first|(with_reducible first|exact HB.out|apply zG|apply zD|apply zH|refine zC ?_ GE273.out)|exact HB.out)⟩⟩
         ·replace c16:=Bool.eq_false_iff.mpr c16
          subst c16
          have H1:((jobshellref25_Has.f kj13 l0_1 x3_2).bind fun t279=>(if t279=true then ((jobshellref25_Has.f kj13 l0_2 x3_2).bind fun t280=>(if t280=true then (some 1) else (jobshellref25_Valid.l0 kj13 (wrap64 (x3_2 + 1)) l0_0 l0_1 l0_2))) else (jobshellref25_Valid.l0 kj13 (wrap64 (x3_2 + 1)) l0_0 l0_1 l0_2)))=some r:=by rw [if_neg (show ¬ (false=true) by decide)] at H;exact H
          clear H
          have H:=H1
          clear H1
          replace H:=Option.bind_eq_some_iff.mp H
          obtain ⟨t279,A240,H⟩:=H
          replace H:(if t279=true then ((jobshellref25_Has.f kj13 l0_2 x3_2).bind fun t280=>(if t280=true then (some 1) else (jobshellref25_Valid.l0 kj13 (wrap64 (x3_2 + 1)) l0_0 l0_1 l0_2))) else (jobshellref25_Valid.l0 kj13 (wrap64 (x3_2 + 1)) l0_0 l0_1 l0_2))=some r:=H
          have A24:=Zk A240
          clear A240
          by_cases c25:t279=true
          ·subst c25
           have H1:((jobshellref25_Has.f kj13 l0_2 x3_2).bind fun t280=>(if t280=true then (some 1) else (jobshellref25_Valid.l0 kj13 (wrap64 (x3_2 + 1)) l0_0 l0_1 l0_2)))=some r:=by rw [if_pos rfl] at H;exact H
           clear H
           have H:=H1
           clear H1
           replace H:=Option.bind_eq_some_iff.mp H
           obtain ⟨t280,A260,H⟩:=H
           replace H:(if t280=true then (some 1) else (jobshellref25_Valid.l0 kj13 (wrap64 (x3_2 + 1)) l0_0 l0_1 l0_2))=some r:=H
           have A26:=Zk A260
           clear A260
           by_cases c27:t280=true
           ·subst c27
            have H1:(some 1)=some r:=by rw [if_pos rfl] at H;exact H
            clear H
            have H:=H1
            clear H1
            obtain rfl:=Option.some.inj H
            have hcz28_0:wc.cell? ⟨gb273,0,none⟩=some (.slice A0_0 l0_0.length c0_0):=(zJ BK273.out 0).trans rfl
            have hcz28_1:wc.cell? ⟨gb273,1,none⟩=some (.slice A0_1 l0_1.length c0_1):=(zJ BK273.out 1).trans rfl
            have hcz28_2:wc.cell? ⟨gb273,2,none⟩=some (.slice A0_2 l0_2.length c0_2):=(zJ BK273.out 2).trans rfl
            have hfz28_0:=zI BK273.out 0
            have hfz28_1:=zI BK273.out 1
            have hfz28_2:=zI BK273.out 2
            go_wp2_with (first|(go_at_call 24;(with_reducible refine (jobshellref25_Has.calls kj13 _ _ l0_1 x3_2 true _ ?side1 ?side2 A24.out).mono ?_);(case side1=>repeat (first|exact (yS HR0_1.out HB.out)|(with_reducible refine yG ?_ _)|(with_reducible refine yF ?_ _)|(with_reducible refine yI ?_)));(case side2=>exact HC0_1.out);rintro e w' ⟨rfl,⟨nd,rfl⟩⟩)|(go_at_call 24;(with_reducible refine (jobshellref25_Has.calls kj13 _ _ l0_2 x3_2 true _ ?side1 ?side2 A26.out).mono ?_);(case side1=>repeat (first|exact (yS HR0_2.out (by repeat (first|(with_reducible first|exact HB.out|apply zG|apply zD|apply zH|refine zC ?_ GE273.out)|exact HB.out)))|(with_reducible refine yG ?_ _)|(with_reducible refine yF ?_ _)|(with_reducible refine yI ?_)));(case side2=>exact HC0_2.out);rintro e w' ⟨rfl,⟨nd,rfl⟩⟩))
            go_ret
            exact ⟨by first|rfl|(simp [errW_none,errW_some] <;> rfl)|(simp [*,errW_none,errW_some] <;> rfl),by repeat (first|(with_reducible first|exact HB.out|apply zG|apply zD|apply zH|refine zC ?_ GE273.out)|exact HB.out)⟩
           ·replace c27:=Bool.eq_false_iff.mpr c27
            subst c27
            have H1:(jobshellref25_Valid.l0 kj13 (wrap64 (x3_2 + 1)) l0_0 l0_1 l0_2)=some r:=by rw [if_neg (show ¬ (false=true) by decide)] at H;exact H
            clear H
            have H:=H1
            clear H1
            have H':=Zk H
            clear H
            have hcz29_0:wc.cell? ⟨gb273,0,none⟩=some (.slice A0_0 l0_0.length c0_0):=(zJ BK273.out 0).trans rfl
            have hcz29_1:wc.cell? ⟨gb273,1,none⟩=some (.slice A0_1 l0_1.length c0_1):=(zJ BK273.out 1).trans rfl
            have hcz29_2:wc.cell? ⟨gb273,2,none⟩=some (.slice A0_2 l0_2.length c0_2):=(zJ BK273.out 2).trans rfl
            have hfz29_0:=zI BK273.out 0
            have hfz29_1:=zI BK273.out 1
            have hfz29_2:=zI BK273.out 2
            go_wp2_with (first|(go_at_call 24;(with_reducible refine (jobshellref25_Has.calls kj13 _ _ l0_1 x3_2 true _ ?side1 ?side2 A24.out).mono ?_);(case side1=>repeat (first|exact (yS HR0_1.out HB.out)|(with_reducible refine yG ?_ _)|(with_reducible refine yF ?_ _)|(with_reducible refine yI ?_)));(case side2=>exact HC0_1.out);rintro e w' ⟨rfl,⟨nd,rfl⟩⟩)|(go_at_call 24;(with_reducible refine (jobshellref25_Has.calls kj13 _ _ l0_2 x3_2 false _ ?side1 ?side2 A26.out).mono ?_);(case side1=>repeat (first|exact (yS HR0_2.out (by repeat (first|(with_reducible first|exact HB.out|apply zG|apply zD|apply zH|refine zC ?_ GE273.out)|exact HB.out)))|(with_reducible refine yG ?_ _)|(with_reducible refine yF ?_ _)|(with_reducible refine yI ?_)));(case side2=>exact HC0_2.out);rintro e w' ⟨rfl,⟨nd,rfl⟩⟩))
            go_roundg kj13
            case measure=>have:=HJ1.out;have:=HK2.out;have:=HJ13.out;omega
            case rel=>exact ⟨(wrap64 (x3_2 + 1)),(by first|rfl|(simp;done)|(simp [*];done)|(generalize ByteArray.toList _=l_;cases l_ <;> rfl)),H',⟨by have:=HJ1.out;have:=HK2.out;have:=HJ13.out;omega⟩,⟨by (with_reducible repeat (first|refine zB ?_ _|refine zF ?_|refine zA ?_ _));exact BK273.out⟩,⟨by repeat (first|(with_reducible first|exact HB.out|apply zG|apply zD|apply zH|refine zC ?_ GE273.out)|exact HB.out)⟩⟩
          ·replace c25:=Bool.eq_false_iff.mpr c25
           subst c25
           have H1:(jobshellref25_Valid.l0 kj13 (wrap64 (x3_2 + 1)) l0_0 l0_1 l0_2)=some r:=by rw [if_neg (show ¬ (false=true) by decide)] at H;exact H
           clear H
           have H:=H1
           clear H1
           have H':=Zk H
           clear H
           have hcz30_0:wc.cell? ⟨gb273,0,none⟩=some (.slice A0_0 l0_0.length c0_0):=(zJ BK273.out 0).trans rfl
           have hcz30_1:wc.cell? ⟨gb273,1,none⟩=some (.slice A0_1 l0_1.length c0_1):=(zJ BK273.out 1).trans rfl
           have hcz30_2:wc.cell? ⟨gb273,2,none⟩=some (.slice A0_2 l0_2.length c0_2):=(zJ BK273.out 2).trans rfl
           have hfz30_0:=zI BK273.out 0
           have hfz30_1:=zI BK273.out 1
           have hfz30_2:=zI BK273.out 2
           go_wp2_with (first|(go_at_call 24;(with_reducible refine (jobshellref25_Has.calls kj13 _ _ l0_1 x3_2 false _ ?side1 ?side2 A24.out).mono ?_);(case side1=>repeat (first|exact (yS HR0_1.out HB.out)|(with_reducible refine yG ?_ _)|(with_reducible refine yF ?_ _)|(with_reducible refine yI ?_)));(case side2=>exact HC0_1.out);rintro e w' ⟨rfl,⟨nd,rfl⟩⟩))
           go_roundg kj13
           case measure=>have:=HJ1.out;have:=HK2.out;have:=HJ13.out;omega
           case rel=>exact ⟨(wrap64 (x3_2 + 1)),(by first|rfl|(simp;done)|(simp [*];done)|(generalize ByteArray.toList _=l_;cases l_ <;> rfl)),H',⟨by have:=HJ1.out;have:=HK2.out;have:=HJ13.out;omega⟩,⟨by (with_reducible repeat (first|refine zB ?_ _|refine zF ?_|refine zA ?_ _));exact BK273.out⟩,⟨by repeat (first|(with_reducible first|exact HB.out|apply zG|apply zD|apply zH|refine zC ?_ GE273.out)|exact HB.out)⟩⟩
      ·rw [if_neg c13] at H
       have c13b0:decide (x3_2≤20)=false:=decide_eq_false c13
       clear c13
       have H':=Zk H
       clear H
       go_wp2
       go_loopg [5] k2 (fun kq v5 w'=>∃ (x5_3:Int),v5=.int .i64 x5_3∧zN (jobshellref25_Valid.l1 kq x5_3 l0_0 l0_1 l0_2=some r)∧zN (kq≤k2)∧zN (w'.heap[gb273]?=some (.cells #[(.slice A0_0 l0_0.length c0_0),(.slice A0_1 l0_1.length c0_1),(.slice A0_2 l0_2.length c0_2)] 30 (0,0)))∧zN (Below w.heap.size w w'))
       case atStart=>exact ⟨(1),(by first|rfl|(simp;done)|(simp [*];done)|(generalize ByteArray.toList _=l_;cases l_ <;> rfl)),H',⟨Nat.le_refl _⟩,⟨by (with_reducible repeat (first|refine zB ?_ _|refine zF ?_|refine zA ?_ _));exact BK273.out⟩,⟨by repeat (first|(with_reducible first|exact HB.out|apply zG|apply zD|apply zH|refine zC ?_ GE273.out)|exact HB.out)⟩⟩
       case round=>
        clear H'
        try clear c1
        try clear c2
        try clear p2
        try clear c3
        try clear c5
        try clear p6
        try clear c7
        try clear c12
        try clear c13
        try clear c13b0
        try clear c15
        try clear c15b0
        try clear c15b1
        try clear c16
        try clear c18
        try clear c21
        try clear c25
        try clear c27
        try clear hcz10_0
        try clear hcz10_1
        try clear hcz10_2
        try clear hcz11_0
        try clear hcz11_1
        try clear hcz11_2
        try clear hcz19_0
        try clear hcz19_1
        try clear hcz19_2
        try clear hcz22_0
        try clear hcz22_1
        try clear hcz22_2
        try clear hcz23_0
        try clear hcz23_1
        try clear hcz23_2
        try clear hcz28_0
        try clear hcz28_1
        try clear hcz28_2
        try clear hcz29_0
        try clear hcz29_1
        try clear hcz29_2
        try clear hcz30_0
        try clear hcz30_1
        try clear hcz30_2
        try clear hcz9_0
        try clear hcz9_1
        try clear hcz9_2
        try clear hfz10_0
        try clear hfz10_1
        try clear hfz10_2
        try clear hfz11_0
        try clear hfz11_1
        try clear hfz11_2
        try clear hfz19_0
        try clear hfz19_1
        try clear hfz19_2
        try clear hfz22_0
        try clear hfz22_1
        try clear hfz22_2
        try clear hfz23_0
        try clear hfz23_1
        try clear hfz23_2
        try clear hfz28_0
        try clear hfz28_1
        try clear hfz28_2
        try clear hfz29_0
        try clear hfz29_1
        try clear hfz29_2
        try clear hfz30_0
        try clear hfz30_1
        try clear hfz30_2
        try clear hfz9_0
        try clear hfz9_1
        try clear hfz9_2
        try clear p2
        obtain ⟨x5_3,rfl,HA,HK3,BK273,HB⟩:=hrel
        cases gk with
        |zero=>exact absurd HA.out (by simp [jobshellref25_Valid.l1])
        |succ k3=>
         have H:=HA.out
         clear HA
         simp only [jobshellref25_Valid.l1] at H
         by_cases c31:x5_3≤20
         ·rw [if_pos c31] at H
          have c31b0:decide (x5_3≤20)=true:=decide_eq_true c31
          clear c31
          have HC32:=Zk H
          clear H
          go_upto_region 12 with (fail)
          go_cut [74] (fun v74 wc=>∃ (kq:Nat) (x74_31:Bool),v74=.bool x74_31∧zN (jobshellref25_Valid.j4 kq x5_3 x74_31 l0_0 l0_1 l0_2=some r)∧zN (kq≤k3)∧zN (wc.heap[gb273]?=some (.cells #[(.slice A0_0 l0_0.length c0_0),(.slice A0_1 l0_1.length c0_1),(.slice A0_2 l0_2.length c0_2)] 30 (0,0)))∧zN (Below w.heap.size w wc))
          case first=>
           have H:=HC32.out
           clear HC32
           by_cases c33:x5_3=18
           ·rw [if_pos c33] at H
            have c33b0:(x5_3 == 18)=true:=beq_iff_eq.mpr c33
            have c33b1:(x5_3 != 18)=false:=bne_eq_false_iff_eq.mpr c33
            clear c33
            (first|rw [c33b0]|(simp only [yX,i32_w];rw [c33b0])|skip)
            have H':=Zk H
            clear H
            go_wp2
            go_meet
            case rel=>exact ⟨_,(false),(by first|rfl|(simp;done)|(simp [*];done)|(generalize ByteArray.toList _=l_;cases l_ <;> rfl)),H',⟨by have:=HJ1.out;have:=HK2.out;have:=HK3.out;first|omega|exact Nat.le_refl _⟩,⟨by (with_reducible repeat (first|refine zB ?_ _|refine zF ?_|refine zA ?_ _));exact BK273.out⟩,⟨by repeat (first|(with_reducible first|exact HB.out|apply zG|apply zD|apply zH|refine zC ?_ GE273.out)|exact HB.out)⟩⟩
           ·rw [if_neg c33] at H
            have c33b0:(x5_3 == 18)=false:=beq_eq_false_iff_ne.mpr c33
            have c33b1:(x5_3 != 18)=true:=bne_iff_ne.mpr c33
            (first|rw [c33b0]|(simp only [yX,i32_w];rw [c33b0])|skip)
            replace H:=Option.bind_eq_some_iff.mp H
            obtain ⟨t281,A340,H⟩:=H
            replace H:(if t281=true then ((jobshellref25_Has.f k3 l0_1 x5_3).bind fun t282=>(jobshellref25_Valid.j4 k3 x5_3 t282 l0_0 l0_1 l0_2)) else (jobshellref25_Valid.j4 k3 x5_3 false l0_0 l0_1 l0_2))=some r:=H
            have A34:=Zk A340
            clear A340
            by_cases c35:t281=true
            ·subst c35
             have H1:((jobshellref25_Has.f k3 l0_1 x5_3).bind fun t282=>(jobshellref25_Valid.j4 k3 x5_3 t282 l0_0 l0_1 l0_2))=some r:=by rw [if_pos rfl] at H;exact H
             clear H
             have H:=H1
             clear H1
             replace H:=Option.bind_eq_some_iff.mp H
             obtain ⟨t282,A360,H⟩:=H
             replace H:(jobshellref25_Valid.j4 k3 x5_3 t282 l0_0 l0_1 l0_2)=some r:=H
             have A36:=Zk A360
             clear A360
             have H':=Zk H
             clear H
             have hcz37_0:wr.cell? ⟨gb273,0,none⟩=some (.slice A0_0 l0_0.length c0_0):=(zJ BK273.out 0).trans rfl
             have hcz37_1:wr.cell? ⟨gb273,1,none⟩=some (.slice A0_1 l0_1.length c0_1):=(zJ BK273.out 1).trans rfl
             have hcz37_2:wr.cell? ⟨gb273,2,none⟩=some (.slice A0_2 l0_2.length c0_2):=(zJ BK273.out 2).trans rfl
             have hfz37_0:=zI BK273.out 0
             have hfz37_1:=zI BK273.out 1
             have hfz37_2:=zI BK273.out 2
             go_wp2_with (first|(go_at_call 24;(with_reducible refine (jobshellref25_Has.calls k3 _ _ l0_0 x5_3 true _ ?side1 ?side2 A34.out).mono ?_);(case side1=>repeat (first|exact (yS HR0_0.out HB.out)|(with_reducible refine yG ?_ _)|(with_reducible refine yF ?_ _)|(with_reducible refine yI ?_)));(case side2=>exact HC0_0.out);rintro e w' ⟨rfl,⟨nd,rfl⟩⟩)|(go_at_call 24;(with_reducible refine (jobshellref25_Has.calls k3 _ _ l0_1 x5_3 t282 _ ?side1 ?side2 A36.out).mono ?_);(case side1=>repeat (first|exact (yS HR0_1.out (by repeat (first|(with_reducible first|exact HB.out|apply zG|apply zD|apply zH|refine zC ?_ GE273.out)|exact HB.out)))|(with_reducible refine yG ?_ _)|(with_reducible refine yF ?_ _)|(with_reducible refine yI ?_)));(case side2=>exact HC0_1.out);rintro e w' ⟨rfl,⟨nd,rfl⟩⟩))
             go_meet
             case rel=>exact ⟨_,(t282),(by first|rfl|(simp;done)|(simp [*];done)|(generalize ByteArray.toList _=l_;cases l_ <;> rfl)),H',⟨by have:=HJ1.out;have:=HK2.out;have:=HK3.out;first|omega|exact Nat.le_refl _⟩,⟨by (with_reducible repeat (first|refine zB ?_ _|refine zF ?_|refine zA ?_ _));exact BK273.out⟩,⟨by repeat (first|(with_reducible first|exact HB.out|apply zG|apply zD|apply zH|refine zC ?_ GE273.out)|exact HB.out)⟩⟩
            ·replace c35:=Bool.eq_false_iff.mpr c35
             subst c35
             have H1:(jobshellref25_Valid.j4 k3 x5_3 false l0_0 l0_1 l0_2)=some r:=by rw [if_neg (show ¬ (false=true) by decide)] at H;exact H
             clear H
             have H:=H1
             clear H1
             have H':=Zk H
             clear H
             have hcz38_0:wr.cell? ⟨gb273,0,none⟩=some (.slice A0_0 l0_0.length c0_0):=(zJ BK273.out 0).trans rfl
             have hcz38_1:wr.cell? ⟨gb273,1,none⟩=some (.slice A0_1 l0_1.length c0_1):=(zJ BK273.out 1).trans rfl
             have hcz38_2:wr.cell? ⟨gb273,2,none⟩=some (.slice A0_2 l0_2.length c0_2):=(zJ BK273.out 2).trans rfl
             have hfz38_0:=zI BK273.out 0
             have hfz38_1:=zI BK273.out 1
             have hfz38_2:=zI BK273.out 2
             go_wp2_with (first|(go_at_call 24;(with_reducible refine (jobshellref25_Has.calls k3 _ _ l0_0 x5_3 false _ ?side1 ?side2 A34.out).mono ?_);(case side1=>repeat (first|exact (yS HR0_0.out HB.out)|(with_reducible refine yG ?_ _)|(with_reducible refine yF ?_ _)|(with_reducible refine yI ?_)));(case side2=>exact HC0_0.out);rintro e w' ⟨rfl,⟨nd,rfl⟩⟩))
             go_meet
             case rel=>exact ⟨_,(false),(by first|rfl|(simp;done)|(simp [*];done)|(generalize ByteArray.toList _=l_;cases l_ <;> rfl)),H',⟨by have:=HJ1.out;have:=HK2.out;have:=HK3.out;first|omega|exact Nat.le_refl _⟩,⟨by (with_reducible repeat (first|refine zB ?_ _|refine zF ?_|refine zA ?_ _));exact BK273.out⟩,⟨by repeat (first|(with_reducible first|exact HB.out|apply zG|apply zD|apply zH|refine zC ?_ GE273.out)|exact HB.out)⟩⟩
          case rest=>
           clear HC32
           try clear c1
           try clear c2
           try clear p2
           try clear c3
           try clear c5
           try clear p6
           try clear c7
           try clear c12
           try clear c13
           try clear c13b0
           try clear c15
           try clear c15b0
           try clear c15b1
           try clear c16
           try clear c18
           try clear c21
           try clear c25
           try clear c27
           try clear c31
           try clear c31b0
           try clear c33
           try clear c33b0
           try clear c33b1
           try clear c35
           try clear c36
           try clear hcz10_0
           try clear hcz10_1
           try clear hcz10_2
           try clear hcz11_0
           try clear hcz11_1
           try clear hcz11_2
           try clear hcz19_0
           try clear hcz19_1
           try clear hcz19_2
           try clear hcz22_0
           try clear hcz22_1
           try clear hcz22_2
           try clear hcz23_0
           try clear hcz23_1
           try clear hcz23_2
           try clear hcz28_0
           try clear hcz28_1
           try clear hcz28_2
           try clear hcz29_0
           try clear hcz29_1
           try clear hcz29_2
           try clear hcz30_0
           try clear hcz30_1
           try clear hcz30_2
           try clear hcz37_0
           try clear hcz37_1
           try clear hcz37_2
           try clear hcz38_0
           try clear hcz38_1
           try clear hcz38_2
           try clear hcz9_0
           try clear hcz9_1
           try clear hcz9_2
           try clear hfz10_0
           try clear hfz10_1
           try clear hfz10_2
           try clear hfz11_0
           try clear hfz11_1
           try clear hfz11_2
           try clear hfz19_0
           try clear hfz19_1
           try clear hfz19_2
           try clear hfz22_0
           try clear hfz22_1
           try clear hfz22_2
           try clear hfz23_0
           try clear hfz23_1
           try clear hfz23_2
           try clear hfz28_0
           try clear hfz28_1
           try clear hfz28_2
           try clear hfz29_0
           try clear hfz29_1
           try clear hfz29_2
           try clear hfz30_0
           try clear hfz30_1
           try clear hfz30_2
           try clear hfz37_0
           try clear hfz37_1
           try clear hfz37_2
           try clear hfz38_0
           try clear hfz38_1
           try clear hfz38_2
           try clear hfz9_0
           try clear hfz9_1
           try clear hfz9_2
           try clear p2
           try clear p6
           obtain ⟨kq,x74_31,rfl,HA,HJ31,BK273,HB⟩:=hcut
           cases kq with
           |zero=>exact absurd HA.out (by simp [jobshellref25_Valid.j4])
           |succ kj31=>
            have H:=HA.out
            clear HA
            simp only [jobshellref25_Valid.j4] at H
            by_cases c39:x74_31=true
            ·subst c39
             have H1:(some 25)=some r:=by rw [if_pos rfl] at H;exact H
             clear H
             have H:=H1
             clear H1
             obtain rfl:=Option.some.inj H
             go_wp2
             go_ret
             exact ⟨by first|rfl|(simp [errW_none,errW_some] <;> rfl)|(simp [*,errW_none,errW_some] <;> rfl),by repeat (first|(with_reducible first|exact HB.out|apply zG|apply zD|apply zH|refine zC ?_ GE273.out)|exact HB.out)⟩
            ·replace c39:=Bool.eq_false_iff.mpr c39
             subst c39
             have H1:((jobshellref25_stops.f x5_3).bind fun t283=>(if t283=true then ((jobshellref25_Has.f kj31 l0_0 x5_3).bind fun t284=>(if t284=true then ((jobshellref25_Has.f kj31 l0_0 18).bind fun t285=>(if t285=true then (some 25) else (jobshellref25_Valid.l1 kj31 (wrap64 (x5_3 + 1)) l0_0 l0_1 l0_2))) else (jobshellref25_Valid.l1 kj31 (wrap64 (x5_3 + 1)) l0_0 l0_1 l0_2))) else (jobshellref25_Valid.l1 kj31 (wrap64 (x5_3 + 1)) l0_0 l0_1 l0_2)))=some r:=by rw [if_neg (show ¬ (false=true) by decide)] at H;exact H
             clear H
             have H:=H1
             clear H1
             replace H:=Option.bind_eq_some_iff.mp H
             obtain ⟨t283,A400,H⟩:=H
             replace H:(if t283=true then ((jobshellref25_Has.f kj31 l0_0 x5_3).bind fun t284=>(if t284=true then ((jobshellref25_Has.f kj31 l0_0 18).bind fun t285=>(if t285=true then (some 25) else (jobshellref25_Valid.l1 kj31 (wrap64 (x5_3 + 1)) l0_0 l0_1 l0_2))) else (jobshellref25_Valid.l1 kj31 (wrap64 (x5_3 + 1)) l0_0 l0_1 l0_2))) else (jobshellref25_Valid.l1 kj31 (wrap64 (x5_3 + 1)) l0_0 l0_1 l0_2))=some r:=H
             have A40:=Zk A400
             clear A400
             by_cases c41:t283=true
             ·subst c41
              have H1:((jobshellref25_Has.f kj31 l0_0 x5_3).bind fun t284=>(if t284=true then ((jobshellref25_Has.f kj31 l0_0 18).bind fun t285=>(if t285=true then (some 25) else (jobshellref25_Valid.l1 kj31 (wrap64 (x5_3 + 1)) l0_0 l0_1 l0_2))) else (jobshellref25_Valid.l1 kj31 (wrap64 (x5_3 + 1)) l0_0 l0_1 l0_2)))=some r:=by rw [if_pos rfl] at H;exact H
              clear H
              have H:=H1
              clear H1
              replace H:=Option.bind_eq_some_iff.mp H
              obtain ⟨t284,A420,H⟩:=H
              replace H:(if t284=true then ((jobshellref25_Has.f kj31 l0_0 18).bind fun t285=>(if t285=true then (some 25) else (jobshellref25_Valid.l1 kj31 (wrap64 (x5_3 + 1)) l0_0 l0_1 l0_2))) else (jobshellref25_Valid.l1 kj31 (wrap64 (x5_3 + 1)) l0_0 l0_1 l0_2))=some r:=H
              have A42:=Zk A420
              clear A420
              by_cases c43:t284=true
              ·subst c43
               have H1:((jobshellref25_Has.f kj31 l0_0 18).bind fun t285=>(if t285=true then (some 25) else (jobshellref25_Valid.l1 kj31 (wrap64 (x5_3 + 1)) l0_0 l0_1 l0_2)))=some r:=by rw [if_pos rfl] at H;exact H
               clear H
               have H:=H1
               clear H1
               replace H:=Option.bind_eq_some_iff.mp H
               obtain ⟨t285,A440,H⟩:=H
               replace H:(if t285=true then (some 25) else (jobshellref25_Valid.l1 kj31 (wrap64 (x5_3 + 1)) l0_0 l0_1 l0_2))=some r:=H
               have A44:=Zk A440
               clear A440
               by_cases c45:t285=true
               ·subst c45
                have H1:(some 25)=some r:=by rw [if_pos rfl] at H;exact H
                clear H
                have H:=H1
                clear H1
                obtain rfl:=Option.some.inj H
                go_wp2_with (first|((with_reducible refine yD (f:=35) rfl ?_);refine yM (some 76) rfl rfl Tryd.func35 (by kernel_rfl) rfl #[.int .i64 x5_3] rfl (by (try simp only [List.map_toArray,List.map_cons,List.map_nil]);first|done|rfl|(simp only [List.length_drop,List.length_take];rfl)) ?_;(with_reducible refine (jobshellref25_stops.calls x5_3 true _ A40.out).mono ?_);rintro e w' ⟨rfl,⟨nd,rfl⟩⟩;refine ⟨_,rfl,?_⟩;have hcz46_0:wc.cell? ⟨gb273,0,none⟩=some (.slice A0_0 l0_0.length c0_0):=(zJ BK273.out 0).trans rfl;have hcz46_1:wc.cell? ⟨gb273,1,none⟩=some (.slice A0_1 l0_1.length c0_1):=(zJ BK273.out 1).trans rfl;have hcz46_2:wc.cell? ⟨gb273,2,none⟩=some (.slice A0_2 l0_2.length c0_2):=(zJ BK273.out 2).trans rfl;have hfz46_0:=zI BK273.out 0;have hfz46_1:=zI BK273.out 1;have hfz46_2:=zI BK273.out 2)|(go_at_call 24;(with_reducible refine (jobshellref25_Has.calls kj31 _ _ l0_0 x5_3 true _ ?side1 ?side2 A42.out).mono ?_);(case side1=>repeat (first|exact (yS HR0_0.out (by repeat (first|(with_reducible first|exact HB.out|apply zG|apply zD|apply zH|refine zC ?_ GE273.out)|exact HB.out)))|(with_reducible refine yG ?_ _)|(with_reducible refine yF ?_ _)|(with_reducible refine yI ?_)));(case side2=>exact HC0_0.out);rintro e w' ⟨rfl,⟨nd,rfl⟩⟩)|(go_at_call 24;(with_reducible refine (jobshellref25_Has.calls kj31 _ _ l0_0 18 true _ ?side1 ?side2 A44.out).mono ?_);(case side1=>repeat (first|exact (yS HR0_0.out (by repeat (first|(with_reducible first|exact HB.out|apply zG|apply zD|apply zH|refine zC ?_ GE273.out)|exact HB.out)))|(with_reducible refine yG ?_ _)|(with_reducible refine yF ?_ _)|(with_reducible refine yI ?_)));(case side2=>exact HC0_0.out);rintro e w' ⟨rfl,⟨nd,rfl⟩⟩))
                go_ret
                exact ⟨by first|rfl|(simp [errW_none,errW_some] <;> rfl)|(simp [*,errW_none,errW_some] <;> rfl),by repeat (first|(with_reducible first|exact HB.out|apply zG|apply zD|apply zH|refine zC ?_ GE273.out)|exact HB.out)⟩
               ·replace c45:=Bool.eq_false_iff.mpr c45
                subst c45
                have H1:(jobshellref25_Valid.l1 kj31 (wrap64 (x5_3 + 1)) l0_0 l0_1 l0_2)=some r:=by rw [if_neg (show ¬ (false=true) by decide)] at H;exact H
                clear H
                have H:=H1
                clear H1
                have H':=Zk H
                clear H
                go_wp2_with (first|((with_reducible refine yD (f:=35) rfl ?_);refine yM (some 76) rfl rfl Tryd.func35 (by kernel_rfl) rfl #[.int .i64 x5_3] rfl (by (try simp only [List.map_toArray,List.map_cons,List.map_nil]);first|done|rfl|(simp only [List.length_drop,List.length_take];rfl)) ?_;(with_reducible refine (jobshellref25_stops.calls x5_3 true _ A40.out).mono ?_);rintro e w' ⟨rfl,⟨nd,rfl⟩⟩;refine ⟨_,rfl,?_⟩;have hcz47_0:wc.cell? ⟨gb273,0,none⟩=some (.slice A0_0 l0_0.length c0_0):=(zJ BK273.out 0).trans rfl;have hcz47_1:wc.cell? ⟨gb273,1,none⟩=some (.slice A0_1 l0_1.length c0_1):=(zJ BK273.out 1).trans rfl;have hcz47_2:wc.cell? ⟨gb273,2,none⟩=some (.slice A0_2 l0_2.length c0_2):=(zJ BK273.out 2).trans rfl;have hfz47_0:=zI BK273.out 0;have hfz47_1:=zI BK273.out 1;have hfz47_2:=zI BK273.out 2)|(go_at_call 24;(with_reducible refine (jobshellref25_Has.calls kj31 _ _ l0_0 x5_3 true _ ?side1 ?side2 A42.out).mono ?_);(case side1=>repeat (first|exact (yS HR0_0.out (by repeat (first|(with_reducible first|exact HB.out|apply zG|apply zD|apply zH|refine zC ?_ GE273.out)|exact HB.out)))|(with_reducible refine yG ?_ _)|(with_reducible refine yF ?_ _)|(with_reducible refine yI ?_)));(case side2=>exact HC0_0.out);rintro e w' ⟨rfl,⟨nd,rfl⟩⟩)|(go_at_call 24;(with_reducible refine (jobshellref25_Has.calls kj31 _ _ l0_0 18 false _ ?side1 ?side2 A44.out).mono ?_);(case side1=>repeat (first|exact (yS HR0_0.out (by repeat (first|(with_reducible first|exact HB.out|apply zG|apply zD|apply zH|refine zC ?_ GE273.out)|exact HB.out)))|(with_reducible refine yG ?_ _)|(with_reducible refine yF ?_ _)|(with_reducible refine yI ?_)));(case side2=>exact HC0_0.out);rintro e w' ⟨rfl,⟨nd,rfl⟩⟩))
                go_roundg kj31
                case measure=>have:=HJ1.out;have:=HK2.out;have:=HK3.out;have:=HJ31.out;omega
                case rel=>exact ⟨(wrap64 (x5_3 + 1)),(by first|rfl|(simp;done)|(simp [*];done)|(generalize ByteArray.toList _=l_;cases l_ <;> rfl)),H',⟨by have:=HJ1.out;have:=HK2.out;have:=HK3.out;have:=HJ31.out;omega⟩,⟨by (with_reducible repeat (first|refine zB ?_ _|refine zF ?_|refine zA ?_ _));exact BK273.out⟩,⟨by repeat (first|(with_reducible first|exact HB.out|apply zG|apply zD|apply zH|refine zC ?_ GE273.out)|exact HB.out)⟩⟩
              ·replace c43:=Bool.eq_false_iff.mpr c43
               subst c43
               have H1:(jobshellref25_Valid.l1 kj31 (wrap64 (x5_3 + 1)) l0_0 l0_1 l0_2)=some r:=by rw [if_neg (show ¬ (false=true) by decide)] at H;exact H
               clear H
               have H:=H1
               clear H1
               have H':=Zk H
               clear H
               go_wp2_with (first|((with_reducible refine yD (f:=35) rfl ?_);refine yM (some 76) rfl rfl Tryd.func35 (by kernel_rfl) rfl #[.int .i64 x5_3] rfl (by (try simp only [List.map_toArray,List.map_cons,List.map_nil]);first|done|rfl|(simp only [List.length_drop,List.length_take];rfl)) ?_;(with_reducible refine (jobshellref25_stops.calls x5_3 true _ A40.out).mono ?_);rintro e w' ⟨rfl,⟨nd,rfl⟩⟩;refine ⟨_,rfl,?_⟩;have hcz48_0:wc.cell? ⟨gb273,0,none⟩=some (.slice A0_0 l0_0.length c0_0):=(zJ BK273.out 0).trans rfl;have hcz48_1:wc.cell? ⟨gb273,1,none⟩=some (.slice A0_1 l0_1.length c0_1):=(zJ BK273.out 1).trans rfl;have hcz48_2:wc.cell? ⟨gb273,2,none⟩=some (.slice A0_2 l0_2.length c0_2):=(zJ BK273.out 2).trans rfl;have hfz48_0:=zI BK273.out 0;have hfz48_1:=zI BK273.out 1;have hfz48_2:=zI BK273.out 2)|(go_at_call 24;(with_reducible refine (jobshellref25_Has.calls kj31 _ _ l0_0 x5_3 false _ ?side1 ?side2 A42.out).mono ?_);(case side1=>repeat (first|exact (yS HR0_0.out (by repeat (first|(with_reducible first|exact HB.out|apply zG|apply zD|apply zH|refine zC ?_ GE273.out)|exact HB.out)))|(with_reducible refine yG ?_ _)|(with_reducible refine yF ?_ _)|(with_reducible refine yI ?_)));(case side2=>exact HC0_0.out);rintro e w' ⟨rfl,⟨nd,rfl⟩⟩))
               go_roundg kj31
               case measure=>have:=HJ1.out;have:=HK2.out;have:=HK3.out;have:=HJ31.out;omega
               case rel=>exact ⟨(wrap64 (x5_3 + 1)),(by first|rfl|(simp;done)|(simp [*];done)|(generalize ByteArray.toList _=l_;cases l_ <;> rfl)),H',⟨by have:=HJ1.out;have:=HK2.out;have:=HK3.out;have:=HJ31.out;omega⟩,⟨by (with_reducible repeat (first|refine zB ?_ _|refine zF ?_|refine zA ?_ _));exact BK273.out⟩,⟨by repeat (first|(with_reducible first|exact HB.out|apply zG|apply zD|apply zH|refine zC ?_ GE273.out)|exact HB.out)⟩⟩
             ·replace c41:=Bool.eq_false_iff.mpr c41
              subst c41
              have H1:(jobshellref25_Valid.l1 kj31 (wrap64 (x5_3 + 1)) l0_0 l0_1 l0_2)=some r:=by rw [if_neg (show ¬ (false=true) by decide)] at H;exact H
              clear H
              have H:=H1
              clear H1
              have H':=Zk H
              clear H
              go_wp2_with (first|((with_reducible refine yD (f:=35) rfl ?_);refine yM (some 76) rfl rfl Tryd.func35 (by kernel_rfl) rfl #[.int .i64 x5_3] rfl (by (try simp only [List.map_toArray,List.map_cons,List.map_nil]);first|done|rfl|(simp only [List.length_drop,List.length_take];rfl)) ?_;(with_reducible refine (jobshellref25_stops.calls x5_3 false _ A40.out).mono ?_);rintro e w' ⟨rfl,⟨nd,rfl⟩⟩;refine ⟨_,rfl,?_⟩))
              go_roundg kj31
              case measure=>have:=HJ1.out;have:=HK2.out;have:=HK3.out;have:=HJ31.out;omega
              case rel=>exact ⟨(wrap64 (x5_3 + 1)),(by first|rfl|(simp;done)|(simp [*];done)|(generalize ByteArray.toList _=l_;cases l_ <;> rfl)),H',⟨by have:=HJ1.out;have:=HK2.out;have:=HK3.out;have:=HJ31.out;omega⟩,⟨by (with_reducible repeat (first|refine zB ?_ _|refine zF ?_|refine zA ?_ _));exact BK273.out⟩,⟨by repeat (first|(with_reducible first|exact HB.out|apply zG|apply zD|apply zH|refine zC ?_ GE273.out)|exact HB.out)⟩⟩
         ·rw [if_neg c31] at H
          have c31b0:decide (x5_3≤20)=false:=decide_eq_false c31
          clear c31
          obtain rfl:=Option.some.inj H
          go_wp2
          go_ret
          exact ⟨by first|rfl|(simp [errW_none,errW_some] <;> rfl)|(simp [*,errW_none,errW_some] <;> rfl),by repeat (first|(with_reducible first|exact HB.out|apply zG|apply zD|apply zH|refine zC ?_ GE273.out)|exact HB.out)⟩
end Go.Proofs.YtnkkdpjipfjdaaaDoor.Q
end
section

namespace Go.Proofs.YtnkkdpjipfjdaaaDoor.Q
open Go.RowKit Go.Proofs.YtnkkdpjipfjdaaaDoorW.PrintWords Go.Proofs.YtnkkdpjipfjdaaaDoorW.PrintLast Go.Proofs.YtnkkdpjipfjdaaaDoorW.PrintMore Go.Proofs.YtnkkdpjipfjdaaaDoorM
open Kd
attribute [local go_sem] max2_int min2_int max_two min_two max_three min_three max_four min_four
set_option linter.unusedVariables false
set_option linter.unusedSimpArgs false
def signal_ascending.l0:Nat→List Int→List Int→Int→Int→Option (Bool)
 |0,_,_,_,_=>none
 |k + 1,x0,x5,x6,x7=>if x7 < x6 then (if 0≤x7 then (if x7 < (x5.length:Int) then ((signal_Name.f (rd x5 x7)).bind fun t641=>(if t641.toList=([]:List UInt8) then (some false) else (if x7 > 0 then (if 0≤(wrap64 (x7 - 1)) then (if (wrap64 (x7 - 1)) < (x0.length:Int) then (if (rd x5 x7)≤(rd x0 (wrap64 (x7 - 1))) then (some false) else (signal_ascending.l0 k x0 x5 x6 (wrap64 (x7 + 1)))) else (none)) else (none)) else (signal_ascending.l0 k x0 x5 x6 (wrap64 (x7 + 1)))))) else (none)) else (none)) else (some true)
def signal_ascending.f (k:Nat) (l0:List Int):Option (Bool):=signal_ascending.l0 k l0 l0 (l0.length:Int) 0
theorem signal_ascending.mono_l:∀ k,(∀ y0 y1 y2 y3,LeO (signal_ascending.l0 k y0 y1 y2 y3) (signal_ascending.l0 (k + 1) y0 y1 y2 y3))
 |0=>fun _ _ _ _ r h=>by simp [signal_ascending.l0] at h
 |k + 1=>by
  have ih0:=signal_ascending.mono_l k
  ·intro y0 y1 y2 y3
   unfold signal_ascending.l0
   repeat' first
   |(with_reducible exact ih0 _ _ _ _)
   |(with_reducible exact LeO.refl _)
   |(with_reducible exact LeO.none _)
   |(with_reducible refine LeO.ite ?_ ?_)
   |(with_reducible refine LeO.bind ?_ (fun _=>?_))
   |exact ih0 _ _ _ _
   |exact LeO.none _
   |refine LeO.ite ?_ ?_
   |refine LeO.bind ?_ (fun _=>?_)
theorem signal_ascending.mono:∀ a0 k,LeO (signal_ascending.f k a0) (signal_ascending.f (k + 1) a0):=by
 intro a0 k
 have ih0:=signal_ascending.mono_l k
 unfold signal_ascending.f
 repeat' first
   |(with_reducible exact ih0 _ _ _ _)
   |(with_reducible exact LeO.refl _)
   |(with_reducible exact LeO.none _)
   |(with_reducible refine LeO.ite ?_ ?_)
   |(with_reducible refine LeO.bind ?_ (fun _=>?_))
   |exact ih0 _ _ _ _
   |exact LeO.none _
   |refine LeO.ite ?_ ?_
   |refine LeO.bind ?_ (fun _=>?_)
set_option maxHeartbeats 8000000 in
set_option maxRecDepth 10000000 in
theorem signal_ascending.calls (k:Nat) (A0:Option Addr) (c0:Nat) (l0:List Int) (r:Bool) (w:World) (hr0:Kd.C (Kd.int .i64) w A0 l0.length l0) (hc0:l0.length≤c0) (h:signal_ascending.f k l0=some r) :
  Calls Tryd.prog 49 #[.slice A0 l0.length c0] w fun e w'=>e=.returned (.bool r)∧Below w.heap.size w w':=by
 have HR0:=Zk hr0
 have HC0:=Zk hc0
 clear hr0 hc0
 have HB:=Zk (Below.refl w.heap.size w)
 have H:(signal_ascending.l0 k l0 l0 (l0.length:Int) 0)=some r:=h
 clear h
 have H':=Zk H
 clear H
 go_enter Tryd.func49,Tryd.ntmps49
 go_wp2
 go_loopg [7] k (fun kq v7 w'=>∃ (x7_1:Int),v7=.int .i64 x7_1∧zN (signal_ascending.l0 kq l0 l0 (l0.length:Int) x7_1=some r)∧zN (kq≤k)∧zN (Below w.heap.size w w'))
 case atStart=>exact ⟨(0),(by first|rfl|(simp;done)|(simp [*];done)|(generalize ByteArray.toList _=l_;cases l_ <;> rfl)),H',⟨Nat.le_refl _⟩,⟨by repeat (first|(with_reducible first|exact HB.out|apply zG|apply zD|apply zH)|exact HB.out)⟩⟩
 case round=>
  clear H'
  obtain ⟨x7_1,rfl,HA,HK1,HB⟩:=hrel
  cases gk with
  |zero=>exact absurd HA.out (by simp [signal_ascending.l0])
  |succ k1=>
   have H:=HA.out
   clear HA
   simp only [signal_ascending.l0] at H
   by_cases c2:x7_1 < (l0.length:Int)
   ·rw [if_pos c2] at H
    have c2b0:decide (x7_1 < (l0.length:Int))=true:=decide_eq_true c2
    clear c2
    by_cases c3:0≤x7_1
    ·rw [if_pos c3] at H
     have c3b0:decide (0≤x7_1)=true:=decide_eq_true c3
     clear c3
     by_cases c4:x7_1 < (l0.length:Int)
     ·rw [if_pos c4] at H
      have c4b0:decide (x7_1 < (l0.length:Int))=true:=decide_eq_true c4
      clear c4
      replace H:=Option.bind_eq_some_iff.mp H
      obtain ⟨t641,A50,H⟩:=H
      replace H:(if t641.toList=([]:List UInt8) then (some false) else (if x7_1 > 0 then (if 0≤(wrap64 (x7_1 - 1)) then (if (wrap64 (x7_1 - 1)) < (l0.length:Int) then (if (rd l0 x7_1)≤(rd l0 (wrap64 (x7_1 - 1))) then (some false) else (signal_ascending.l0 k1 l0 l0 (l0.length:Int) (wrap64 (x7_1 + 1)))) else (none)) else (none)) else (signal_ascending.l0 k1 l0 l0 (l0.length:Int) (wrap64 (x7_1 + 1)))))=some r:=H
      have A5:=Zk A50
      clear A50
      by_cases c6:t641.toList=([]:List UInt8)
      ·rw [if_pos c6] at H
       have c6b0:(t641.toList == ([]:List UInt8))=true:=beq_iff_eq.mpr c6
       have c6b1:(t641.toList != ([]:List UInt8))=false:=bne_eq_false_iff_eq.mpr c6
       clear c6
       obtain rfl:=Option.some.inj H
       have p640:0≤(x7_1:Int):=of_decide_eq_true (by first|(with_reducible assumption)|assumption)
       have q640:x7_1 < (l0.length:Int):=of_decide_eq_true (by first|(with_reducible assumption)|assumption)
       obtain ⟨ad640,e640,hx640_0⟩:=Kd.at_int HR0.out x7_1 p640 q640
       cases e640
       replace hx640_0:=(HB.out.cell (World.block_lt_of_cell? w _ hx640_0)).trans hx640_0
       replace p640:=eq_true p640
       replace q640:=eq_true q640
       go_wp2_with (first|((with_reducible refine yD (f:=13) rfl ?_);refine yM (some 13) rfl rfl Tryd.func13 (by kernel_rfl) rfl #[.int .i64 (rd l0 x7_1)] rfl (by (try simp only [List.map_toArray,List.map_cons,List.map_nil]);first|done|rfl|(simp only [List.length_drop,List.length_take];rfl)) ?_;(with_reducible refine (signal_Name.calls (rd l0 x7_1) t641 _ A5.out).mono ?_);rintro e w7 ⟨rfl,hb⟩;refine ⟨_,rfl,?_⟩;have n0_:=Zk (yA (by repeat (first|(with_reducible first|exact HB.out|apply zG|apply zD|apply zH)|exact HB.out)) hb);clear HB;have HB:=n0_;clear n0_;(try clear hb);(try clear hb2);(try clear hk);(try clear hi)))
       go_ret
       exact ⟨by first|rfl|(simp [errW_none,errW_some] <;> rfl)|(simp [*,errW_none,errW_some] <;> rfl),by repeat (first|(with_reducible first|exact HB.out|apply zG|apply zD|apply zH)|exact HB.out)⟩
      ·rw [if_neg c6] at H
       have c6b0:(t641.toList == ([]:List UInt8))=false:=beq_eq_false_iff_ne.mpr c6
       have c6b1:(t641.toList != ([]:List UInt8))=true:=bne_iff_ne.mpr c6
       by_cases c8:x7_1 > 0
       ·rw [if_pos c8] at H
        have c8b0:decide (0 < x7_1)=true:=decide_eq_true c8
        clear c8
        obtain ⟨ji9,hji9⟩:∃ j_:Int,(wrap64 (x7_1 - 1))=j_:=⟨_,rfl⟩
        replace H:(if 0≤(ji9) then (if (ji9) < (l0.length:Int) then (if (rd l0 x7_1)≤(rd l0 (ji9)) then (some false) else (signal_ascending.l0 k1 l0 l0 (l0.length:Int) (wrap64 (x7_1 + 1)))) else (none)) else (none))=some r:=by first|(rw [hji9] at H;exact H)|(simp only [hji9] at H ⊢;exact H)
        (try rw [hji9] at A5)
        have hji9w:(IntKind.i64.wrap (x7_1 - 1))=ji9:=(yX _).trans hji9
        by_cases c10:0≤(ji9)
        ·rw [if_pos c10] at H
         have c10b0:decide (0≤(ji9))=true:=decide_eq_true c10
         clear c10
         by_cases c11:(ji9) < (l0.length:Int)
         ·rw [if_pos c11] at H
          have c11b0:decide ((ji9) < (l0.length:Int))=true:=decide_eq_true c11
          clear c11
          by_cases c12:(rd l0 x7_1)≤(rd l0 (ji9))
          ·rw [if_pos c12] at H
           have c12b0:decide ((rd l0 x7_1)≤(rd l0 (ji9)))=true:=decide_eq_true c12
           clear c12
           obtain rfl:=Option.some.inj H
           have p640:0≤(x7_1:Int):=of_decide_eq_true (by first|(with_reducible assumption)|assumption)
           have q640:x7_1 < (l0.length:Int):=of_decide_eq_true (by first|(with_reducible assumption)|assumption)
           obtain ⟨ad640,e640,hx640_0⟩:=Kd.at_int HR0.out x7_1 p640 q640
           cases e640
           replace hx640_0:=(HB.out.cell (World.block_lt_of_cell? w _ hx640_0)).trans hx640_0
           replace p640:=eq_true p640
           replace q640:=eq_true q640
           go_wp2_with (first|((with_reducible refine yD (f:=13) rfl ?_);refine yM (some 13) rfl rfl Tryd.func13 (by kernel_rfl) rfl #[.int .i64 (rd l0 x7_1)] rfl (by (try simp only [List.map_toArray,List.map_cons,List.map_nil]);first|done|rfl|(simp only [List.length_drop,List.length_take];rfl)) ?_;(with_reducible refine (signal_Name.calls (rd l0 x7_1) t641 _ A5.out).mono ?_);rintro e w13 ⟨rfl,hb⟩;refine ⟨_,rfl,?_⟩;have n0_:=Zk (yA (by repeat (first|(with_reducible first|exact HB.out|apply zG|apply zD|apply zH)|exact HB.out)) hb);clear HB;have HB:=n0_;clear n0_;(try clear hb);(try clear hb2);(try clear hk);(try clear hi);have p642:0≤((ji9):Int):=of_decide_eq_true (by first|(with_reducible assumption)|assumption);have q642:(ji9) < (l0.length:Int):=of_decide_eq_true (by first|(with_reducible assumption)|assumption);obtain ⟨ad642,e642,hx642_0⟩:=Kd.at_int HR0.out (ji9) p642 q642;obtain rfl:ad640=ad642:=(by injection e642);replace hx642_0:=(HB.out.cell (World.block_lt_of_cell? w _ hx642_0)).trans hx642_0;replace p642:=eq_true p642;replace q642:=eq_true q642))
           go_ret
           exact ⟨by first|rfl|(simp [errW_none,errW_some] <;> rfl)|(simp only [← hji9];first|rfl|(simp [errW_none,errW_some] <;> rfl))|(simp [*,errW_none,errW_some] <;> rfl),by repeat (first|(with_reducible first|exact HB.out|apply zG|apply zD|apply zH)|exact HB.out)⟩
          ·rw [if_neg c12] at H
           have c12b0:decide ((rd l0 x7_1)≤(rd l0 (ji9)))=false:=decide_eq_false c12
           clear c12
           have H':=Zk H
           clear H
           have p640:0≤(x7_1:Int):=of_decide_eq_true (by first|(with_reducible assumption)|assumption)
           have q640:x7_1 < (l0.length:Int):=of_decide_eq_true (by first|(with_reducible assumption)|assumption)
           obtain ⟨ad640,e640,hx640_0⟩:=Kd.at_int HR0.out x7_1 p640 q640
           cases e640
           replace hx640_0:=(HB.out.cell (World.block_lt_of_cell? w _ hx640_0)).trans hx640_0
           replace p640:=eq_true p640
           replace q640:=eq_true q640
           go_wp2_with (first|((with_reducible refine yD (f:=13) rfl ?_);refine yM (some 13) rfl rfl Tryd.func13 (by kernel_rfl) rfl #[.int .i64 (rd l0 x7_1)] rfl (by (try simp only [List.map_toArray,List.map_cons,List.map_nil]);first|done|rfl|(simp only [List.length_drop,List.length_take];rfl)) ?_;(with_reducible refine (signal_Name.calls (rd l0 x7_1) t641 _ A5.out).mono ?_);rintro e w14 ⟨rfl,hb⟩;refine ⟨_,rfl,?_⟩;have n0_:=Zk (yA (by repeat (first|(with_reducible first|exact HB.out|apply zG|apply zD|apply zH)|exact HB.out)) hb);clear HB;have HB:=n0_;clear n0_;(try clear hb);(try clear hb2);(try clear hk);(try clear hi);have p642:0≤((ji9):Int):=of_decide_eq_true (by first|(with_reducible assumption)|assumption);have q642:(ji9) < (l0.length:Int):=of_decide_eq_true (by first|(with_reducible assumption)|assumption);obtain ⟨ad642,e642,hx642_0⟩:=Kd.at_int HR0.out (ji9) p642 q642;obtain rfl:ad640=ad642:=(by injection e642);replace hx642_0:=(HB.out.cell (World.block_lt_of_cell? w _ hx642_0)).trans hx642_0;replace p642:=eq_true p642;replace q642:=eq_true q642))
           go_roundg k1
           case measure=>have:=HK1.out;omega
           case rel=>exact ⟨(wrap64 (x7_1 + 1)),(by first|rfl|(simp;done)|(simp [*];done)|(generalize ByteArray.toList _=l_;cases l_ <;> rfl)),H',⟨by have:=HK1.out;omega⟩,⟨by repeat (first|(with_reducible first|exact HB.out|apply zG|apply zD|apply zH)|exact HB.out)⟩⟩
         ·rw [if_neg c11] at H
          exact absurd H (by simp)
        ·rw [if_neg c10] at H
         exact absurd H (by simp)
       ·rw [if_neg c8] at H
        have c8b0:decide (0 < x7_1)=false:=decide_eq_false c8
        clear c8
        have H':=Zk H
        clear H
        have p640:0≤(x7_1:Int):=of_decide_eq_true (by first|(with_reducible assumption)|assumption)
        have q640:x7_1 < (l0.length:Int):=of_decide_eq_true (by first|(with_reducible assumption)|assumption)
        obtain ⟨ad640,e640,hx640_0⟩:=Kd.at_int HR0.out x7_1 p640 q640
        cases e640
        replace hx640_0:=(HB.out.cell (World.block_lt_of_cell? w _ hx640_0)).trans hx640_0
        replace p640:=eq_true p640
        replace q640:=eq_true q640
        go_wp2_with (first|((with_reducible refine yD (f:=13) rfl ?_);refine yM (some 13) rfl rfl Tryd.func13 (by kernel_rfl) rfl #[.int .i64 (rd l0 x7_1)] rfl (by (try simp only [List.map_toArray,List.map_cons,List.map_nil]);first|done|rfl|(simp only [List.length_drop,List.length_take];rfl)) ?_;(with_reducible refine (signal_Name.calls (rd l0 x7_1) t641 _ A5.out).mono ?_);rintro e w15 ⟨rfl,hb⟩;refine ⟨_,rfl,?_⟩;have n0_:=Zk (yA (by repeat (first|(with_reducible first|exact HB.out|apply zG|apply zD|apply zH)|exact HB.out)) hb);clear HB;have HB:=n0_;clear n0_;(try clear hb);(try clear hb2);(try clear hk);(try clear hi)))
        go_roundg k1
        case measure=>have:=HK1.out;omega
        case rel=>exact ⟨(wrap64 (x7_1 + 1)),(by first|rfl|(simp;done)|(simp [*];done)|(generalize ByteArray.toList _=l_;cases l_ <;> rfl)),H',⟨by have:=HK1.out;omega⟩,⟨by repeat (first|(with_reducible first|exact HB.out|apply zG|apply zD|apply zH)|exact HB.out)⟩⟩
     ·rw [if_neg c4] at H
      exact absurd H (by simp)
    ·rw [if_neg c3] at H
     exact absurd H (by simp)
   ·rw [if_neg c2] at H
    have c2b0:decide (x7_1 < (l0.length:Int))=false:=decide_eq_false c2
    clear c2
    obtain rfl:=Option.some.inj H
    go_wp2
    go_ret
    exact ⟨by first|rfl|(simp [errW_none,errW_some] <;> rfl)|(simp [*,errW_none,errW_some] <;> rfl),by repeat (first|(with_reducible first|exact HB.out|apply zG|apply zD|apply zH)|exact HB.out)⟩
def slices_ContainsFunc_int_int_stops.f (l0:List Int) (a1:Int):Option Bool:=some (l0.any fun x=>(x == 19 ||(x == 20 ||(x == 4 ||x == 5))))
theorem slices_ContainsFunc_int_int_stops.calls (A0:Option Addr) (c0:Nat) (l0:List Int) (a1:Int) (r:Bool) (w:World) (hr0:Kd.C (Kd.int .i64) w A0 l0.length l0) (hc0:l0.length≤c0) (h:slices_ContainsFunc_int_int_stops.f l0 a1=some r) :
  Calls Tryd.prog 50 #[.slice A0 l0.length c0,.func (.func 34) #[] #[]] w fun e w'=>e=.returned (.bool r)∧Drawn0 w w':=by
 obtain rfl:=Option.some.inj h
 exact Go.Proofs.YtnkkdpjipfjdaaaDoor.Ix.has_any 34 #[] (fun _ _=>by first|rfl|(simp [callFunc];done)) (fun x=>(x == 19 ||(x == 20 ||(x == 4 ||x == 5)))) A0 c0 l0 w hr0 hc0 (fun W x=>Go.Proofs.YtnkkdpjipfjdaaaDoor.Ix.pred34 x W)
def slices_ContainsFunc_int_int_fixed.f (l0:List Int) (a1:Int):Option Bool:=some (l0.any fun x=>(x == 9 ||x == 19))
theorem slices_ContainsFunc_int_int_fixed.calls (A0:Option Addr) (c0:Nat) (l0:List Int) (a1:Int) (r:Bool) (w:World) (hr0:Kd.C (Kd.int .i64) w A0 l0.length l0) (hc0:l0.length≤c0) (h:slices_ContainsFunc_int_int_fixed.f l0 a1=some r) :
  Calls Tryd.prog 50 #[.slice A0 l0.length c0,.func (.func 47) #[] #[]] w fun e w'=>e=.returned (.bool r)∧Drawn0 w w':=by
 obtain rfl:=Option.some.inj h
 exact Go.Proofs.YtnkkdpjipfjdaaaDoor.Ix.has_any 47 #[] (fun _ _=>by first|rfl|(simp [callFunc];done)) (fun x=>(x == 9 ||x == 19)) A0 c0 l0 w hr0 hc0 (fun W x=>Go.Proofs.YtnkkdpjipfjdaaaDoor.Ix.pred47 x W)
end Go.Proofs.YtnkkdpjipfjdaaaDoor.Q
end
section

namespace Go.Proofs.YtnkkdpjipfjdaaaDoor.Q
open Go.RowKit Go.Proofs.YtnkkdpjipfjdaaaDoorW.PrintWords Go.Proofs.YtnkkdpjipfjdaaaDoorW.PrintLast Go.Proofs.YtnkkdpjipfjdaaaDoorW.PrintMore Go.Proofs.YtnkkdpjipfjdaaaDoorM
open Kd
attribute [local go_sem] max2_int min2_int max_two min_two max_three min_three max_four min_four
set_option linter.unusedVariables false
set_option linter.unusedSimpArgs false
mutual
def signal_Valid.j0:Nat→Bool→List Int→List Int→List Int→Option (Int)
 |0,_,_,_,_=>none
 |k + 1,x32,x644000,x644001,x644002=>if x32=true then (some 1) else (signal_Valid.l0 k x644001 (x644001.length:Int) 0 x644000 x644001 x644002)
def signal_Valid.l0:Nat→List Int→Int→Int→List Int→List Int→List Int→Option (Int)
 |0,_,_,_,_,_,_=>none
 |k + 1,x34,x35,x36,x644000,x644001,x644002=>if x36 < x35 then (if 0≤x36 then (if x36 < (x34.length:Int) then ((slices_Contains_int_int.f k x644002 (rd x34 x36)).bind fun t650=>(if t650=true then (some 1) else (signal_Valid.l0 k x34 x35 (wrap64 (x36 + 1)) x644000 x644001 x644002))) else (none)) else (none)) else (signal_Valid.l1 k x644000 (x644000.length:Int) 0 x644000 x644001 x644002)
def signal_Valid.l1:Nat→List Int→Int→Int→List Int→List Int→List Int→Option (Int)
 |0,_,_,_,_,_,_=>none
 |k + 1,x46,x47,x48,x644000,x644001,x644002=>if x48 < x47 then (if 0≤x48 then (if x48 < (x46.length:Int) then (if (rd x46 x48)=18 then (signal_Valid.l1 k x46 x47 (wrap64 (x48 + 1)) x644000 x644001 x644002) else ((slices_Contains_int_int.f k x644001 (rd x46 x48)).bind fun t652=>(if t652=true then (some 25) else (signal_Valid.l1 k x46 x47 (wrap64 (x48 + 1)) x644000 x644001 x644002)))) else (none)) else (none)) else ((slices_Contains_int_int.f k x644000 18).bind fun t653=>(if t653=true then ((slices_ContainsFunc_int_int_stops.f x644000 0).bind fun t654=>(if t654=true then (some 25) else (some 0))) else (some 0)))
end
def signal_Valid.f (k:Nat) (l0_0:List Int) (l0_1:List Int) (l0_2:List Int):Option (Int):=(signal_ascending.f k l0_0).bind fun t644=>(if t644=true then ((signal_ascending.f k l0_1).bind fun t645=>(if t645=true then ((signal_ascending.f k l0_2).bind fun t646=>(if t646=true then ((slices_ContainsFunc_int_int_fixed.f l0_1 0).bind fun t647=>(if t647=true then (signal_Valid.j0 k true l0_0 l0_1 l0_2) else ((slices_ContainsFunc_int_int_fixed.f l0_2 0).bind fun t648=>(signal_Valid.j0 k t648 l0_0 l0_1 l0_2)))) else (signal_Valid.j0 k true l0_0 l0_1 l0_2))) else (signal_Valid.j0 k true l0_0 l0_1 l0_2))) else (signal_Valid.j0 k true l0_0 l0_1 l0_2))
theorem signal_Valid.mono_l:∀ k,(∀ y0 y1 y2 y3,LeO (signal_Valid.j0 k y0 y1 y2 y3) (signal_Valid.j0 (k + 1) y0 y1 y2 y3))∧(∀ y0 y1 y2 y3 y4 y5,LeO (signal_Valid.l0 k y0 y1 y2 y3 y4 y5) (signal_Valid.l0 (k + 1) y0 y1 y2 y3 y4 y5))∧(∀ y0 y1 y2 y3 y4 y5,LeO (signal_Valid.l1 k y0 y1 y2 y3 y4 y5) (signal_Valid.l1 (k + 1) y0 y1 y2 y3 y4 y5))
 |0=>⟨fun _ _ _ _ r h=>by simp [signal_Valid.j0] at h,fun _ _ _ _ _ _ r h=>by simp [signal_Valid.l0] at h,fun _ _ _ _ _ _ r h=>by simp [signal_Valid.l1] at h⟩
 |k + 1=>by
  obtain ⟨ih0,ih1,ih2⟩:=signal_Valid.mono_l k
  refine ⟨?_,?_,?_⟩
  ·intro y0 y1 y2 y3
   unfold signal_Valid.j0
   repeat' first
   |(with_reducible exact ih0 _ _ _ _)
   |(with_reducible exact ih1 _ _ _ _ _ _)
   |(with_reducible exact ih2 _ _ _ _ _ _)
   |(with_reducible exact signal_ascending.mono _ _)
   |(with_reducible exact slices_Contains_int_int.mono _ _ _)
   |(with_reducible exact LeO.refl _)
   |(with_reducible exact LeO.none _)
   |(with_reducible refine LeO.ite ?_ ?_)
   |(with_reducible refine LeO.bind ?_ (fun _=>?_))
   |exact ih0 _ _ _ _
   |exact ih1 _ _ _ _ _ _
   |exact ih2 _ _ _ _ _ _
   |exact signal_ascending.mono _ _
   |exact slices_Contains_int_int.mono _ _ _
   |exact LeO.none _
   |refine LeO.ite ?_ ?_
   |refine LeO.bind ?_ (fun _=>?_)
  ·intro y0 y1 y2 y3 y4 y5
   unfold signal_Valid.l0
   repeat' first
   |(with_reducible exact ih0 _ _ _ _)
   |(with_reducible exact ih1 _ _ _ _ _ _)
   |(with_reducible exact ih2 _ _ _ _ _ _)
   |(with_reducible exact signal_ascending.mono _ _)
   |(with_reducible exact slices_Contains_int_int.mono _ _ _)
   |(with_reducible exact LeO.refl _)
   |(with_reducible exact LeO.none _)
   |(with_reducible refine LeO.ite ?_ ?_)
   |(with_reducible refine LeO.bind ?_ (fun _=>?_))
   |exact ih0 _ _ _ _
   |exact ih1 _ _ _ _ _ _
   |exact ih2 _ _ _ _ _ _
   |exact signal_ascending.mono _ _
   |exact slices_Contains_int_int.mono _ _ _
   |exact LeO.none _
   |refine LeO.ite ?_ ?_
   |refine LeO.bind ?_ (fun _=>?_)
  ·intro y0 y1 y2 y3 y4 y5
   unfold signal_Valid.l1
   repeat' first
   |(with_reducible exact ih0 _ _ _ _)
   |(with_reducible exact ih1 _ _ _ _ _ _)
   |(with_reducible exact ih2 _ _ _ _ _ _)
   |(with_reducible exact signal_ascending.mono _ _)
   |(with_reducible exact slices_Contains_int_int.mono _ _ _)
   |(with_reducible exact LeO.refl _)
   |(with_reducible exact LeO.none _)
   |(with_reducible refine LeO.ite ?_ ?_)
   |(with_reducible refine LeO.bind ?_ (fun _=>?_))
   |exact ih0 _ _ _ _
   |exact ih1 _ _ _ _ _ _
   |exact ih2 _ _ _ _ _ _
   |exact signal_ascending.mono _ _
   |exact slices_Contains_int_int.mono _ _ _
   |exact LeO.none _
   |refine LeO.ite ?_ ?_
   |refine LeO.bind ?_ (fun _=>?_)
theorem signal_Valid.mono:∀ a0 a1 a2 k,LeO (signal_Valid.f k a0 a1 a2) (signal_Valid.f (k + 1) a0 a1 a2):=by
 intro a0 a1 a2 k
 obtain ⟨ih0,ih1,ih2⟩:=signal_Valid.mono_l k
 unfold signal_Valid.f
 repeat' first
   |(with_reducible exact ih0 _ _ _ _)
   |(with_reducible exact ih1 _ _ _ _ _ _)
   |(with_reducible exact ih2 _ _ _ _ _ _)
   |(with_reducible exact signal_ascending.mono _ _)
   |(with_reducible exact slices_Contains_int_int.mono _ _ _)
   |(with_reducible exact LeO.refl _)
   |(with_reducible exact LeO.none _)
   |(with_reducible refine LeO.ite ?_ ?_)
   |(with_reducible refine LeO.bind ?_ (fun _=>?_))
   |exact ih0 _ _ _ _
   |exact ih1 _ _ _ _ _ _
   |exact ih2 _ _ _ _ _ _
   |exact signal_ascending.mono _ _
   |exact slices_Contains_int_int.mono _ _ _
   |exact LeO.none _
   |refine LeO.ite ?_ ?_
   |refine LeO.bind ?_ (fun _=>?_)
set_option maxHeartbeats 8000000 in
set_option maxRecDepth 10000000 in
theorem signal_Valid.calls (k:Nat) (A0_0:Option Addr) (c0_0:Nat) (l0_0:List Int) (A0_1:Option Addr) (c0_1:Nat) (l0_1:List Int) (A0_2:Option Addr) (c0_2:Nat) (l0_2:List Int) (r:Int) (w:World) (hr0_0:Kd.C (Kd.int .i64) w A0_0 l0_0.length l0_0) (hc0_0:l0_0.length≤c0_0) (hr0_1:Kd.C (Kd.int .i64) w A0_1 l0_1.length l0_1) (hc0_1:l0_1.length≤c0_1) (hr0_2:Kd.C (Kd.int .i64) w A0_2 l0_2.length l0_2) (hc0_2:l0_2.length≤c0_2) (h:signal_Valid.f k l0_0 l0_1 l0_2=some r) :
  Calls Tryd.prog 31 #[.agg #[.slice A0_0 l0_0.length c0_0,.slice A0_1 l0_1.length c0_1,.slice A0_2 l0_2.length c0_2]] w fun e w'=>e=.returned (.int .i64 r)∧Below w.heap.size w w':=by
 have hu30:=Tryd.underlying30
 have HR0_0:=Zk hr0_0
 have HC0_0:=Zk hc0_0
 clear hr0_0 hc0_0
 have HR0_1:=Zk hr0_1
 have HC0_1:=Zk hc0_1
 clear hr0_1 hc0_1
 have HR0_2:=Zk hr0_2
 have HC0_2:=Zk hc0_2
 clear hr0_2 hc0_2
 have HB:=Zk (Below.refl w.heap.size w)
 have H:((signal_ascending.f k l0_0).bind fun t644=>(if t644=true then ((signal_ascending.f k l0_1).bind fun t645=>(if t645=true then ((signal_ascending.f k l0_2).bind fun t646=>(if t646=true then ((slices_ContainsFunc_int_int_fixed.f l0_1 0).bind fun t647=>(if t647=true then (signal_Valid.j0 k true l0_0 l0_1 l0_2) else ((slices_ContainsFunc_int_int_fixed.f l0_2 0).bind fun t648=>(signal_Valid.j0 k t648 l0_0 l0_1 l0_2)))) else (signal_Valid.j0 k true l0_0 l0_1 l0_2))) else (signal_Valid.j0 k true l0_0 l0_1 l0_2))) else (signal_Valid.j0 k true l0_0 l0_1 l0_2)))=some r:=h
 clear h
 have HC2:=Zk H
 clear H
 go_enter Tryd.func31,Tryd.ntmps31
 go_upto_region 1 with (first|((with_reducible refine yT (N:=1) rfl ?_);refine yV ?hg (N:=1) ?hd (cs:=#[.slice A0_0 l0_0.length c0_0,.slice A0_1 l0_1.length c0_1,.slice A0_2 l0_2.length c0_2]) (t:=30) ?hr ?_;(case hd=>rfl);(case hg=>rfl);(case hr=>first|(go_simp;done)|(go_simp;rfl));intro gb643 hg w3 hbox hb;have n0_:=Zk (yA (by repeat (first|(with_reducible first|exact HB.out|apply zG|apply zD|apply zH)|exact HB.out)) hb);have n1_:=Zk (hbox);have n2_:=Zk ((by rw [hg];exact (zP (by repeat (first|(with_reducible first|exact HB.out|apply zG|apply zD|apply zH)|exact HB.out))):w.heap.size≤gb643));have n3_:=Zk ((by rw [hg];exact (zP (by repeat (first|(with_reducible first|exact HB.out|apply zG|apply zD|apply zH)|exact HB.out))):w.heap.size≤gb643));clear HB;have HB:=n0_;have BK643:=n1_;have GW643:=n2_;have GE643:=n3_;clear n0_ n1_ n2_ n3_;clear hb hbox hg))
 (try simp only [Act.put,List.setIfInBounds_toArray,List.set_cons_zero,List.set_cons_succ])
 go_cut [32] (fun v32 wc=>∃ (kq:Nat) (x32_1:Bool),v32=.bool x32_1∧zN (signal_Valid.j0 kq x32_1 l0_0 l0_1 l0_2=some r)∧zN (kq≤k)∧zN (wc.heap[gb643]?=some (.cells #[(.slice A0_0 l0_0.length c0_0),(.slice A0_1 l0_1.length c0_1),(.slice A0_2 l0_2.length c0_2)] 30 (0,0)))∧zN (Below w.heap.size w wc))
 case first=>
  have H:=HC2.out
  clear HC2
  replace H:=Option.bind_eq_some_iff.mp H
  obtain ⟨t644,A40,H⟩:=H
  replace H:(if t644=true then ((signal_ascending.f k l0_1).bind fun t645=>(if t645=true then ((signal_ascending.f k l0_2).bind fun t646=>(if t646=true then ((slices_ContainsFunc_int_int_fixed.f l0_1 0).bind fun t647=>(if t647=true then (signal_Valid.j0 k true l0_0 l0_1 l0_2) else ((slices_ContainsFunc_int_int_fixed.f l0_2 0).bind fun t648=>(signal_Valid.j0 k t648 l0_0 l0_1 l0_2)))) else (signal_Valid.j0 k true l0_0 l0_1 l0_2))) else (signal_Valid.j0 k true l0_0 l0_1 l0_2))) else (signal_Valid.j0 k true l0_0 l0_1 l0_2))=some r:=H
  have A4:=Zk A40
  clear A40
  by_cases c5:t644=true
  ·subst c5
   have H1:((signal_ascending.f k l0_1).bind fun t645=>(if t645=true then ((signal_ascending.f k l0_2).bind fun t646=>(if t646=true then ((slices_ContainsFunc_int_int_fixed.f l0_1 0).bind fun t647=>(if t647=true then (signal_Valid.j0 k true l0_0 l0_1 l0_2) else ((slices_ContainsFunc_int_int_fixed.f l0_2 0).bind fun t648=>(signal_Valid.j0 k t648 l0_0 l0_1 l0_2)))) else (signal_Valid.j0 k true l0_0 l0_1 l0_2))) else (signal_Valid.j0 k true l0_0 l0_1 l0_2)))=some r:=by rw [if_pos rfl] at H;exact H
   clear H
   have H:=H1
   clear H1
   replace H:=Option.bind_eq_some_iff.mp H
   obtain ⟨t645,A60,H⟩:=H
   replace H:(if t645=true then ((signal_ascending.f k l0_2).bind fun t646=>(if t646=true then ((slices_ContainsFunc_int_int_fixed.f l0_1 0).bind fun t647=>(if t647=true then (signal_Valid.j0 k true l0_0 l0_1 l0_2) else ((slices_ContainsFunc_int_int_fixed.f l0_2 0).bind fun t648=>(signal_Valid.j0 k t648 l0_0 l0_1 l0_2)))) else (signal_Valid.j0 k true l0_0 l0_1 l0_2))) else (signal_Valid.j0 k true l0_0 l0_1 l0_2))=some r:=H
   have A6:=Zk A60
   clear A60
   by_cases c7:t645=true
   ·subst c7
    have H1:((signal_ascending.f k l0_2).bind fun t646=>(if t646=true then ((slices_ContainsFunc_int_int_fixed.f l0_1 0).bind fun t647=>(if t647=true then (signal_Valid.j0 k true l0_0 l0_1 l0_2) else ((slices_ContainsFunc_int_int_fixed.f l0_2 0).bind fun t648=>(signal_Valid.j0 k t648 l0_0 l0_1 l0_2)))) else (signal_Valid.j0 k true l0_0 l0_1 l0_2)))=some r:=by rw [if_pos rfl] at H;exact H
    clear H
    have H:=H1
    clear H1
    replace H:=Option.bind_eq_some_iff.mp H
    obtain ⟨t646,A80,H⟩:=H
    replace H:(if t646=true then ((slices_ContainsFunc_int_int_fixed.f l0_1 0).bind fun t647=>(if t647=true then (signal_Valid.j0 k true l0_0 l0_1 l0_2) else ((slices_ContainsFunc_int_int_fixed.f l0_2 0).bind fun t648=>(signal_Valid.j0 k t648 l0_0 l0_1 l0_2)))) else (signal_Valid.j0 k true l0_0 l0_1 l0_2))=some r:=H
    have A8:=Zk A80
    clear A80
    by_cases c9:t646=true
    ·subst c9
     have H1:((slices_ContainsFunc_int_int_fixed.f l0_1 0).bind fun t647=>(if t647=true then (signal_Valid.j0 k true l0_0 l0_1 l0_2) else ((slices_ContainsFunc_int_int_fixed.f l0_2 0).bind fun t648=>(signal_Valid.j0 k t648 l0_0 l0_1 l0_2))))=some r:=by rw [if_pos rfl] at H;exact H
     clear H
     have H:=H1
     clear H1
     replace H:=Option.bind_eq_some_iff.mp H
     obtain ⟨t647,A100,H⟩:=H
     replace H:(if t647=true then (signal_Valid.j0 k true l0_0 l0_1 l0_2) else ((slices_ContainsFunc_int_int_fixed.f l0_2 0).bind fun t648=>(signal_Valid.j0 k t648 l0_0 l0_1 l0_2)))=some r:=H
     have A10:=Zk A100
     clear A100
     by_cases c11:t647=true
     ·subst c11
      have H1:(signal_Valid.j0 k true l0_0 l0_1 l0_2)=some r:=by rw [if_pos rfl] at H;exact H
      clear H
      have H:=H1
      clear H1
      have H':=Zk H
      clear H
      have hcz12_0:w3.cell? ⟨gb643,0,none⟩=some (.slice A0_0 l0_0.length c0_0):=(zJ BK643.out 0).trans rfl
      have hcz12_1:w3.cell? ⟨gb643,1,none⟩=some (.slice A0_1 l0_1.length c0_1):=(zJ BK643.out 1).trans rfl
      have hcz12_2:w3.cell? ⟨gb643,2,none⟩=some (.slice A0_2 l0_2.length c0_2):=(zJ BK643.out 2).trans rfl
      have hfz12_0:=zI BK643.out 0
      have hfz12_1:=zI BK643.out 1
      have hfz12_2:=zI BK643.out 2
      go_wp2_with (first|((with_reducible refine yD (f:=49) rfl ?_);refine yM (some 9) rfl rfl Tryd.func49 (by kernel_rfl) rfl #[.slice A0_0 l0_0.length c0_0] rfl (by (try simp only [List.map_toArray,List.map_cons,List.map_nil]);first|done|rfl|(simp only [List.length_drop,List.length_take];rfl)) ?_;(with_reducible refine (signal_ascending.calls k _ _ l0_0 true _ ?side1 ?side2 A4.out).mono ?_);(case side1=>repeat (first|exact (yS HR0_0.out HB.out)|(with_reducible refine yG ?_ _)|(with_reducible refine yF ?_ _)|(with_reducible refine yI ?_)));(case side2=>exact HC0_0.out);rintro e w13 ⟨rfl,hb⟩;refine ⟨_,rfl,?_⟩;have n0_:=Zk (zW (g:=gb643) (o:=.cells #[.slice A0_0 l0_0.length c0_0,.slice A0_1 l0_1.length c0_1,.slice A0_2 l0_2.length c0_2] 30 (0,0)) (by (with_reducible repeat (first|refine zB ?_ _|refine zF ?_|refine zA ?_ _));exact BK643.out) hb);have n1_:=Zk (yA (by repeat (first|(with_reducible first|exact HB.out|apply zG|apply zD|apply zH|refine zC ?_ GE643.out)|exact HB.out)) hb);clear BK643;clear HB;have BK643:=n0_;have HB:=n1_;clear n0_ n1_;(try clear hb);(try clear hb2);(try clear hk);(try clear hi);have hcz14_0:w13.cell? ⟨gb643,0,none⟩=some (.slice A0_0 l0_0.length c0_0):=(zJ BK643.out 0).trans rfl;have hcz14_1:w13.cell? ⟨gb643,1,none⟩=some (.slice A0_1 l0_1.length c0_1):=(zJ BK643.out 1).trans rfl;have hcz14_2:w13.cell? ⟨gb643,2,none⟩=some (.slice A0_2 l0_2.length c0_2):=(zJ BK643.out 2).trans rfl;have hfz14_0:=zI BK643.out 0;have hfz14_1:=zI BK643.out 1;have hfz14_2:=zI BK643.out 2)|(go_at_call 49;(with_reducible refine (signal_ascending.calls k _ _ l0_1 true _ ?side1 ?side2 A6.out).mono ?_);(case side1=>repeat (first|exact (yS HR0_1.out HB.out)|(with_reducible refine yG ?_ _)|(with_reducible refine yF ?_ _)|(with_reducible refine yI ?_)));(case side2=>exact HC0_1.out);rintro e w15 ⟨rfl,hb⟩;have n0_:=Zk (zW (g:=gb643) (o:=.cells #[.slice A0_0 l0_0.length c0_0,.slice A0_1 l0_1.length c0_1,.slice A0_2 l0_2.length c0_2] 30 (0,0)) (by (with_reducible repeat (first|refine zB ?_ _|refine zF ?_|refine zA ?_ _));exact BK643.out) hb);have n1_:=Zk (yA (by repeat (first|(with_reducible first|exact HB.out|apply zG|apply zD|apply zH|refine zC ?_ GE643.out)|exact HB.out)) hb);clear BK643;clear HB;have BK643:=n0_;have HB:=n1_;clear n0_ n1_;(try clear hb);(try clear hb2);(try clear hk);(try clear hi);have hcz16_0:w15.cell? ⟨gb643,0,none⟩=some (.slice A0_0 l0_0.length c0_0):=(zJ BK643.out 0).trans rfl;have hcz16_1:w15.cell? ⟨gb643,1,none⟩=some (.slice A0_1 l0_1.length c0_1):=(zJ BK643.out 1).trans rfl;have hcz16_2:w15.cell? ⟨gb643,2,none⟩=some (.slice A0_2 l0_2.length c0_2):=(zJ BK643.out 2).trans rfl;have hfz16_0:=zI BK643.out 0;have hfz16_1:=zI BK643.out 1;have hfz16_2:=zI BK643.out 2)|(go_at_call 49;(with_reducible refine (signal_ascending.calls k _ _ l0_2 true _ ?side1 ?side2 A8.out).mono ?_);(case side1=>repeat (first|exact (yS HR0_2.out HB.out)|(with_reducible refine yG ?_ _)|(with_reducible refine yF ?_ _)|(with_reducible refine yI ?_)));(case side2=>exact HC0_2.out);rintro e w17 ⟨rfl,hb⟩;have n0_:=Zk (zW (g:=gb643) (o:=.cells #[.slice A0_0 l0_0.length c0_0,.slice A0_1 l0_1.length c0_1,.slice A0_2 l0_2.length c0_2] 30 (0,0)) (by (with_reducible repeat (first|refine zB ?_ _|refine zF ?_|refine zA ?_ _));exact BK643.out) hb);have n1_:=Zk (yA (by repeat (first|(with_reducible first|exact HB.out|apply zG|apply zD|apply zH|refine zC ?_ GE643.out)|exact HB.out)) hb);clear BK643;clear HB;have BK643:=n0_;have HB:=n1_;clear n0_ n1_;(try clear hb);(try clear hb2);(try clear hk);(try clear hi);have hcz18_0:w17.cell? ⟨gb643,0,none⟩=some (.slice A0_0 l0_0.length c0_0):=(zJ BK643.out 0).trans rfl;have hcz18_1:w17.cell? ⟨gb643,1,none⟩=some (.slice A0_1 l0_1.length c0_1):=(zJ BK643.out 1).trans rfl;have hcz18_2:w17.cell? ⟨gb643,2,none⟩=some (.slice A0_2 l0_2.length c0_2):=(zJ BK643.out 2).trans rfl;have hfz18_0:=zI BK643.out 0;have hfz18_1:=zI BK643.out 1;have hfz18_2:=zI BK643.out 2)|(go_at_call 50;(with_reducible refine (slices_ContainsFunc_int_int_fixed.calls _ _ l0_1 0 true _ ?side1 ?side2 A10.out).mono ?_);(case side1=>repeat (first|exact (yS HR0_1.out HB.out)|(with_reducible refine yG ?_ _)|(with_reducible refine yF ?_ _)|(with_reducible refine yI ?_)));(case side2=>exact HC0_1.out);rintro e w' ⟨rfl,⟨nd,rfl⟩⟩))
      go_meet
      case rel=>exact ⟨_,(true),(by first|rfl|(simp;done)|(simp [*];done)|(generalize ByteArray.toList _=l_;cases l_ <;> rfl)),H',⟨by first|omega|exact Nat.le_refl _⟩,⟨by (with_reducible repeat (first|refine zB ?_ _|refine zF ?_|refine zA ?_ _));exact BK643.out⟩,⟨by repeat (first|(with_reducible first|exact HB.out|apply zG|apply zD|apply zH|refine zC ?_ GE643.out)|exact HB.out)⟩⟩
     ·replace c11:=Bool.eq_false_iff.mpr c11
      subst c11
      have H1:((slices_ContainsFunc_int_int_fixed.f l0_2 0).bind fun t648=>(signal_Valid.j0 k t648 l0_0 l0_1 l0_2))=some r:=by rw [if_neg (show ¬ (false=true) by decide)] at H;exact H
      clear H
      have H:=H1
      clear H1
      replace H:=Option.bind_eq_some_iff.mp H
      obtain ⟨t648,A190,H⟩:=H
      replace H:(signal_Valid.j0 k t648 l0_0 l0_1 l0_2)=some r:=H
      have A19:=Zk A190
      clear A190
      have H':=Zk H
      clear H
      have hcz20_0:w3.cell? ⟨gb643,0,none⟩=some (.slice A0_0 l0_0.length c0_0):=(zJ BK643.out 0).trans rfl
      have hcz20_1:w3.cell? ⟨gb643,1,none⟩=some (.slice A0_1 l0_1.length c0_1):=(zJ BK643.out 1).trans rfl
      have hcz20_2:w3.cell? ⟨gb643,2,none⟩=some (.slice A0_2 l0_2.length c0_2):=(zJ BK643.out 2).trans rfl
      have hfz20_0:=zI BK643.out 0
      have hfz20_1:=zI BK643.out 1
      have hfz20_2:=zI BK643.out 2
      go_wp2_with (first|((with_reducible refine yD (f:=49) rfl ?_);refine yM (some 9) rfl rfl Tryd.func49 (by kernel_rfl) rfl #[.slice A0_0 l0_0.length c0_0] rfl (by (try simp only [List.map_toArray,List.map_cons,List.map_nil]);first|done|rfl|(simp only [List.length_drop,List.length_take];rfl)) ?_;(with_reducible refine (signal_ascending.calls k _ _ l0_0 true _ ?side1 ?side2 A4.out).mono ?_);(case side1=>repeat (first|exact (yS HR0_0.out HB.out)|(with_reducible refine yG ?_ _)|(with_reducible refine yF ?_ _)|(with_reducible refine yI ?_)));(case side2=>exact HC0_0.out);rintro e w21 ⟨rfl,hb⟩;refine ⟨_,rfl,?_⟩;have n0_:=Zk (zW (g:=gb643) (o:=.cells #[.slice A0_0 l0_0.length c0_0,.slice A0_1 l0_1.length c0_1,.slice A0_2 l0_2.length c0_2] 30 (0,0)) (by (with_reducible repeat (first|refine zB ?_ _|refine zF ?_|refine zA ?_ _));exact BK643.out) hb);have n1_:=Zk (yA (by repeat (first|(with_reducible first|exact HB.out|apply zG|apply zD|apply zH|refine zC ?_ GE643.out)|exact HB.out)) hb);clear BK643;clear HB;have BK643:=n0_;have HB:=n1_;clear n0_ n1_;(try clear hb);(try clear hb2);(try clear hk);(try clear hi);have hcz22_0:w21.cell? ⟨gb643,0,none⟩=some (.slice A0_0 l0_0.length c0_0):=(zJ BK643.out 0).trans rfl;have hcz22_1:w21.cell? ⟨gb643,1,none⟩=some (.slice A0_1 l0_1.length c0_1):=(zJ BK643.out 1).trans rfl;have hcz22_2:w21.cell? ⟨gb643,2,none⟩=some (.slice A0_2 l0_2.length c0_2):=(zJ BK643.out 2).trans rfl;have hfz22_0:=zI BK643.out 0;have hfz22_1:=zI BK643.out 1;have hfz22_2:=zI BK643.out 2)|(go_at_call 49;(with_reducible refine (signal_ascending.calls k _ _ l0_1 true _ ?side1 ?side2 A6.out).mono ?_);(case side1=>repeat (first|exact (yS HR0_1.out HB.out)|(with_reducible refine yG ?_ _)|(with_reducible refine yF ?_ _)|(with_reducible refine yI ?_)));(case side2=>exact HC0_1.out);rintro e w23 ⟨rfl,hb⟩;have n0_:=Zk (zW (g:=gb643) (o:=.cells #[.slice A0_0 l0_0.length c0_0,.slice A0_1 l0_1.length c0_1,.slice A0_2 l0_2.length c0_2] 30 (0,0)) (by (with_reducible repeat (first|refine zB ?_ _|refine zF ?_|refine zA ?_ _));exact BK643.out) hb);have n1_:=Zk (yA (by repeat (first|(with_reducible first|exact HB.out|apply zG|apply zD|apply zH|refine zC ?_ GE643.out)|exact HB.out)) hb);clear BK643;clear HB;have BK643:=n0_;have HB:=n1_;clear n0_ n1_;(try clear hb);(try clear hb2);(try clear hk);(try clear hi);have hcz24_0:w23.cell? ⟨gb643,0,none⟩=some (.slice A0_0 l0_0.length c0_0):=(zJ BK643.out 0).trans rfl;have hcz24_1:w23.cell? ⟨gb643,1,none⟩=some (.slice A0_1 l0_1.length c0_1):=(zJ BK643.out 1).trans rfl;have hcz24_2:w23.cell? ⟨gb643,2,none⟩=some (.slice A0_2 l0_2.length c0_2):=(zJ BK643.out 2).trans rfl;have hfz24_0:=zI BK643.out 0;have hfz24_1:=zI BK643.out 1;have hfz24_2:=zI BK643.out 2)|(go_at_call 49;(with_reducible refine (signal_ascending.calls k _ _ l0_2 true _ ?side1 ?side2 A8.out).mono ?_);(case side1=>repeat (first|exact (yS HR0_2.out HB.out)|(with_reducible refine yG ?_ _)|(with_reducible refine yF ?_ _)|(with_reducible refine yI ?_)));(case side2=>exact HC0_2.out);rintro e w25 ⟨rfl,hb⟩;have n0_:=Zk (zW (g:=gb643) (o:=.cells #[.slice A0_0 l0_0.length c0_0,.slice A0_1 l0_1.length c0_1,.slice A0_2 l0_2.length c0_2] 30 (0,0)) (by (with_reducible repeat (first|refine zB ?_ _|refine zF ?_|refine zA ?_ _));exact BK643.out) hb);have n1_:=Zk (yA (by repeat (first|(with_reducible first|exact HB.out|apply zG|apply zD|apply zH|refine zC ?_ GE643.out)|exact HB.out)) hb);clear BK643;clear HB;have BK643:=n0_;have HB:=n1_;clear n0_ n1_;(try clear hb);(try clear hb2);(try clear hk);(try clear hi);have hcz26_0:w25.cell? ⟨gb643,0,none⟩=some (.slice A0_0 l0_0.length c0_0):=(zJ BK643.out 0).trans rfl;have hcz26_1:w25.cell? ⟨gb643,1,none⟩=some (.slice A0_1 l0_1.length c0_1):=(zJ BK643.out 1).trans rfl;have hcz26_2:w25.cell? ⟨gb643,2,none⟩=some (.slice A0_2 l0_2.length c0_2):=(zJ BK643.out 2).trans rfl;have hfz26_0:=zI BK643.out 0;have hfz26_1:=zI BK643.out 1;have hfz26_2:=zI BK643.out 2)|(go_at_call 50;(with_reducible refine (slices_ContainsFunc_int_int_fixed.calls _ _ l0_1 0 false _ ?side1 ?side2 A10.out).mono ?_);(case side1=>repeat (first|exact (yS HR0_1.out HB.out)|(with_reducible refine yG ?_ _)|(with_reducible refine yF ?_ _)|(with_reducible refine yI ?_)));(case side2=>exact HC0_1.out);rintro e w' ⟨rfl,⟨nd,rfl⟩⟩)|(go_at_call 50;(with_reducible refine (slices_ContainsFunc_int_int_fixed.calls _ _ l0_2 0 t648 _ ?side1 ?side2 A19.out).mono ?_);(case side1=>repeat (first|exact (yS HR0_2.out (by repeat (first|(with_reducible first|exact HB.out|apply zG|apply zD|apply zH|refine zC ?_ GE643.out)|exact HB.out)))|(with_reducible refine yG ?_ _)|(with_reducible refine yF ?_ _)|(with_reducible refine yI ?_)));(case side2=>exact HC0_2.out);rintro e w' ⟨rfl,⟨nd,rfl⟩⟩))
      go_meet
      case rel=>exact ⟨_,(t648),(by first|rfl|(simp;done)|(simp [*];done)|(generalize ByteArray.toList _=l_;cases l_ <;> rfl)),H',⟨by first|omega|exact Nat.le_refl _⟩,⟨by (with_reducible repeat (first|refine zB ?_ _|refine zF ?_|refine zA ?_ _));exact BK643.out⟩,⟨by repeat (first|(with_reducible first|exact HB.out|apply zG|apply zD|apply zH|refine zC ?_ GE643.out)|exact HB.out)⟩⟩
    ·replace c9:=Bool.eq_false_iff.mpr c9
     subst c9
     have H1:(signal_Valid.j0 k true l0_0 l0_1 l0_2)=some r:=by rw [if_neg (show ¬ (false=true) by decide)] at H;exact H
     clear H
     have H:=H1
     clear H1
     have H':=Zk H
     clear H
     have hcz27_0:w3.cell? ⟨gb643,0,none⟩=some (.slice A0_0 l0_0.length c0_0):=(zJ BK643.out 0).trans rfl
     have hcz27_1:w3.cell? ⟨gb643,1,none⟩=some (.slice A0_1 l0_1.length c0_1):=(zJ BK643.out 1).trans rfl
     have hcz27_2:w3.cell? ⟨gb643,2,none⟩=some (.slice A0_2 l0_2.length c0_2):=(zJ BK643.out 2).trans rfl
     have hfz27_0:=zI BK643.out 0
     have hfz27_1:=zI BK643.out 1
     have hfz27_2:=zI BK643.out 2
     go_wp2_with (first|((with_reducible refine yD (f:=49) rfl ?_);refine yM (some 9) rfl rfl Tryd.func49 (by kernel_rfl) rfl #[.slice A0_0 l0_0.length c0_0] rfl (by (try simp only [List.map_toArray,List.map_cons,List.map_nil]);first|done|rfl|(simp only [List.length_drop,List.length_take];rfl)) ?_;(with_reducible refine (signal_ascending.calls k _ _ l0_0 true _ ?side1 ?side2 A4.out).mono ?_);(case side1=>repeat (first|exact (yS HR0_0.out HB.out)|(with_reducible refine yG ?_ _)|(with_reducible refine yF ?_ _)|(with_reducible refine yI ?_)));(case side2=>exact HC0_0.out);rintro e w28 ⟨rfl,hb⟩;refine ⟨_,rfl,?_⟩;have n0_:=Zk (zW (g:=gb643) (o:=.cells #[.slice A0_0 l0_0.length c0_0,.slice A0_1 l0_1.length c0_1,.slice A0_2 l0_2.length c0_2] 30 (0,0)) (by (with_reducible repeat (first|refine zB ?_ _|refine zF ?_|refine zA ?_ _));exact BK643.out) hb);have n1_:=Zk (yA (by repeat (first|(with_reducible first|exact HB.out|apply zG|apply zD|apply zH|refine zC ?_ GE643.out)|exact HB.out)) hb);clear BK643;clear HB;have BK643:=n0_;have HB:=n1_;clear n0_ n1_;(try clear hb);(try clear hb2);(try clear hk);(try clear hi);have hcz29_0:w28.cell? ⟨gb643,0,none⟩=some (.slice A0_0 l0_0.length c0_0):=(zJ BK643.out 0).trans rfl;have hcz29_1:w28.cell? ⟨gb643,1,none⟩=some (.slice A0_1 l0_1.length c0_1):=(zJ BK643.out 1).trans rfl;have hcz29_2:w28.cell? ⟨gb643,2,none⟩=some (.slice A0_2 l0_2.length c0_2):=(zJ BK643.out 2).trans rfl;have hfz29_0:=zI BK643.out 0;have hfz29_1:=zI BK643.out 1;have hfz29_2:=zI BK643.out 2)|(go_at_call 49;(with_reducible refine (signal_ascending.calls k _ _ l0_1 true _ ?side1 ?side2 A6.out).mono ?_);(case side1=>repeat (first|exact (yS HR0_1.out HB.out)|(with_reducible refine yG ?_ _)|(with_reducible refine yF ?_ _)|(with_reducible refine yI ?_)));(case side2=>exact HC0_1.out);rintro e w30 ⟨rfl,hb⟩;have n0_:=Zk (zW (g:=gb643) (o:=.cells #[.slice A0_0 l0_0.length c0_0,.slice A0_1 l0_1.length c0_1,.slice A0_2 l0_2.length c0_2] 30 (0,0)) (by (with_reducible repeat (first|refine zB ?_ _|refine zF ?_|refine zA ?_ _));exact BK643.out) hb);have n1_:=Zk (yA (by repeat (first|(with_reducible first|exact HB.out|apply zG|apply zD|apply zH|refine zC ?_ GE643.out)|exact HB.out)) hb);clear BK643;clear HB;have BK643:=n0_;have HB:=n1_;clear n0_ n1_;(try clear hb);(try clear hb2);(try clear hk);(try clear hi);have hcz31_0:w30.cell? ⟨gb643,0,none⟩=some (.slice A0_0 l0_0.length c0_0):=(zJ BK643.out 0).trans rfl;have hcz31_1:w30.cell? ⟨gb643,1,none⟩=some (.slice A0_1 l0_1.length c0_1):=(zJ BK643.out 1).trans rfl;have hcz31_2:w30.cell? ⟨gb643,2,none⟩=some (.slice A0_2 l0_2.length c0_2):=(zJ BK643.out 2).trans rfl;have hfz31_0:=zI BK643.out 0;have hfz31_1:=zI BK643.out 1;have hfz31_2:=zI BK643.out 2)|(go_at_call 49;(with_reducible refine (signal_ascending.calls k _ _ l0_2 false _ ?side1 ?side2 A8.out).mono ?_);(case side1=>repeat (first|exact (yS HR0_2.out HB.out)|(with_reducible refine yG ?_ _)|(with_reducible refine yF ?_ _)|(with_reducible refine yI ?_)));(case side2=>exact HC0_2.out);rintro e w32 ⟨rfl,hb⟩;have n0_:=Zk (zW (g:=gb643) (o:=.cells #[.slice A0_0 l0_0.length c0_0,.slice A0_1 l0_1.length c0_1,.slice A0_2 l0_2.length c0_2] 30 (0,0)) (by (with_reducible repeat (first|refine zB ?_ _|refine zF ?_|refine zA ?_ _));exact BK643.out) hb);have n1_:=Zk (yA (by repeat (first|(with_reducible first|exact HB.out|apply zG|apply zD|apply zH|refine zC ?_ GE643.out)|exact HB.out)) hb);clear BK643;clear HB;have BK643:=n0_;have HB:=n1_;clear n0_ n1_;(try clear hb);(try clear hb2);(try clear hk);(try clear hi)))
     go_meet
     case rel=>exact ⟨_,(true),(by first|rfl|(simp;done)|(simp [*];done)|(generalize ByteArray.toList _=l_;cases l_ <;> rfl)),H',⟨by first|omega|exact Nat.le_refl _⟩,⟨by (with_reducible repeat (first|refine zB ?_ _|refine zF ?_|refine zA ?_ _));exact BK643.out⟩,⟨by repeat (first|(with_reducible first|exact HB.out|apply zG|apply zD|apply zH|refine zC ?_ GE643.out)|exact HB.out)⟩⟩
   ·replace c7:=Bool.eq_false_iff.mpr c7
    subst c7
    have H1:(signal_Valid.j0 k true l0_0 l0_1 l0_2)=some r:=by rw [if_neg (show ¬ (false=true) by decide)] at H;exact H
    clear H
    have H:=H1
    clear H1
    have H':=Zk H
    clear H
    have hcz33_0:w3.cell? ⟨gb643,0,none⟩=some (.slice A0_0 l0_0.length c0_0):=(zJ BK643.out 0).trans rfl
    have hcz33_1:w3.cell? ⟨gb643,1,none⟩=some (.slice A0_1 l0_1.length c0_1):=(zJ BK643.out 1).trans rfl
    have hcz33_2:w3.cell? ⟨gb643,2,none⟩=some (.slice A0_2 l0_2.length c0_2):=(zJ BK643.out 2).trans rfl
    have hfz33_0:=zI BK643.out 0
    have hfz33_1:=zI BK643.out 1
    have hfz33_2:=zI BK643.out 2
    go_wp2_with (first|((with_reducible refine yD (f:=49) rfl ?_);refine yM (some 9) rfl rfl Tryd.func49 (by kernel_rfl) rfl #[.slice A0_0 l0_0.length c0_0] rfl (by (try simp only [List.map_toArray,List.map_cons,List.map_nil]);first|done|rfl|(simp only [List.length_drop,List.length_take];rfl)) ?_;(with_reducible refine (signal_ascending.calls k _ _ l0_0 true _ ?side1 ?side2 A4.out).mono ?_);(case side1=>repeat (first|exact (yS HR0_0.out HB.out)|(with_reducible refine yG ?_ _)|(with_reducible refine yF ?_ _)|(with_reducible refine yI ?_)));(case side2=>exact HC0_0.out);rintro e w34 ⟨rfl,hb⟩;refine ⟨_,rfl,?_⟩;have n0_:=Zk (zW (g:=gb643) (o:=.cells #[.slice A0_0 l0_0.length c0_0,.slice A0_1 l0_1.length c0_1,.slice A0_2 l0_2.length c0_2] 30 (0,0)) (by (with_reducible repeat (first|refine zB ?_ _|refine zF ?_|refine zA ?_ _));exact BK643.out) hb);have n1_:=Zk (yA (by repeat (first|(with_reducible first|exact HB.out|apply zG|apply zD|apply zH|refine zC ?_ GE643.out)|exact HB.out)) hb);clear BK643;clear HB;have BK643:=n0_;have HB:=n1_;clear n0_ n1_;(try clear hb);(try clear hb2);(try clear hk);(try clear hi);have hcz35_0:w34.cell? ⟨gb643,0,none⟩=some (.slice A0_0 l0_0.length c0_0):=(zJ BK643.out 0).trans rfl;have hcz35_1:w34.cell? ⟨gb643,1,none⟩=some (.slice A0_1 l0_1.length c0_1):=(zJ BK643.out 1).trans rfl;have hcz35_2:w34.cell? ⟨gb643,2,none⟩=some (.slice A0_2 l0_2.length c0_2):=(zJ BK643.out 2).trans rfl;have hfz35_0:=zI BK643.out 0;have hfz35_1:=zI BK643.out 1;have hfz35_2:=zI BK643.out 2)|(go_at_call 49;(with_reducible refine (signal_ascending.calls k _ _ l0_1 false _ ?side1 ?side2 A6.out).mono ?_);(case side1=>repeat (first|exact (yS HR0_1.out HB.out)|(with_reducible refine yG ?_ _)|(with_reducible refine yF ?_ _)|(with_reducible refine yI ?_)));(case side2=>exact HC0_1.out);rintro e w36 ⟨rfl,hb⟩;have n0_:=Zk (zW (g:=gb643) (o:=.cells #[.slice A0_0 l0_0.length c0_0,.slice A0_1 l0_1.length c0_1,.slice A0_2 l0_2.length c0_2] 30 (0,0)) (by (with_reducible repeat (first|refine zB ?_ _|refine zF ?_|refine zA ?_ _));exact BK643.out) hb);have n1_:=Zk (yA (by repeat (first|(with_reducible first|exact HB.out|apply zG|apply zD|apply zH|refine zC ?_ GE643.out)|exact HB.out)) hb);clear BK643;clear HB;have BK643:=n0_;have HB:=n1_;clear n0_ n1_;(try clear hb);(try clear hb2);(try clear hk);(try clear hi)))
    go_meet
    case rel=>exact ⟨_,(true),(by first|rfl|(simp;done)|(simp [*];done)|(generalize ByteArray.toList _=l_;cases l_ <;> rfl)),H',⟨by first|omega|exact Nat.le_refl _⟩,⟨by (with_reducible repeat (first|refine zB ?_ _|refine zF ?_|refine zA ?_ _));exact BK643.out⟩,⟨by repeat (first|(with_reducible first|exact HB.out|apply zG|apply zD|apply zH|refine zC ?_ GE643.out)|exact HB.out)⟩⟩
  ·replace c5:=Bool.eq_false_iff.mpr c5
   subst c5
   have H1:(signal_Valid.j0 k true l0_0 l0_1 l0_2)=some r:=by rw [if_neg (show ¬ (false=true) by decide)] at H;exact H
   clear H
   have H:=H1
   clear H1
   have H':=Zk H
   clear H
   have hcz37_0:w3.cell? ⟨gb643,0,none⟩=some (.slice A0_0 l0_0.length c0_0):=(zJ BK643.out 0).trans rfl
   have hcz37_1:w3.cell? ⟨gb643,1,none⟩=some (.slice A0_1 l0_1.length c0_1):=(zJ BK643.out 1).trans rfl
   have hcz37_2:w3.cell? ⟨gb643,2,none⟩=some (.slice A0_2 l0_2.length c0_2):=(zJ BK643.out 2).trans rfl
   have hfz37_0:=zI BK643.out 0
   have hfz37_1:=zI BK643.out 1
   have hfz37_2:=zI BK643.out 2
   go_wp2_with (first|((with_reducible refine yD (f:=49) rfl ?_);refine yM (some 9) rfl rfl Tryd.func49 (by kernel_rfl) rfl #[.slice A0_0 l0_0.length c0_0] rfl (by (try simp only [List.map_toArray,List.map_cons,List.map_nil]);first|done|rfl|(simp only [List.length_drop,List.length_take];rfl)) ?_;(with_reducible refine (signal_ascending.calls k _ _ l0_0 false _ ?side1 ?side2 A4.out).mono ?_);(case side1=>repeat (first|exact (yS HR0_0.out HB.out)|(with_reducible refine yG ?_ _)|(with_reducible refine yF ?_ _)|(with_reducible refine yI ?_)));(case side2=>exact HC0_0.out);rintro e w38 ⟨rfl,hb⟩;refine ⟨_,rfl,?_⟩;have n0_:=Zk (zW (g:=gb643) (o:=.cells #[.slice A0_0 l0_0.length c0_0,.slice A0_1 l0_1.length c0_1,.slice A0_2 l0_2.length c0_2] 30 (0,0)) (by (with_reducible repeat (first|refine zB ?_ _|refine zF ?_|refine zA ?_ _));exact BK643.out) hb);have n1_:=Zk (yA (by repeat (first|(with_reducible first|exact HB.out|apply zG|apply zD|apply zH|refine zC ?_ GE643.out)|exact HB.out)) hb);clear BK643;clear HB;have BK643:=n0_;have HB:=n1_;clear n0_ n1_;(try clear hb);(try clear hb2);(try clear hk);(try clear hi)))
   go_meet
   case rel=>exact ⟨_,(true),(by first|rfl|(simp;done)|(simp [*];done)|(generalize ByteArray.toList _=l_;cases l_ <;> rfl)),H',⟨by first|omega|exact Nat.le_refl _⟩,⟨by (with_reducible repeat (first|refine zB ?_ _|refine zF ?_|refine zA ?_ _));exact BK643.out⟩,⟨by repeat (first|(with_reducible first|exact HB.out|apply zG|apply zD|apply zH|refine zC ?_ GE643.out)|exact HB.out)⟩⟩
 case rest=>
  clear HC2
  try clear c1
  try clear p2
  try clear c3
  try clear c4
  try clear c5
  try clear c7
  try clear c9
  try clear c11
  try clear c31
  try clear hcz12_0
  try clear hcz12_1
  try clear hcz12_2
  try clear hcz14_0
  try clear hcz14_1
  try clear hcz14_2
  try clear hcz16_0
  try clear hcz16_1
  try clear hcz16_2
  try clear hcz18_0
  try clear hcz18_1
  try clear hcz18_2
  try clear hcz20_0
  try clear hcz20_1
  try clear hcz20_2
  try clear hcz22_0
  try clear hcz22_1
  try clear hcz22_2
  try clear hcz24_0
  try clear hcz24_1
  try clear hcz24_2
  try clear hcz26_0
  try clear hcz26_1
  try clear hcz26_2
  try clear hcz27_0
  try clear hcz27_1
  try clear hcz27_2
  try clear hcz29_0
  try clear hcz29_1
  try clear hcz29_2
  try clear hcz31_0
  try clear hcz31_1
  try clear hcz31_2
  try clear hcz33_0
  try clear hcz33_1
  try clear hcz33_2
  try clear hcz35_0
  try clear hcz35_1
  try clear hcz35_2
  try clear hcz37_0
  try clear hcz37_1
  try clear hcz37_2
  try clear hfz12_0
  try clear hfz12_1
  try clear hfz12_2
  try clear hfz14_0
  try clear hfz14_1
  try clear hfz14_2
  try clear hfz16_0
  try clear hfz16_1
  try clear hfz16_2
  try clear hfz18_0
  try clear hfz18_1
  try clear hfz18_2
  try clear hfz20_0
  try clear hfz20_1
  try clear hfz20_2
  try clear hfz22_0
  try clear hfz22_1
  try clear hfz22_2
  try clear hfz24_0
  try clear hfz24_1
  try clear hfz24_2
  try clear hfz26_0
  try clear hfz26_1
  try clear hfz26_2
  try clear hfz27_0
  try clear hfz27_1
  try clear hfz27_2
  try clear hfz29_0
  try clear hfz29_1
  try clear hfz29_2
  try clear hfz31_0
  try clear hfz31_1
  try clear hfz31_2
  try clear hfz33_0
  try clear hfz33_1
  try clear hfz33_2
  try clear hfz35_0
  try clear hfz35_1
  try clear hfz35_2
  try clear hfz37_0
  try clear hfz37_1
  try clear hfz37_2
  obtain ⟨kq,x32_1,rfl,HA,HJ1,BK643,HB⟩:=hcut
  cases kq with
  |zero=>exact absurd HA.out (by simp [signal_Valid.j0])
  |succ kj1=>
   have H:=HA.out
   clear HA
   simp only [signal_Valid.j0] at H
   by_cases c39:x32_1=true
   ·subst c39
    have H1:(some 1)=some r:=by rw [if_pos rfl] at H;exact H
    clear H
    have H:=H1
    clear H1
    obtain rfl:=Option.some.inj H
    go_wp2
    go_ret
    exact ⟨by first|rfl|(simp [errW_none,errW_some] <;> rfl)|(simp [*,errW_none,errW_some] <;> rfl),by repeat (first|(with_reducible first|exact HB.out|apply zG|apply zD|apply zH|refine zC ?_ GE643.out)|exact HB.out)⟩
   ·replace c39:=Bool.eq_false_iff.mpr c39
    subst c39
    have H1:(signal_Valid.l0 kj1 l0_1 (l0_1.length:Int) 0 l0_0 l0_1 l0_2)=some r:=by rw [if_neg (show ¬ (false=true) by decide)] at H;exact H
    clear H
    have H:=H1
    clear H1
    have H':=Zk H
    clear H
    have hcz40_0:wc.cell? ⟨gb643,0,none⟩=some (.slice A0_0 l0_0.length c0_0):=(zJ BK643.out 0).trans rfl
    have hcz40_1:wc.cell? ⟨gb643,1,none⟩=some (.slice A0_1 l0_1.length c0_1):=(zJ BK643.out 1).trans rfl
    have hcz40_2:wc.cell? ⟨gb643,2,none⟩=some (.slice A0_2 l0_2.length c0_2):=(zJ BK643.out 2).trans rfl
    have hfz40_0:=zI BK643.out 0
    have hfz40_1:=zI BK643.out 1
    have hfz40_2:=zI BK643.out 2
    go_wp2
    go_loopg [36] kj1 (fun kq v36 w'=>∃ (x36_2:Int),v36=.int .i64 x36_2∧zN (signal_Valid.l0 kq l0_1 (l0_1.length:Int) x36_2 l0_0 l0_1 l0_2=some r)∧zN (kq≤kj1)∧zN (w'.heap[gb643]?=some (.cells #[(.slice A0_0 l0_0.length c0_0),(.slice A0_1 l0_1.length c0_1),(.slice A0_2 l0_2.length c0_2)] 30 (0,0)))∧zN (Below w.heap.size w w'))
    case atStart=>exact ⟨(0),(by first|rfl|(simp;done)|(simp [*];done)|(generalize ByteArray.toList _=l_;cases l_ <;> rfl)),H',⟨Nat.le_refl _⟩,⟨by (with_reducible repeat (first|refine zB ?_ _|refine zF ?_|refine zA ?_ _));exact BK643.out⟩,⟨by repeat (first|(with_reducible first|exact HB.out|apply zG|apply zD|apply zH|refine zC ?_ GE643.out)|exact HB.out)⟩⟩
    case round=>
     clear H'
     try clear c1
     try clear p2
     try clear c3
     try clear c4
     try clear c5
     try clear c7
     try clear c9
     try clear c11
     try clear c31
     try clear c39
     try clear hcz12_0
     try clear hcz12_1
     try clear hcz12_2
     try clear hcz14_0
     try clear hcz14_1
     try clear hcz14_2
     try clear hcz16_0
     try clear hcz16_1
     try clear hcz16_2
     try clear hcz18_0
     try clear hcz18_1
     try clear hcz18_2
     try clear hcz20_0
     try clear hcz20_1
     try clear hcz20_2
     try clear hcz22_0
     try clear hcz22_1
     try clear hcz22_2
     try clear hcz24_0
     try clear hcz24_1
     try clear hcz24_2
     try clear hcz26_0
     try clear hcz26_1
     try clear hcz26_2
     try clear hcz27_0
     try clear hcz27_1
     try clear hcz27_2
     try clear hcz29_0
     try clear hcz29_1
     try clear hcz29_2
     try clear hcz31_0
     try clear hcz31_1
     try clear hcz31_2
     try clear hcz33_0
     try clear hcz33_1
     try clear hcz33_2
     try clear hcz35_0
     try clear hcz35_1
     try clear hcz35_2
     try clear hcz37_0
     try clear hcz37_1
     try clear hcz37_2
     try clear hcz40_0
     try clear hcz40_1
     try clear hcz40_2
     try clear hfz12_0
     try clear hfz12_1
     try clear hfz12_2
     try clear hfz14_0
     try clear hfz14_1
     try clear hfz14_2
     try clear hfz16_0
     try clear hfz16_1
     try clear hfz16_2
     try clear hfz18_0
     try clear hfz18_1
     try clear hfz18_2
     try clear hfz20_0
     try clear hfz20_1
     try clear hfz20_2
     try clear hfz22_0
     try clear hfz22_1
     try clear hfz22_2
     try clear hfz24_0
     try clear hfz24_1
     try clear hfz24_2
     try clear hfz26_0
     try clear hfz26_1
     try clear hfz26_2
     try clear hfz27_0
     try clear hfz27_1
     try clear hfz27_2
     try clear hfz29_0
     try clear hfz29_1
     try clear hfz29_2
     try clear hfz31_0
     try clear hfz31_1
     try clear hfz31_2
     try clear hfz33_0
     try clear hfz33_1
     try clear hfz33_2
     try clear hfz35_0
     try clear hfz35_1
     try clear hfz35_2
     try clear hfz37_0
     try clear hfz37_1
     try clear hfz37_2
     try clear hfz40_0
     try clear hfz40_1
     try clear hfz40_2
     try clear p2
     obtain ⟨x36_2,rfl,HA,HK2,BK643,HB⟩:=hrel
     cases gk with
     |zero=>exact absurd HA.out (by simp [signal_Valid.l0])
     |succ k2=>
      have H:=HA.out
      clear HA
      simp only [signal_Valid.l0] at H
      by_cases c41:x36_2 < (l0_1.length:Int)
      ·rw [if_pos c41] at H
       have c41b0:decide (x36_2 < (l0_1.length:Int))=true:=decide_eq_true c41
       clear c41
       by_cases c42:0≤x36_2
       ·rw [if_pos c42] at H
        have c42b0:decide (0≤x36_2)=true:=decide_eq_true c42
        clear c42
        by_cases c43:x36_2 < (l0_1.length:Int)
        ·rw [if_pos c43] at H
         have c43b0:decide (x36_2 < (l0_1.length:Int))=true:=decide_eq_true c43
         clear c43
         replace H:=Option.bind_eq_some_iff.mp H
         obtain ⟨t650,A440,H⟩:=H
         replace H:(if t650=true then (some 1) else (signal_Valid.l0 k2 l0_1 (l0_1.length:Int) (wrap64 (x36_2 + 1)) l0_0 l0_1 l0_2))=some r:=H
         have A44:=Zk A440
         clear A440
         by_cases c45:t650=true
         ·subst c45
          have H1:(some 1)=some r:=by rw [if_pos rfl] at H;exact H
          clear H
          have H:=H1
          clear H1
          obtain rfl:=Option.some.inj H
          have p649:0≤(x36_2:Int):=of_decide_eq_true (by first|(with_reducible assumption)|assumption)
          have q649:x36_2 < (l0_1.length:Int):=of_decide_eq_true (by first|(with_reducible assumption)|assumption)
          obtain ⟨ad649,e649,hx649_0⟩:=Kd.at_int HR0_1.out x36_2 p649 q649
          cases e649
          replace hx649_0:=(HB.out.cell (World.block_lt_of_cell? w _ hx649_0)).trans hx649_0
          replace p649:=eq_true p649
          replace q649:=eq_true q649
          have hcz46_0:wr.cell? ⟨gb643,0,none⟩=some (.slice A0_0 l0_0.length c0_0):=(zJ BK643.out 0).trans rfl
          have hcz46_1:wr.cell? ⟨gb643,1,none⟩=some (.slice (some ad649) l0_1.length c0_1):=(zJ BK643.out 1).trans rfl
          have hcz46_2:wr.cell? ⟨gb643,2,none⟩=some (.slice A0_2 l0_2.length c0_2):=(zJ BK643.out 2).trans rfl
          have hfz46_0:=zI BK643.out 0
          have hfz46_1:=zI BK643.out 1
          have hfz46_2:=zI BK643.out 2
          go_wp2_with (first|((with_reducible refine yD (f:=38) rfl ?_);refine yM (some 43) rfl rfl Tryd.func38 (by kernel_rfl) rfl #[.slice A0_2 l0_2.length c0_2,.int .i64 (rd l0_1 x36_2)] rfl (by (try simp only [List.map_toArray,List.map_cons,List.map_nil]);first|done|rfl|(simp only [List.length_drop,List.length_take];rfl)) ?_;(with_reducible refine (slices_Contains_int_int.calls k2 _ _ l0_2 (rd l0_1 x36_2) true _ ?side1 ?side2 A44.out).mono ?_);(case side1=>repeat (first|exact (yS HR0_2.out HB.out)|(with_reducible refine yG ?_ _)|(with_reducible refine yF ?_ _)|(with_reducible refine yI ?_)));(case side2=>exact HC0_2.out);rintro e w' ⟨rfl,⟨nd,rfl⟩⟩;refine ⟨_,rfl,?_⟩))
          go_ret
          exact ⟨by first|rfl|(simp [errW_none,errW_some] <;> rfl)|(simp [*,errW_none,errW_some] <;> rfl),by repeat (first|(with_reducible first|exact HB.out|apply zG|apply zD|apply zH|refine zC ?_ GE643.out)|exact HB.out)⟩
         ·replace c45:=Bool.eq_false_iff.mpr c45
          subst c45
          have H1:(signal_Valid.l0 k2 l0_1 (l0_1.length:Int) (wrap64 (x36_2 + 1)) l0_0 l0_1 l0_2)=some r:=by rw [if_neg (show ¬ (false=true) by decide)] at H;exact H
          clear H
          have H:=H1
          clear H1
          have H':=Zk H
          clear H
          have p649:0≤(x36_2:Int):=of_decide_eq_true (by first|(with_reducible assumption)|assumption)
          have q649:x36_2 < (l0_1.length:Int):=of_decide_eq_true (by first|(with_reducible assumption)|assumption)
          obtain ⟨ad649,e649,hx649_0⟩:=Kd.at_int HR0_1.out x36_2 p649 q649
          cases e649
          replace hx649_0:=(HB.out.cell (World.block_lt_of_cell? w _ hx649_0)).trans hx649_0
          replace p649:=eq_true p649
          replace q649:=eq_true q649
          have hcz47_0:wr.cell? ⟨gb643,0,none⟩=some (.slice A0_0 l0_0.length c0_0):=(zJ BK643.out 0).trans rfl
          have hcz47_1:wr.cell? ⟨gb643,1,none⟩=some (.slice (some ad649) l0_1.length c0_1):=(zJ BK643.out 1).trans rfl
          have hcz47_2:wr.cell? ⟨gb643,2,none⟩=some (.slice A0_2 l0_2.length c0_2):=(zJ BK643.out 2).trans rfl
          have hfz47_0:=zI BK643.out 0
          have hfz47_1:=zI BK643.out 1
          have hfz47_2:=zI BK643.out 2
          go_wp2_with (first|((with_reducible refine yD (f:=38) rfl ?_);refine yM (some 43) rfl rfl Tryd.func38 (by kernel_rfl) rfl #[.slice A0_2 l0_2.length c0_2,.int .i64 (rd l0_1 x36_2)] rfl (by (try simp only [List.map_toArray,List.map_cons,List.map_nil]);first|done|rfl|(simp only [List.length_drop,List.length_take];rfl)) ?_;(with_reducible refine (slices_Contains_int_int.calls k2 _ _ l0_2 (rd l0_1 x36_2) false _ ?side1 ?side2 A44.out).mono ?_);(case side1=>repeat (first|exact (yS HR0_2.out HB.out)|(with_reducible refine yG ?_ _)|(with_reducible refine yF ?_ _)|(with_reducible refine yI ?_)));(case side2=>exact HC0_2.out);rintro e w' ⟨rfl,⟨nd,rfl⟩⟩;refine ⟨_,rfl,?_⟩))
          go_roundg k2
          case measure=>have:=HJ1.out;have:=HK2.out;omega
          case rel=>exact ⟨(wrap64 (x36_2 + 1)),(by first|rfl|(simp;done)|(simp [*];done)|(generalize ByteArray.toList _=l_;cases l_ <;> rfl)),H',⟨by have:=HJ1.out;have:=HK2.out;omega⟩,⟨by (with_reducible repeat (first|refine zB ?_ _|refine zF ?_|refine zA ?_ _));exact BK643.out⟩,⟨by repeat (first|(with_reducible first|exact HB.out|apply zG|apply zD|apply zH|refine zC ?_ GE643.out)|exact HB.out)⟩⟩
        ·rw [if_neg c43] at H
         exact absurd H (by simp)
       ·rw [if_neg c42] at H
        exact absurd H (by simp)
      ·rw [if_neg c41] at H
       have c41b0:decide (x36_2 < (l0_1.length:Int))=false:=decide_eq_false c41
       clear c41
       have H':=Zk H
       clear H
       have hcz48_0:wr.cell? ⟨gb643,0,none⟩=some (.slice A0_0 l0_0.length c0_0):=(zJ BK643.out 0).trans rfl
       have hcz48_1:wr.cell? ⟨gb643,1,none⟩=some (.slice A0_1 l0_1.length c0_1):=(zJ BK643.out 1).trans rfl
       have hcz48_2:wr.cell? ⟨gb643,2,none⟩=some (.slice A0_2 l0_2.length c0_2):=(zJ BK643.out 2).trans rfl
       have hfz48_0:=zI BK643.out 0
       have hfz48_1:=zI BK643.out 1
       have hfz48_2:=zI BK643.out 2
       go_wp2
       go_loopg [48] k2 (fun kq v48 w'=>∃ (x48_3:Int),v48=.int .i64 x48_3∧zN (signal_Valid.l1 kq l0_0 (l0_0.length:Int) x48_3 l0_0 l0_1 l0_2=some r)∧zN (kq≤k2)∧zN (w'.heap[gb643]?=some (.cells #[(.slice A0_0 l0_0.length c0_0),(.slice A0_1 l0_1.length c0_1),(.slice A0_2 l0_2.length c0_2)] 30 (0,0)))∧zN (Below w.heap.size w w'))
       case atStart=>exact ⟨(0),(by first|rfl|(simp;done)|(simp [*];done)|(generalize ByteArray.toList _=l_;cases l_ <;> rfl)),H',⟨Nat.le_refl _⟩,⟨by (with_reducible repeat (first|refine zB ?_ _|refine zF ?_|refine zA ?_ _));exact BK643.out⟩,⟨by repeat (first|(with_reducible first|exact HB.out|apply zG|apply zD|apply zH|refine zC ?_ GE643.out)|exact HB.out)⟩⟩
       case round=>
        clear H'
        try clear c1
        try clear p2
        try clear c3
        try clear c4
        try clear c5
        try clear p6
        try clear q6
        try clear hx6
        try clear c7
        try clear c9
        try clear c11
        try clear c31
        try clear c38
        try clear c39
        try clear c41
        try clear c41b0
        try clear c42
        try clear c42b0
        try clear c43
        try clear c43b0
        try clear c45
        try clear hcz12_0
        try clear hcz12_1
        try clear hcz12_2
        try clear hcz14_0
        try clear hcz14_1
        try clear hcz14_2
        try clear hcz16_0
        try clear hcz16_1
        try clear hcz16_2
        try clear hcz18_0
        try clear hcz18_1
        try clear hcz18_2
        try clear hcz20_0
        try clear hcz20_1
        try clear hcz20_2
        try clear hcz22_0
        try clear hcz22_1
        try clear hcz22_2
        try clear hcz24_0
        try clear hcz24_1
        try clear hcz24_2
        try clear hcz26_0
        try clear hcz26_1
        try clear hcz26_2
        try clear hcz27_0
        try clear hcz27_1
        try clear hcz27_2
        try clear hcz29_0
        try clear hcz29_1
        try clear hcz29_2
        try clear hcz31_0
        try clear hcz31_1
        try clear hcz31_2
        try clear hcz33_0
        try clear hcz33_1
        try clear hcz33_2
        try clear hcz35_0
        try clear hcz35_1
        try clear hcz35_2
        try clear hcz37_0
        try clear hcz37_1
        try clear hcz37_2
        try clear hcz40_0
        try clear hcz40_1
        try clear hcz40_2
        try clear hcz46_0
        try clear hcz46_1
        try clear hcz46_2
        try clear hcz47_0
        try clear hcz47_1
        try clear hcz47_2
        try clear hcz48_0
        try clear hcz48_1
        try clear hcz48_2
        try clear hfz12_0
        try clear hfz12_1
        try clear hfz12_2
        try clear hfz14_0
        try clear hfz14_1
        try clear hfz14_2
        try clear hfz16_0
        try clear hfz16_1
        try clear hfz16_2
        try clear hfz18_0
        try clear hfz18_1
        try clear hfz18_2
        try clear hfz20_0
        try clear hfz20_1
        try clear hfz20_2
        try clear hfz22_0
        try clear hfz22_1
        try clear hfz22_2
        try clear hfz24_0
        try clear hfz24_1
        try clear hfz24_2
        try clear hfz26_0
        try clear hfz26_1
        try clear hfz26_2
        try clear hfz27_0
        try clear hfz27_1
        try clear hfz27_2
        try clear hfz29_0
        try clear hfz29_1
        try clear hfz29_2
        try clear hfz31_0
        try clear hfz31_1
        try clear hfz31_2
        try clear hfz33_0
        try clear hfz33_1
        try clear hfz33_2
        try clear hfz35_0
        try clear hfz35_1
        try clear hfz35_2
        try clear hfz37_0
        try clear hfz37_1
        try clear hfz37_2
        try clear hfz40_0
        try clear hfz40_1
        try clear hfz40_2
        try clear hfz46_0
        try clear hfz46_1
        try clear hfz46_2
        try clear hfz47_0
        try clear hfz47_1
        try clear hfz47_2
        try clear hfz48_0
        try clear hfz48_1
        try clear hfz48_2
        try clear hx649_0
        try clear p2
        try clear p649
        try clear q649
        obtain ⟨x48_3,rfl,HA,HK3,BK643,HB⟩:=hrel
        cases gk with
        |zero=>exact absurd HA.out (by simp [signal_Valid.l1])
        |succ k3=>
         have H:=HA.out
         clear HA
         simp only [signal_Valid.l1] at H
         by_cases c49:x48_3 < (l0_0.length:Int)
         ·rw [if_pos c49] at H
          have c49b0:decide (x48_3 < (l0_0.length:Int))=true:=decide_eq_true c49
          clear c49
          by_cases c50:0≤x48_3
          ·rw [if_pos c50] at H
           have c50b0:decide (0≤x48_3)=true:=decide_eq_true c50
           clear c50
           by_cases c51:x48_3 < (l0_0.length:Int)
           ·rw [if_pos c51] at H
            have c51b0:decide (x48_3 < (l0_0.length:Int))=true:=decide_eq_true c51
            clear c51
            by_cases c52:(rd l0_0 x48_3)=18
            ·rw [if_pos c52] at H
             have c52b0:((rd l0_0 x48_3) == 18)=true:=beq_iff_eq.mpr c52
             have c52b1:((rd l0_0 x48_3) != 18)=false:=bne_eq_false_iff_eq.mpr c52
             clear c52
             have H':=Zk H
             clear H
             have p651:0≤(x48_3:Int):=of_decide_eq_true (by first|(with_reducible assumption)|assumption)
             have q651:x48_3 < (l0_0.length:Int):=of_decide_eq_true (by first|(with_reducible assumption)|assumption)
             obtain ⟨ad651,e651,hx651_0⟩:=Kd.at_int HR0_0.out x48_3 p651 q651
             cases e651
             replace hx651_0:=(HB.out.cell (World.block_lt_of_cell? w _ hx651_0)).trans hx651_0
             replace p651:=eq_true p651
             replace q651:=eq_true q651
             go_wp2
             go_roundg k3
             case measure=>have:=HJ1.out;have:=HK2.out;have:=HK3.out;omega
             case rel=>exact ⟨(wrap64 (x48_3 + 1)),(by first|rfl|(simp;done)|(simp [*];done)|(generalize ByteArray.toList _=l_;cases l_ <;> rfl)),H',⟨by have:=HJ1.out;have:=HK2.out;have:=HK3.out;omega⟩,⟨by (with_reducible repeat (first|refine zB ?_ _|refine zF ?_|refine zA ?_ _));exact BK643.out⟩,⟨by repeat (first|(with_reducible first|exact HB.out|apply zG|apply zD|apply zH|refine zC ?_ GE643.out)|exact HB.out)⟩⟩
            ·rw [if_neg c52] at H
             have c52b0:((rd l0_0 x48_3) == 18)=false:=beq_eq_false_iff_ne.mpr c52
             have c52b1:((rd l0_0 x48_3) != 18)=true:=bne_iff_ne.mpr c52
             replace H:=Option.bind_eq_some_iff.mp H
             obtain ⟨t652,A530,H⟩:=H
             replace H:(if t652=true then (some 25) else (signal_Valid.l1 k3 l0_0 (l0_0.length:Int) (wrap64 (x48_3 + 1)) l0_0 l0_1 l0_2))=some r:=H
             have A53:=Zk A530
             clear A530
             by_cases c54:t652=true
             ·subst c54
              have H1:(some 25)=some r:=by rw [if_pos rfl] at H;exact H
              clear H
              have H:=H1
              clear H1
              obtain rfl:=Option.some.inj H
              have p651:0≤(x48_3:Int):=of_decide_eq_true (by first|(with_reducible assumption)|assumption)
              have q651:x48_3 < (l0_0.length:Int):=of_decide_eq_true (by first|(with_reducible assumption)|assumption)
              obtain ⟨ad651,e651,hx651_0⟩:=Kd.at_int HR0_0.out x48_3 p651 q651
              cases e651
              replace hx651_0:=(HB.out.cell (World.block_lt_of_cell? w _ hx651_0)).trans hx651_0
              replace p651:=eq_true p651
              replace q651:=eq_true q651
              have hcz55_0:wr.cell? ⟨gb643,0,none⟩=some (.slice (some ad651) l0_0.length c0_0):=(zJ BK643.out 0).trans rfl
              have hcz55_1:wr.cell? ⟨gb643,1,none⟩=some (.slice A0_1 l0_1.length c0_1):=(zJ BK643.out 1).trans rfl
              have hcz55_2:wr.cell? ⟨gb643,2,none⟩=some (.slice A0_2 l0_2.length c0_2):=(zJ BK643.out 2).trans rfl
              have hfz55_0:=zI BK643.out 0
              have hfz55_1:=zI BK643.out 1
              have hfz55_2:=zI BK643.out 2
              go_wp2_with (first|(go_at_call 38;(with_reducible refine (slices_Contains_int_int.calls k3 _ _ l0_1 (rd l0_0 x48_3) true _ ?side1 ?side2 A53.out).mono ?_);(case side1=>repeat (first|exact (yS HR0_1.out HB.out)|(with_reducible refine yG ?_ _)|(with_reducible refine yF ?_ _)|(with_reducible refine yI ?_)));(case side2=>exact HC0_1.out);rintro e w' ⟨rfl,⟨nd,rfl⟩⟩))
              go_ret
              exact ⟨by first|rfl|(simp [errW_none,errW_some] <;> rfl)|(simp [*,errW_none,errW_some] <;> rfl),by repeat (first|(with_reducible first|exact HB.out|apply zG|apply zD|apply zH|refine zC ?_ GE643.out)|exact HB.out)⟩
             ·replace c54:=Bool.eq_false_iff.mpr c54
              subst c54
              have H1:(signal_Valid.l1 k3 l0_0 (l0_0.length:Int) (wrap64 (x48_3 + 1)) l0_0 l0_1 l0_2)=some r:=by rw [if_neg (show ¬ (false=true) by decide)] at H;exact H
              clear H
              have H:=H1
              clear H1
              have H':=Zk H
              clear H
              have p651:0≤(x48_3:Int):=of_decide_eq_true (by first|(with_reducible assumption)|assumption)
              have q651:x48_3 < (l0_0.length:Int):=of_decide_eq_true (by first|(with_reducible assumption)|assumption)
              obtain ⟨ad651,e651,hx651_0⟩:=Kd.at_int HR0_0.out x48_3 p651 q651
              cases e651
              replace hx651_0:=(HB.out.cell (World.block_lt_of_cell? w _ hx651_0)).trans hx651_0
              replace p651:=eq_true p651
              replace q651:=eq_true q651
              have hcz56_0:wr.cell? ⟨gb643,0,none⟩=some (.slice (some ad651) l0_0.length c0_0):=(zJ BK643.out 0).trans rfl
              have hcz56_1:wr.cell? ⟨gb643,1,none⟩=some (.slice A0_1 l0_1.length c0_1):=(zJ BK643.out 1).trans rfl
              have hcz56_2:wr.cell? ⟨gb643,2,none⟩=some (.slice A0_2 l0_2.length c0_2):=(zJ BK643.out 2).trans rfl
              have hfz56_0:=zI BK643.out 0
              have hfz56_1:=zI BK643.out 1
              have hfz56_2:=zI BK643.out 2
              go_wp2_with (first|(go_at_call 38;(with_reducible refine (slices_Contains_int_int.calls k3 _ _ l0_1 (rd l0_0 x48_3) false _ ?side1 ?side2 A53.out).mono ?_);(case side1=>repeat (first|exact (yS HR0_1.out HB.out)|(with_reducible refine yG ?_ _)|(with_reducible refine yF ?_ _)|(with_reducible refine yI ?_)));(case side2=>exact HC0_1.out);rintro e w' ⟨rfl,⟨nd,rfl⟩⟩))
              go_roundg k3
              case measure=>have:=HJ1.out;have:=HK2.out;have:=HK3.out;omega
              case rel=>exact ⟨(wrap64 (x48_3 + 1)),(by first|rfl|(simp;done)|(simp [*];done)|(generalize ByteArray.toList _=l_;cases l_ <;> rfl)),H',⟨by have:=HJ1.out;have:=HK2.out;have:=HK3.out;omega⟩,⟨by (with_reducible repeat (first|refine zB ?_ _|refine zF ?_|refine zA ?_ _));exact BK643.out⟩,⟨by repeat (first|(with_reducible first|exact HB.out|apply zG|apply zD|apply zH|refine zC ?_ GE643.out)|exact HB.out)⟩⟩
           ·rw [if_neg c51] at H
            exact absurd H (by simp)
          ·rw [if_neg c50] at H
           exact absurd H (by simp)
         ·rw [if_neg c49] at H
          have c49b0:decide (x48_3 < (l0_0.length:Int))=false:=decide_eq_false c49
          clear c49
          replace H:=Option.bind_eq_some_iff.mp H
          obtain ⟨t653,A570,H⟩:=H
          replace H:(if t653=true then ((slices_ContainsFunc_int_int_stops.f l0_0 0).bind fun t654=>(if t654=true then (some 25) else (some 0))) else (some 0))=some r:=H
          have A57:=Zk A570
          clear A570
          by_cases c58:t653=true
          ·subst c58
           have H1:((slices_ContainsFunc_int_int_stops.f l0_0 0).bind fun t654=>(if t654=true then (some 25) else (some 0)))=some r:=by rw [if_pos rfl] at H;exact H
           clear H
           have H:=H1
           clear H1
           replace H:=Option.bind_eq_some_iff.mp H
           obtain ⟨t654,A590,H⟩:=H
           replace H:(if t654=true then (some 25) else (some 0))=some r:=H
           have A59:=Zk A590
           clear A590
           by_cases c60:t654=true
           ·subst c60
            have H1:(some 25)=some r:=by rw [if_pos rfl] at H;exact H
            clear H
            have H:=H1
            clear H1
            obtain rfl:=Option.some.inj H
            have hcz61_0:wr.cell? ⟨gb643,0,none⟩=some (.slice A0_0 l0_0.length c0_0):=(zJ BK643.out 0).trans rfl
            have hcz61_1:wr.cell? ⟨gb643,1,none⟩=some (.slice A0_1 l0_1.length c0_1):=(zJ BK643.out 1).trans rfl
            have hcz61_2:wr.cell? ⟨gb643,2,none⟩=some (.slice A0_2 l0_2.length c0_2):=(zJ BK643.out 2).trans rfl
            have hfz61_0:=zI BK643.out 0
            have hfz61_1:=zI BK643.out 1
            have hfz61_2:=zI BK643.out 2
            go_wp2_with (first|((with_reducible refine yD (f:=38) rfl ?_);refine yM (some 63) rfl rfl Tryd.func38 (by kernel_rfl) rfl #[.slice A0_0 l0_0.length c0_0,.int .i64 18] rfl (by (try simp only [List.map_toArray,List.map_cons,List.map_nil]);first|done|rfl|(simp only [List.length_drop,List.length_take];rfl)) ?_;(with_reducible refine (slices_Contains_int_int.calls k3 _ _ l0_0 18 true _ ?side1 ?side2 A57.out).mono ?_);(case side1=>repeat (first|exact (yS HR0_0.out HB.out)|(with_reducible refine yG ?_ _)|(with_reducible refine yF ?_ _)|(with_reducible refine yI ?_)));(case side2=>exact HC0_0.out);rintro e w' ⟨rfl,⟨nd,rfl⟩⟩;refine ⟨_,rfl,?_⟩)|(go_at_call 50;(with_reducible refine (slices_ContainsFunc_int_int_stops.calls _ _ l0_0 0 true _ ?side1 ?side2 A59.out).mono ?_);(case side1=>repeat (first|exact (yS HR0_0.out (by repeat (first|(with_reducible first|exact HB.out|apply zG|apply zD|apply zH|refine zC ?_ GE643.out)|exact HB.out)))|(with_reducible refine yG ?_ _)|(with_reducible refine yF ?_ _)|(with_reducible refine yI ?_)));(case side2=>exact HC0_0.out);rintro e w' ⟨rfl,⟨nd,rfl⟩⟩))
            go_ret
            exact ⟨by first|rfl|(simp [errW_none,errW_some] <;> rfl)|(simp [*,errW_none,errW_some] <;> rfl),by repeat (first|(with_reducible first|exact HB.out|apply zG|apply zD|apply zH|refine zC ?_ GE643.out)|exact HB.out)⟩
           ·replace c60:=Bool.eq_false_iff.mpr c60
            subst c60
            have H1:(some 0)=some r:=by rw [if_neg (show ¬ (false=true) by decide)] at H;exact H
            clear H
            have H:=H1
            clear H1
            obtain rfl:=Option.some.inj H
            have hcz62_0:wr.cell? ⟨gb643,0,none⟩=some (.slice A0_0 l0_0.length c0_0):=(zJ BK643.out 0).trans rfl
            have hcz62_1:wr.cell? ⟨gb643,1,none⟩=some (.slice A0_1 l0_1.length c0_1):=(zJ BK643.out 1).trans rfl
            have hcz62_2:wr.cell? ⟨gb643,2,none⟩=some (.slice A0_2 l0_2.length c0_2):=(zJ BK643.out 2).trans rfl
            have hfz62_0:=zI BK643.out 0
            have hfz62_1:=zI BK643.out 1
            have hfz62_2:=zI BK643.out 2
            go_wp2_with (first|((with_reducible refine yD (f:=38) rfl ?_);refine yM (some 63) rfl rfl Tryd.func38 (by kernel_rfl) rfl #[.slice A0_0 l0_0.length c0_0,.int .i64 18] rfl (by (try simp only [List.map_toArray,List.map_cons,List.map_nil]);first|done|rfl|(simp only [List.length_drop,List.length_take];rfl)) ?_;(with_reducible refine (slices_Contains_int_int.calls k3 _ _ l0_0 18 true _ ?side1 ?side2 A57.out).mono ?_);(case side1=>repeat (first|exact (yS HR0_0.out HB.out)|(with_reducible refine yG ?_ _)|(with_reducible refine yF ?_ _)|(with_reducible refine yI ?_)));(case side2=>exact HC0_0.out);rintro e w' ⟨rfl,⟨nd,rfl⟩⟩;refine ⟨_,rfl,?_⟩)|(go_at_call 50;(with_reducible refine (slices_ContainsFunc_int_int_stops.calls _ _ l0_0 0 false _ ?side1 ?side2 A59.out).mono ?_);(case side1=>repeat (first|exact (yS HR0_0.out (by repeat (first|(with_reducible first|exact HB.out|apply zG|apply zD|apply zH|refine zC ?_ GE643.out)|exact HB.out)))|(with_reducible refine yG ?_ _)|(with_reducible refine yF ?_ _)|(with_reducible refine yI ?_)));(case side2=>exact HC0_0.out);rintro e w' ⟨rfl,⟨nd,rfl⟩⟩))
            go_ret
            exact ⟨by first|rfl|(simp [errW_none,errW_some] <;> rfl)|(simp [*,errW_none,errW_some] <;> rfl),by repeat (first|(with_reducible first|exact HB.out|apply zG|apply zD|apply zH|refine zC ?_ GE643.out)|exact HB.out)⟩
          ·replace c58:=Bool.eq_false_iff.mpr c58
           subst c58
           have H1:(some 0)=some r:=by rw [if_neg (show ¬ (false=true) by decide)] at H;exact H
           clear H
           have H:=H1
           clear H1
           obtain rfl:=Option.some.inj H
           have hcz63_0:wr.cell? ⟨gb643,0,none⟩=some (.slice A0_0 l0_0.length c0_0):=(zJ BK643.out 0).trans rfl
           have hcz63_1:wr.cell? ⟨gb643,1,none⟩=some (.slice A0_1 l0_1.length c0_1):=(zJ BK643.out 1).trans rfl
           have hcz63_2:wr.cell? ⟨gb643,2,none⟩=some (.slice A0_2 l0_2.length c0_2):=(zJ BK643.out 2).trans rfl
           have hfz63_0:=zI BK643.out 0
           have hfz63_1:=zI BK643.out 1
           have hfz63_2:=zI BK643.out 2
           go_wp2_with (first|((with_reducible refine yD (f:=38) rfl ?_);refine yM (some 63) rfl rfl Tryd.func38 (by kernel_rfl) rfl #[.slice A0_0 l0_0.length c0_0,.int .i64 18] rfl (by (try simp only [List.map_toArray,List.map_cons,List.map_nil]);first|done|rfl|(simp only [List.length_drop,List.length_take];rfl)) ?_;(with_reducible refine (slices_Contains_int_int.calls k3 _ _ l0_0 18 false _ ?side1 ?side2 A57.out).mono ?_);(case side1=>repeat (first|exact (yS HR0_0.out HB.out)|(with_reducible refine yG ?_ _)|(with_reducible refine yF ?_ _)|(with_reducible refine yI ?_)));(case side2=>exact HC0_0.out);rintro e w' ⟨rfl,⟨nd,rfl⟩⟩;refine ⟨_,rfl,?_⟩))
           go_ret
           exact ⟨by first|rfl|(simp [errW_none,errW_some] <;> rfl)|(simp [*,errW_none,errW_some] <;> rfl),by repeat (first|(with_reducible first|exact HB.out|apply zG|apply zD|apply zH|refine zC ?_ GE643.out)|exact HB.out)⟩
end Go.Proofs.YtnkkdpjipfjdaaaDoor.Q
end
section

namespace Go.Proofs.YtnkkdpjipfjdaaaDoor.Q
open Go.RowKit Go.Proofs.YtnkkdpjipfjdaaaDoorW.PrintWords Go.Proofs.YtnkkdpjipfjdaaaDoorW.PrintLast Go.Proofs.YtnkkdpjipfjdaaaDoorW.PrintMore Go.Proofs.YtnkkdpjipfjdaaaDoorM
open Kd
attribute [local go_sem] max2_int min2_int max_two min_two max_three min_three max_four min_four
set_option linter.unusedVariables false
set_option linter.unusedSimpArgs false
def signal_fixed.f (a0:Int):Option (Bool):=if a0=9 then (some true) else (some (a0 == 19))
set_option maxHeartbeats 8000000 in
set_option maxRecDepth 10000000 in
theorem signal_fixed.calls (a0:Int) (r:Bool) (w:World) (h:signal_fixed.f a0=some r) :
  Calls Tryd.prog 47 #[.int .i64 a0] w fun e w'=>e=.returned (.bool r)∧Drawn0 w w':=by
 have H:(if a0=9 then (some true) else (some (a0 == 19)))=some r:=h
 clear h
 by_cases c2:a0=9
 ·rw [if_pos c2] at H
  have c2b0:(a0 == 9)=true:=beq_iff_eq.mpr c2
  have c2b1:(a0 != 9)=false:=bne_eq_false_iff_eq.mpr c2
  clear c2
  obtain rfl:=Option.some.inj H
  go_enter Tryd.func47,Tryd.ntmps47
  go_wp2
  go_ret
  exact ⟨by first|rfl|(simp;done)|(simp [*];done),by repeat (first|exact Drawn0.refl _|apply Drawn0.step)⟩
 ·rw [if_neg c2] at H
  have c2b0:(a0 == 9)=false:=beq_eq_false_iff_ne.mpr c2
  have c2b1:(a0 != 9)=true:=bne_iff_ne.mpr c2
  obtain rfl:=Option.some.inj H
  go_enter Tryd.func47,Tryd.ntmps47
  go_wp2
  go_ret
  exact ⟨by first|rfl|(simp;done)|(simp [*];done),by repeat (first|exact Drawn0.refl _|apply Drawn0.step)⟩
end Go.Proofs.YtnkkdpjipfjdaaaDoor.Q
end
