/- Own texts of one claim, put one behind the other by wip/tool/pack.py: words beside the print's, what each printed function computes, and the plain laws. -/
import Derived.Test.YtnkkdpjipfjdaaaDoorKSeC
section

namespace Go.Proofs.YtnkkdpjipfjdaaaDoor.Q
open Go.RowKit Go.Proofs.YtnkkdpjipfjdaaaDoorW.PrintWords Go.Proofs.YtnkkdpjipfjdaaaDoorW.PrintLast Go.Proofs.YtnkkdpjipfjdaaaDoorW.PrintMore Go.Proofs.YtnkkdpjipfjdaaaDoorM
open Kd
attribute [local go_sem] max2_int min2_int max_two min_two max_three min_three max_four min_four
set_option linter.unusedVariables false
set_option linter.unusedSimpArgs false
mutual
def jobshellref25_Valid.j0:Nat→Bool→List Int→List Int→List Int→Option (Int)
 |0,_,_,_,_=>none
 |k + 1,x21,x274000,x274001,x274002=>if x21=true then (some 1) else (jobshellref25_Valid.l0 k 1 x274000 x274001 x274002)
def jobshellref25_Valid.l0:Nat→Int→List Int→List Int→List Int→Option (Int)
 |0,_,_,_,_=>none
 |k + 1,x3,x274000,x274001,x274002=>if x3≤20 then (if x3=9 then (jobshellref25_Valid.j2 k x3 true x274000 x274001 x274002) else (jobshellref25_Valid.j2 k x3 (x3 == 19) x274000 x274001 x274002)) else (jobshellref25_Valid.l1 k 1 x274000 x274001 x274002)
def jobshellref25_Valid.j2:Nat→Int→Bool→List Int→List Int→List Int→Option (Int)
 |0,_,_,_,_,_=>none
 |k + 1,x3,x4,x274000,x274001,x274002=>if x4=true then ((jobshellref25_Has.f k x274001 x3).bind fun t277=>(if t277=true then (some 1) else ((jobshellref25_Has.f k x274002 x3).bind fun t278=>(if t278=true then (some 1) else (jobshellref25_Valid.l0 k (wrap64 (x3 + 1)) x274000 x274001 x274002))))) else ((jobshellref25_Has.f k x274001 x3).bind fun t279=>(if t279=true then ((jobshellref25_Has.f k x274002 x3).bind fun t280=>(if t280=true then (some 1) else (jobshellref25_Valid.l0 k (wrap64 (x3 + 1)) x274000 x274001 x274002))) else (jobshellref25_Valid.l0 k (wrap64 (x3 + 1)) x274000 x274001 x274002)))
def jobshellref25_Valid.l1:Nat→Int→List Int→List Int→List Int→Option (Int)
 |0,_,_,_,_=>none
 |k + 1,x5,x274000,x274001,x274002=>if x5≤20 then (if x5=18 then (jobshellref25_Valid.j4 k x5 false x274000 x274001 x274002) else ((jobshellref25_Has.f k x274000 x5).bind fun t281=>(if t281=true then ((jobshellref25_Has.f k x274001 x5).bind fun t282=>(jobshellref25_Valid.j4 k x5 t282 x274000 x274001 x274002)) else (jobshellref25_Valid.j4 k x5 false x274000 x274001 x274002)))) else (some 0)
def jobshellref25_Valid.j4:Nat→Int→Bool→List Int→List Int→List Int→Option (Int)
 |0,_,_,_,_,_=>none
 |k + 1,x5,x74,x274000,x274001,x274002=>if x74=true then (some 25) else ((jobshellref25_stops.f x5).bind fun t283=>(if t283=true then ((jobshellref25_Has.f k x274000 x5).bind fun t284=>(if t284=true then ((jobshellref25_Has.f k x274000 18).bind fun t285=>(if t285=true then (some 25) else (jobshellref25_Valid.l1 k (wrap64 (x5 + 1)) x274000 x274001 x274002))) else (jobshellref25_Valid.l1 k (wrap64 (x5 + 1)) x274000 x274001 x274002))) else (jobshellref25_Valid.l1 k (wrap64 (x5 + 1)) x274000 x274001 x274002)))
end
def jobshellref25_Valid.f (k:Nat) (l0_0:List Int) (l0_1:List Int) (l0_2:List Int):Option (Int):=(jobshellref25_list.f k l0_0).bind fun t274=>(if t274=true then ((jobshellref25_list.f k l0_1).bind fun t275=>(if t275=true then ((jobshellref25_list.f k l0_2).bind fun t276=>(jobshellref25_Valid.j0 k (!t276) l0_0 l0_1 l0_2)) else (jobshellref25_Valid.j0 k true l0_0 l0_1 l0_2))) else (jobshellref25_Valid.j0 k true l0_0 l0_1 l0_2))
theorem jobshellref25_Valid.mono_l:∀ k,(∀ y0 y1 y2 y3,LeO (jobshellref25_Valid.j0 k y0 y1 y2 y3) (jobshellref25_Valid.j0 (k + 1) y0 y1 y2 y3))∧(∀ y0 y1 y2 y3,LeO (jobshellref25_Valid.l0 k y0 y1 y2 y3) (jobshellref25_Valid.l0 (k + 1) y0 y1 y2 y3))∧(∀ y0 y1 y2 y3 y4,LeO (jobshellref25_Valid.j2 k y0 y1 y2 y3 y4) (jobshellref25_Valid.j2 (k + 1) y0 y1 y2 y3 y4))∧(∀ y0 y1 y2 y3,LeO (jobshellref25_Valid.l1 k y0 y1 y2 y3) (jobshellref25_Valid.l1 (k + 1) y0 y1 y2 y3))∧(∀ y0 y1 y2 y3 y4,LeO (jobshellref25_Valid.j4 k y0 y1 y2 y3 y4) (jobshellref25_Valid.j4 (k + 1) y0 y1 y2 y3 y4))
 |0=>⟨fun _ _ _ _ r h=>by simp [jobshellref25_Valid.j0] at h,fun _ _ _ _ r h=>by simp [jobshellref25_Valid.l0] at h,fun _ _ _ _ _ r h=>by simp [jobshellref25_Valid.j2] at h,fun _ _ _ _ r h=>by simp [jobshellref25_Valid.l1] at h,fun _ _ _ _ _ r h=>by simp [jobshellref25_Valid.j4] at h⟩
 |k + 1=>by
  obtain ⟨ih0,ih1,ih2,ih3,ih4⟩:=jobshellref25_Valid.mono_l k
  refine ⟨?_,?_,?_,?_,?_⟩
  ·intro y0 y1 y2 y3
   unfold jobshellref25_Valid.j0
   repeat' first
   |(with_reducible exact ih0 _ _ _ _)
   |(with_reducible exact ih1 _ _ _ _)
   |(with_reducible exact ih2 _ _ _ _ _)
   |(with_reducible exact ih3 _ _ _ _)
   |(with_reducible exact ih4 _ _ _ _ _)
   |(with_reducible exact jobshellref25_Has.mono _ _ _)
   |(with_reducible exact jobshellref25_list.mono _ _)
   |(with_reducible exact LeO.refl _)
   |(with_reducible exact LeO.none _)
   |(with_reducible refine LeO.ite ?_ ?_)
   |(with_reducible refine LeO.bind ?_ (fun _=>?_))
   |exact ih0 _ _ _ _
   |exact ih1 _ _ _ _
   |exact ih2 _ _ _ _ _
   |exact ih3 _ _ _ _
   |exact ih4 _ _ _ _ _
   |exact jobshellref25_Has.mono _ _ _
   |exact jobshellref25_list.mono _ _
   |exact LeO.none _
   |refine LeO.ite ?_ ?_
   |refine LeO.bind ?_ (fun _=>?_)
  ·intro y0 y1 y2 y3
   unfold jobshellref25_Valid.l0
   repeat' first
   |(with_reducible exact ih0 _ _ _ _)
   |(with_reducible exact ih1 _ _ _ _)
   |(with_reducible exact ih2 _ _ _ _ _)
   |(with_reducible exact ih3 _ _ _ _)
   |(with_reducible exact ih4 _ _ _ _ _)
   |(with_reducible exact jobshellref25_Has.mono _ _ _)
   |(with_reducible exact jobshellref25_list.mono _ _)
   |(with_reducible exact LeO.refl _)
   |(with_reducible exact LeO.none _)
   |(with_reducible refine LeO.ite ?_ ?_)
   |(with_reducible refine LeO.bind ?_ (fun _=>?_))
   |exact ih0 _ _ _ _
   |exact ih1 _ _ _ _
   |exact ih2 _ _ _ _ _
   |exact ih3 _ _ _ _
   |exact ih4 _ _ _ _ _
   |exact jobshellref25_Has.mono _ _ _
   |exact jobshellref25_list.mono _ _
   |exact LeO.none _
   |refine LeO.ite ?_ ?_
   |refine LeO.bind ?_ (fun _=>?_)
  ·intro y0 y1 y2 y3 y4
   unfold jobshellref25_Valid.j2
   repeat' first
   |(with_reducible exact ih0 _ _ _ _)
   |(with_reducible exact ih1 _ _ _ _)
   |(with_reducible exact ih2 _ _ _ _ _)
   |(with_reducible exact ih3 _ _ _ _)
   |(with_reducible exact ih4 _ _ _ _ _)
   |(with_reducible exact jobshellref25_Has.mono _ _ _)
   |(with_reducible exact jobshellref25_list.mono _ _)
   |(with_reducible exact LeO.refl _)
   |(with_reducible exact LeO.none _)
   |(with_reducible refine LeO.ite ?_ ?_)
   |(with_reducible refine LeO.bind ?_ (fun _=>?_))
   |exact ih0 _ _ _ _
   |exact ih1 _ _ _ _
   |exact ih2 _ _ _ _ _
   |exact ih3 _ _ _ _
   |exact ih4 _ _ _ _ _
   |exact jobshellref25_Has.mono _ _ _
   |exact jobshellref25_list.mono _ _
   |exact LeO.none _
   |refine LeO.ite ?_ ?_
   |refine LeO.bind ?_ (fun _=>?_)
  ·intro y0 y1 y2 y3
   unfold jobshellref25_Valid.l1
   repeat' first
   |(with_reducible exact ih0 _ _ _ _)
   |(with_reducible exact ih1 _ _ _ _)
   |(with_reducible exact ih2 _ _ _ _ _)
   |(with_reducible exact ih3 _ _ _ _)
   |(with_reducible exact ih4 _ _ _ _ _)
   |(with_reducible exact jobshellref25_Has.mono _ _ _)
   |(with_reducible exact jobshellref25_list.mono _ _)
   |(with_reducible exact LeO.refl _)
   |(with_reducible exact LeO.none _)
   |(with_reducible refine LeO.ite ?_ ?_)
   |(with_reducible refine LeO.bind ?_ (fun _=>?_))
   |exact ih0 _ _ _ _
   |exact ih1 _ _ _ _
   |exact ih2 _ _ _ _ _
   |exact ih3 _ _ _ _
   |exact ih4 _ _ _ _ _
   |exact jobshellref25_Has.mono _ _ _
   |exact jobshellref25_list.mono _ _
   |exact LeO.none _
   |refine LeO.ite ?_ ?_
   |refine LeO.bind ?_ (fun _=>?_)
  ·intro y0 y1 y2 y3 y4
   unfold jobshellref25_Valid.j4
   repeat' first
   |(with_reducible exact ih0 _ _ _ _)
   |(with_reducible exact ih1 _ _ _ _)
   |(with_reducible exact ih2 _ _ _ _ _)
   |(with_reducible exact ih3 _ _ _ _)
   |(with_reducible exact ih4 _ _ _ _ _)
   |(with_reducible exact jobshellref25_Has.mono _ _ _)
   |(with_reducible exact jobshellref25_list.mono _ _)
   |(with_reducible exact LeO.refl _)
   |(with_reducible exact LeO.none _)
   |(with_reducible refine LeO.ite ?_ ?_)
   |(with_reducible refine LeO.bind ?_ (fun _=>?_))
   |exact ih0 _ _ _ _
   |exact ih1 _ _ _ _
   |exact ih2 _ _ _ _ _
   |exact ih3 _ _ _ _
   |exact ih4 _ _ _ _ _
   |exact jobshellref25_Has.mono _ _ _
   |exact jobshellref25_list.mono _ _
   |exact LeO.none _
   |refine LeO.ite ?_ ?_
   |refine LeO.bind ?_ (fun _=>?_)
theorem jobshellref25_Valid.mono:∀ a0 a1 a2 k,LeO (jobshellref25_Valid.f k a0 a1 a2) (jobshellref25_Valid.f (k + 1) a0 a1 a2):=by
 intro a0 a1 a2 k
 obtain ⟨ih0,ih1,ih2,ih3,ih4⟩:=jobshellref25_Valid.mono_l k
 unfold jobshellref25_Valid.f
 repeat' first
   |(with_reducible exact ih0 _ _ _ _)
   |(with_reducible exact ih1 _ _ _ _)
   |(with_reducible exact ih2 _ _ _ _ _)
   |(with_reducible exact ih3 _ _ _ _)
   |(with_reducible exact ih4 _ _ _ _ _)
   |(with_reducible exact jobshellref25_Has.mono _ _ _)
   |(with_reducible exact jobshellref25_list.mono _ _)
   |(with_reducible exact LeO.refl _)
   |(with_reducible exact LeO.none _)
   |(with_reducible refine LeO.ite ?_ ?_)
   |(with_reducible refine LeO.bind ?_ (fun _=>?_))
   |exact ih0 _ _ _ _
   |exact ih1 _ _ _ _
   |exact ih2 _ _ _ _ _
   |exact ih3 _ _ _ _
   |exact ih4 _ _ _ _ _
   |exact jobshellref25_Has.mono _ _ _
   |exact jobshellref25_list.mono _ _
   |exact LeO.none _
   |refine LeO.ite ?_ ?_
   |refine LeO.bind ?_ (fun _=>?_)
set_option maxHeartbeats 8000000 in
set_option maxRecDepth 10000000 in
theorem jobshellref25_Valid.calls (k:Nat) (A0_0:Option Addr) (c0_0:Nat) (l0_0:List Int) (A0_1:Option Addr) (c0_1:Nat) (l0_1:List Int) (A0_2:Option Addr) (c0_2:Nat) (l0_2:List Int) (r:Int) (w:World) (hr0_0:Kd.C (Kd.int .i64) w A0_0 l0_0.length l0_0) (hc0_0:l0_0.length≤c0_0) (hr0_1:Kd.C (Kd.int .i64) w A0_1 l0_1.length l0_1) (hc0_1:l0_1.length≤c0_1) (hr0_2:Kd.C (Kd.int .i64) w A0_2 l0_2.length l0_2) (hc0_2:l0_2.length≤c0_2) (h:jobshellref25_Valid.f k l0_0 l0_1 l0_2=some r) :
  Calls Tryd.prog 18 #[.agg #[.slice A0_0 l0_0.length c0_0,.slice A0_1 l0_1.length c0_1,.slice A0_2 l0_2.length c0_2]] w fun e w'=>e=.returned (.int .i64 r)∧Below w.heap.size w w':=by
 have hu30:=Tryd.underlying30
 have HR0_0:=Zk hr0_0
 have HC0_0:=Zk hc0_0
 clear hr0_0 hc0_0
 have HR0_1:=Zk hr0_1
 have HC0_1:=Zk hc0_1
 clear hr0_1 hc0_1
 have HR0_2:=Zk hr0_2
 have HC0_2:=Zk hc0_2
 clear hr0_2 hc0_2
 have HB:=Zk (Below.refl w.heap.size w)
 have H:((jobshellref25_list.f k l0_0).bind fun t274=>(if t274=true then ((jobshellref25_list.f k l0_1).bind fun t275=>(if t275=true then ((jobshellref25_list.f k l0_2).bind fun t276=>(jobshellref25_Valid.j0 k (!t276) l0_0 l0_1 l0_2)) else (jobshellref25_Valid.j0 k true l0_0 l0_1 l0_2))) else (jobshellref25_Valid.j0 k true l0_0 l0_1 l0_2)))=some r:=h
 clear h
 have HC2:=Zk H
 clear H
 go_enter Tryd.func18,Tryd.ntmps18
 go_upto_region 1 with (first|((with_reducible refine yX (N:=1) rfl ?_);refine yY ?hg (N:=1) ?hd (cs:=#[.slice A0_0 l0_0.length c0_0,.slice A0_1 l0_1.length c0_1,.slice A0_2 l0_2.length c0_2]) (t:=30) ?hr ?_;(case hd=>rfl);(case hg=>rfl);(case hr=>first|(go_simp;done)|(go_simp;rfl));intro gb273 hg w3 hbox hb;have n0_:=Zk (yB (by repeat (first|(with_reducible first|exact HB.out|apply zG|apply zD|apply zH)|exact HB.out)) hb);have n1_:=Zk (hbox);have n2_:=Zk ((by rw [hg];exact (zT (by repeat (first|(with_reducible first|exact HB.out|apply zG|apply zD|apply zH)|exact HB.out))):w.heap.size≤gb273));have n3_:=Zk ((by rw [hg];exact (zT (by repeat (first|(with_reducible first|exact HB.out|apply zG|apply zD|apply zH)|exact HB.out))):w.heap.size≤gb273));clear HB;have HB:=n0_;have BK273:=n1_;have GW273:=n2_;have GE273:=n3_;clear n0_ n1_ n2_ n3_;clear hb hbox hg))
 (try simp only [Act.put,List.setIfInBounds_toArray,List.set_cons_zero,List.set_cons_succ])
 go_cut [21] (fun v21 wc=>∃ (kq:Nat) (x21_1:Bool),v21=.bool x21_1∧zR (jobshellref25_Valid.j0 kq x21_1 l0_0 l0_1 l0_2=some r)∧zR (kq≤k)∧zR (wc.heap[gb273]?=some (.cells #[(.slice A0_0 l0_0.length c0_0),(.slice A0_1 l0_1.length c0_1),(.slice A0_2 l0_2.length c0_2)] 30 (0,0)))∧zR (Below w.heap.size w wc))
 case first=>
  have H:=HC2.out
  clear HC2
  replace H:=Option.bind_eq_some_iff.mp H
  obtain ⟨t274,A40,H⟩:=H
  replace H:(if t274=true then ((jobshellref25_list.f k l0_1).bind fun t275=>(if t275=true then ((jobshellref25_list.f k l0_2).bind fun t276=>(jobshellref25_Valid.j0 k (!t276) l0_0 l0_1 l0_2)) else (jobshellref25_Valid.j0 k true l0_0 l0_1 l0_2))) else (jobshellref25_Valid.j0 k true l0_0 l0_1 l0_2))=some r:=H
  have A4:=Zk A40
  clear A40
  by_cases c5:t274=true
  ·subst c5
   have H1:((jobshellref25_list.f k l0_1).bind fun t275=>(if t275=true then ((jobshellref25_list.f k l0_2).bind fun t276=>(jobshellref25_Valid.j0 k (!t276) l0_0 l0_1 l0_2)) else (jobshellref25_Valid.j0 k true l0_0 l0_1 l0_2)))=some r:=by rw [if_pos rfl] at H;exact H
   clear H
   have H:=H1
   clear H1
   replace H:=Option.bind_eq_some_iff.mp H
   obtain ⟨t275,A60,H⟩:=H
   replace H:(if t275=true then ((jobshellref25_list.f k l0_2).bind fun t276=>(jobshellref25_Valid.j0 k (!t276) l0_0 l0_1 l0_2)) else (jobshellref25_Valid.j0 k true l0_0 l0_1 l0_2))=some r:=H
   have A6:=Zk A60
   clear A60
   by_cases c7:t275=true
   ·subst c7
    have H1:((jobshellref25_list.f k l0_2).bind fun t276=>(jobshellref25_Valid.j0 k (!t276) l0_0 l0_1 l0_2))=some r:=by rw [if_pos rfl] at H;exact H
    clear H
    have H:=H1
    clear H1
    replace H:=Option.bind_eq_some_iff.mp H
    obtain ⟨t276,A80,H⟩:=H
    replace H:(jobshellref25_Valid.j0 k (!t276) l0_0 l0_1 l0_2)=some r:=H
    have A8:=Zk A80
    clear A80
    have H':=Zk H
    clear H
    have hcz9_0:w3.cell? ⟨gb273,0,none⟩=some (.slice A0_0 l0_0.length c0_0):=(zI BK273.out 0).trans rfl
    have hcz9_1:w3.cell? ⟨gb273,1,none⟩=some (.slice A0_1 l0_1.length c0_1):=(zI BK273.out 1).trans rfl
    have hcz9_2:w3.cell? ⟨gb273,2,none⟩=some (.slice A0_2 l0_2.length c0_2):=(zI BK273.out 2).trans rfl
    have hfz9_0:=zJ BK273.out 0
    have hfz9_1:=zJ BK273.out 1
    have hfz9_2:=zJ BK273.out 2
    go_wp2_with (first|((with_reducible refine yE (f:=36) rfl ?_);refine yN (some 8) rfl rfl Tryd.func36 (by kernel_rfl) rfl #[.slice A0_0 l0_0.length c0_0] rfl (by (try simp only [List.map_toArray,List.map_cons,List.map_nil]);first|done|rfl|(simp only [List.length_drop,List.length_take];rfl)) ?_;(with_reducible refine (jobshellref25_list.calls k _ _ l0_0 true _ ?side1 ?side2 A4.out).mono ?_);(case side1=>repeat (first|exact (yT HR0_0.out HB.out)|(with_reducible refine yG ?_ _)|(with_reducible refine yF ?_ _)|(with_reducible refine yK ?_)));(case side2=>exact HC0_0.out);rintro e w' ⟨rfl,⟨nd,rfl⟩⟩;refine ⟨_,rfl,?_⟩)|(go_at_call 36;(with_reducible refine (jobshellref25_list.calls k _ _ l0_1 true _ ?side1 ?side2 A6.out).mono ?_);(case side1=>repeat (first|exact (yT HR0_1.out (by repeat (first|(with_reducible first|exact HB.out|apply zG|apply zD|apply zH|refine zA ?_ GE273.out)|exact HB.out)))|(with_reducible refine yG ?_ _)|(with_reducible refine yF ?_ _)|(with_reducible refine yK ?_)));(case side2=>exact HC0_1.out);rintro e w' ⟨rfl,⟨nd,rfl⟩⟩)|(go_at_call 36;(with_reducible refine (jobshellref25_list.calls k _ _ l0_2 t276 _ ?side1 ?side2 A8.out).mono ?_);(case side1=>repeat (first|exact (yT HR0_2.out (by repeat (first|(with_reducible first|exact HB.out|apply zG|apply zD|apply zH|refine zA ?_ GE273.out)|exact HB.out)))|(with_reducible refine yG ?_ _)|(with_reducible refine yF ?_ _)|(with_reducible refine yK ?_)));(case side2=>exact HC0_2.out);rintro e w' ⟨rfl,⟨nd,rfl⟩⟩))
    go_meet
    case rel=>exact ⟨_,(!t276),(by first|rfl|(simp;done)|(simp [*];done)|(generalize ByteArray.toList _=l_;cases l_ <;> rfl)),H',⟨by first|omega|exact Nat.le_refl _⟩,⟨by (with_reducible repeat (first|refine zC ?_ _|refine zF ?_|refine zB ?_ _));exact BK273.out⟩,⟨by repeat (first|(with_reducible first|exact HB.out|apply zG|apply zD|apply zH|refine zA ?_ GE273.out)|exact HB.out)⟩⟩
   ·replace c7:=Bool.eq_false_iff.mpr c7
    subst c7
    have H1:(jobshellref25_Valid.j0 k true l0_0 l0_1 l0_2)=some r:=by rw [if_neg (show ¬ (false=true) by decide)] at H;exact H
    clear H
    have H:=H1
    clear H1
    have H':=Zk H
    clear H
    have hcz10_0:w3.cell? ⟨gb273,0,none⟩=some (.slice A0_0 l0_0.length c0_0):=(zI BK273.out 0).trans rfl
    have hcz10_1:w3.cell? ⟨gb273,1,none⟩=some (.slice A0_1 l0_1.length c0_1):=(zI BK273.out 1).trans rfl
    have hcz10_2:w3.cell? ⟨gb273,2,none⟩=some (.slice A0_2 l0_2.length c0_2):=(zI BK273.out 2).trans rfl
    have hfz10_0:=zJ BK273.out 0
    have hfz10_1:=zJ BK273.out 1
    have hfz10_2:=zJ BK273.out 2
    go_wp2_with (first|((with_reducible refine yE (f:=36) rfl ?_);refine yN (some 8) rfl rfl Tryd.func36 (by kernel_rfl) rfl #[.slice A0_0 l0_0.length c0_0] rfl (by (try simp only [List.map_toArray,List.map_cons,List.map_nil]);first|done|rfl|(simp only [List.length_drop,List.length_take];rfl)) ?_;(with_reducible refine (jobshellref25_list.calls k _ _ l0_0 true _ ?side1 ?side2 A4.out).mono ?_);(case side1=>repeat (first|exact (yT HR0_0.out HB.out)|(with_reducible refine yG ?_ _)|(with_reducible refine yF ?_ _)|(with_reducible refine yK ?_)));(case side2=>exact HC0_0.out);rintro e w' ⟨rfl,⟨nd,rfl⟩⟩;refine ⟨_,rfl,?_⟩)|(go_at_call 36;(with_reducible refine (jobshellref25_list.calls k _ _ l0_1 false _ ?side1 ?side2 A6.out).mono ?_);(case side1=>repeat (first|exact (yT HR0_1.out (by repeat (first|(with_reducible first|exact HB.out|apply zG|apply zD|apply zH|refine zA ?_ GE273.out)|exact HB.out)))|(with_reducible refine yG ?_ _)|(with_reducible refine yF ?_ _)|(with_reducible refine yK ?_)));(case side2=>exact HC0_1.out);rintro e w' ⟨rfl,⟨nd,rfl⟩⟩))
    go_meet
    case rel=>exact ⟨_,(true),(by first|rfl|(simp;done)|(simp [*];done)|(generalize ByteArray.toList _=l_;cases l_ <;> rfl)),H',⟨by first|omega|exact Nat.le_refl _⟩,⟨by (with_reducible repeat (first|refine zC ?_ _|refine zF ?_|refine zB ?_ _));exact BK273.out⟩,⟨by repeat (first|(with_reducible first|exact HB.out|apply zG|apply zD|apply zH|refine zA ?_ GE273.out)|exact HB.out)⟩⟩
  ·replace c5:=Bool.eq_false_iff.mpr c5
   subst c5
   have H1:(jobshellref25_Valid.j0 k true l0_0 l0_1 l0_2)=some r:=by rw [if_neg (show ¬ (false=true) by decide)] at H;exact H
   clear H
   have H:=H1
   clear H1
   have H':=Zk H
   clear H
   have hcz11_0:w3.cell? ⟨gb273,0,none⟩=some (.slice A0_0 l0_0.length c0_0):=(zI BK273.out 0).trans rfl
   have hcz11_1:w3.cell? ⟨gb273,1,none⟩=some (.slice A0_1 l0_1.length c0_1):=(zI BK273.out 1).trans rfl
   have hcz11_2:w3.cell? ⟨gb273,2,none⟩=some (.slice A0_2 l0_2.length c0_2):=(zI BK273.out 2).trans rfl
   have hfz11_0:=zJ BK273.out 0
   have hfz11_1:=zJ BK273.out 1
   have hfz11_2:=zJ BK273.out 2
   go_wp2_with (first|((with_reducible refine yE (f:=36) rfl ?_);refine yN (some 8) rfl rfl Tryd.func36 (by kernel_rfl) rfl #[.slice A0_0 l0_0.length c0_0] rfl (by (try simp only [List.map_toArray,List.map_cons,List.map_nil]);first|done|rfl|(simp only [List.length_drop,List.length_take];rfl)) ?_;(with_reducible refine (jobshellref25_list.calls k _ _ l0_0 false _ ?side1 ?side2 A4.out).mono ?_);(case side1=>repeat (first|exact (yT HR0_0.out HB.out)|(with_reducible refine yG ?_ _)|(with_reducible refine yF ?_ _)|(with_reducible refine yK ?_)));(case side2=>exact HC0_0.out);rintro e w' ⟨rfl,⟨nd,rfl⟩⟩;refine ⟨_,rfl,?_⟩))
   go_meet
   case rel=>exact ⟨_,(true),(by first|rfl|(simp;done)|(simp [*];done)|(generalize ByteArray.toList _=l_;cases l_ <;> rfl)),H',⟨by first|omega|exact Nat.le_refl _⟩,⟨by (with_reducible repeat (first|refine zC ?_ _|refine zF ?_|refine zB ?_ _));exact BK273.out⟩,⟨by repeat (first|(with_reducible first|exact HB.out|apply zG|apply zD|apply zH|refine zA ?_ GE273.out)|exact HB.out)⟩⟩
 case rest=>
  clear HC2
  try clear c1
  try clear p2
  try clear c3
  try clear c5
  try clear c7
  try clear hcz10_0
  try clear hcz10_1
  try clear hcz10_2
  try clear hcz11_0
  try clear hcz11_1
  try clear hcz11_2
  try clear hcz9_0
  try clear hcz9_1
  try clear hcz9_2
  try clear hfz10_0
  try clear hfz10_1
  try clear hfz10_2
  try clear hfz11_0
  try clear hfz11_1
  try clear hfz11_2
  try clear hfz9_0
  try clear hfz9_1
  try clear hfz9_2
  obtain ⟨kq,x21_1,rfl,HA,HJ1,BK273,HB⟩:=hcut
  cases kq with
  |zero=>exact absurd HA.out (by simp [jobshellref25_Valid.j0])
  |succ kj1=>
   have H:=HA.out
   clear HA
   simp only [jobshellref25_Valid.j0] at H
   by_cases c12:x21_1=true
   ·subst c12
    have H1:(some 1)=some r:=by rw [if_pos rfl] at H;exact H
    clear H
    have H:=H1
    clear H1
    obtain rfl:=Option.some.inj H
    go_wp2
    go_ret
    exact ⟨by first|rfl|(simp [errW_none,errW_some] <;> rfl)|(simp [*,errW_none,errW_some] <;> rfl),by repeat (first|(with_reducible first|exact HB.out|apply zG|apply zD|apply zH|refine zA ?_ GE273.out)|exact HB.out)⟩
   ·replace c12:=Bool.eq_false_iff.mpr c12
    subst c12
    have H1:(jobshellref25_Valid.l0 kj1 1 l0_0 l0_1 l0_2)=some r:=by rw [if_neg (show ¬ (false=true) by decide)] at H;exact H
    clear H
    have H:=H1
    clear H1
    have H':=Zk H
    clear H
    go_wp2
    go_loopg [3] kj1 (fun kq v3 w'=>∃ (x3_2:Int),v3=.int .i64 x3_2∧zR (jobshellref25_Valid.l0 kq x3_2 l0_0 l0_1 l0_2=some r)∧zR (kq≤kj1)∧zR (w'.heap[gb273]?=some (.cells #[(.slice A0_0 l0_0.length c0_0),(.slice A0_1 l0_1.length c0_1),(.slice A0_2 l0_2.length c0_2)] 30 (0,0)))∧zR (Below w.heap.size w w'))
    case atStart=>exact ⟨(1),(by first|rfl|(simp;done)|(simp [*];done)|(generalize ByteArray.toList _=l_;cases l_ <;> rfl)),H',⟨Nat.le_refl _⟩,⟨by (with_reducible repeat (first|refine zC ?_ _|refine zF ?_|refine zB ?_ _));exact BK273.out⟩,⟨by repeat (first|(with_reducible first|exact HB.out|apply zG|apply zD|apply zH|refine zA ?_ GE273.out)|exact HB.out)⟩⟩
    case round=>
     clear H'
     try clear c1
     try clear p2
     try clear c3
     try clear c5
     try clear c7
     try clear c12
     try clear hcz10_0
     try clear hcz10_1
     try clear hcz10_2
     try clear hcz11_0
     try clear hcz11_1
     try clear hcz11_2
     try clear hcz9_0
     try clear hcz9_1
     try clear hcz9_2
     try clear hfz10_0
     try clear hfz10_1
     try clear hfz10_2
     try clear hfz11_0
     try clear hfz11_1
     try clear hfz11_2
     try clear hfz9_0
     try clear hfz9_1
     try clear hfz9_2
     try clear p2
     obtain ⟨x3_2,rfl,HA,HK2,BK273,HB⟩:=hrel
     cases gk with
     |zero=>exact absurd HA.out (by simp [jobshellref25_Valid.l0])
     |succ k2=>
      have H:=HA.out
      clear HA
      simp only [jobshellref25_Valid.l0] at H
      by_cases c13:x3_2≤20
      ·rw [if_pos c13] at H
       have c13b0:decide (x3_2≤20)=true:=decide_eq_true c13
       clear c13
       have HC14:=Zk H
       clear H
       go_upto_region 6 with (fail)
       go_cut [4] (fun v4 wc=>∃ (kq:Nat) (x4_13:Bool),v4=.bool x4_13∧zR (jobshellref25_Valid.j2 kq x3_2 x4_13 l0_0 l0_1 l0_2=some r)∧zR (kq≤k2)∧zR (wc.heap[gb273]?=some (.cells #[(.slice A0_0 l0_0.length c0_0),(.slice A0_1 l0_1.length c0_1),(.slice A0_2 l0_2.length c0_2)] 30 (0,0)))∧zR (Below w.heap.size w wc))
       case first=>
        have H:=HC14.out
        clear HC14
        by_cases c15:x3_2=9
        ·rw [if_pos c15] at H
         have c15b0:(x3_2 == 9)=true:=beq_iff_eq.mpr c15
         have c15b1:(x3_2 != 9)=false:=bne_eq_false_iff_eq.mpr c15
         clear c15
         (first|rw [c15b0]|(simp only [yS,yU];rw [c15b0])|skip)
         have H':=Zk H
         clear H
         go_wp2
         go_meet
         case rel=>exact ⟨_,(true),(by first|rfl|(simp;done)|(simp [*];done)|(generalize ByteArray.toList _=l_;cases l_ <;> rfl)),H',⟨by have:=HJ1.out;have:=HK2.out;first|omega|exact Nat.le_refl _⟩,⟨by (with_reducible repeat (first|refine zC ?_ _|refine zF ?_|refine zB ?_ _));exact BK273.out⟩,⟨by repeat (first|(with_reducible first|exact HB.out|apply zG|apply zD|apply zH|refine zA ?_ GE273.out)|exact HB.out)⟩⟩
        ·rw [if_neg c15] at H
         have c15b0:(x3_2 == 9)=false:=beq_eq_false_iff_ne.mpr c15
         have c15b1:(x3_2 != 9)=true:=bne_iff_ne.mpr c15
         (first|rw [c15b0]|(simp only [yS,yU];rw [c15b0])|skip)
         have H':=Zk H
         clear H
         go_wp2
         go_meet
         case rel=>exact ⟨_,((x3_2 == 19)),(by first|rfl|(simp;done)|(simp [*];done)|(generalize ByteArray.toList _=l_;cases l_ <;> rfl)),H',⟨by have:=HJ1.out;have:=HK2.out;first|omega|exact Nat.le_refl _⟩,⟨by (with_reducible repeat (first|refine zC ?_ _|refine zF ?_|refine zB ?_ _));exact BK273.out⟩,⟨by repeat (first|(with_reducible first|exact HB.out|apply zG|apply zD|apply zH|refine zA ?_ GE273.out)|exact HB.out)⟩⟩
       case rest=>
        clear HC14
        try clear c1
        try clear p2
        try clear c3
        try clear c5
        try clear c7
        try clear c12
        try clear c13
        try clear c13b0
        try clear c15
        try clear c15b0
        try clear c15b1
        try clear hcz10_0
        try clear hcz10_1
        try clear hcz10_2
        try clear hcz11_0
        try clear hcz11_1
        try clear hcz11_2
        try clear hcz9_0
        try clear hcz9_1
        try clear hcz9_2
        try clear hfz10_0
        try clear hfz10_1
        try clear hfz10_2
        try clear hfz11_0
        try clear hfz11_1
        try clear hfz11_2
        try clear hfz9_0
        try clear hfz9_1
        try clear hfz9_2
        try clear p2
        obtain ⟨kq,x4_13,rfl,HA,HJ13,BK273,HB⟩:=hcut
        cases kq with
        |zero=>exact absurd HA.out (by simp [jobshellref25_Valid.j2])
        |succ kj13=>
         have H:=HA.out
         clear HA
         simp only [jobshellref25_Valid.j2] at H
         by_cases c16:x4_13=true
         ·subst c16
          have H1:((jobshellref25_Has.f kj13 l0_1 x3_2).bind fun t277=>(if t277=true then (some 1) else ((jobshellref25_Has.f kj13 l0_2 x3_2).bind fun t278=>(if t278=true then (some 1) else (jobshellref25_Valid.l0 kj13 (wrap64 (x3_2 + 1)) l0_0 l0_1 l0_2)))))=some r:=by rw [if_pos rfl] at H;exact H
          clear H
          have H:=H1
          clear H1
          replace H:=Option.bind_eq_some_iff.mp H
          obtain ⟨t277,A170,H⟩:=H
          replace H:(if t277=true then (some 1) else ((jobshellref25_Has.f kj13 l0_2 x3_2).bind fun t278=>(if t278=true then (some 1) else (jobshellref25_Valid.l0 kj13 (wrap64 (x3_2 + 1)) l0_0 l0_1 l0_2))))=some r:=H
          have A17:=Zk A170
          clear A170
          by_cases c18:t277=true
          ·subst c18
           have H1:(some 1)=some r:=by rw [if_pos rfl] at H;exact H
           clear H
           have H:=H1
           clear H1
           obtain rfl:=Option.some.inj H
           have hcz19_0:wc.cell? ⟨gb273,0,none⟩=some (.slice A0_0 l0_0.length c0_0):=(zI BK273.out 0).trans rfl
           have hcz19_1:wc.cell? ⟨gb273,1,none⟩=some (.slice A0_1 l0_1.length c0_1):=(zI BK273.out 1).trans rfl
           have hcz19_2:wc.cell? ⟨gb273,2,none⟩=some (.slice A0_2 l0_2.length c0_2):=(zI BK273.out 2).trans rfl
           have hfz19_0:=zJ BK273.out 0
           have hfz19_1:=zJ BK273.out 1
           have hfz19_2:=zJ BK273.out 2
           go_wp2_with (first|(go_at_call 24;(with_reducible refine (jobshellref25_Has.calls kj13 _ _ l0_1 x3_2 true _ ?side1 ?side2 A17.out).mono ?_);(case side1=>repeat (first|exact (yT HR0_1.out HB.out)|(with_reducible refine yG ?_ _)|(with_reducible refine yF ?_ _)|(with_reducible refine yK ?_)));(case side2=>exact HC0_1.out);rintro e w' ⟨rfl,⟨nd,rfl⟩⟩))
           go_ret
           exact ⟨by first|rfl|(simp [errW_none,errW_some] <;> rfl)|(simp [*,errW_none,errW_some] <;> rfl),by repeat (first|(with_reducible first|exact HB.out|apply zG|apply zD|apply zH|refine zA ?_ GE273.out)|exact HB.out)⟩
          ·replace c18:=Bool.eq_false_iff.mpr c18
           subst c18
           have H1:((jobshellref25_Has.f kj13 l0_2 x3_2).bind fun t278=>(if t278=true then (some 1) else (jobshellref25_Valid.l0 kj13 (wrap64 (x3_2 + 1)) l0_0 l0_1 l0_2)))=some r:=by rw [if_neg (show ¬ (false=true) by decide)] at H;exact H
           clear H
           have H:=H1
           clear H1
           replace H:=Option.bind_eq_some_iff.mp H
           obtain ⟨t278,A200,H⟩:=H
           replace H:(if t278=true then (some 1) else (jobshellref25_Valid.l0 kj13 (wrap64 (x3_2 + 1)) l0_0 l0_1 l0_2))=some r:=H
           have A20:=Zk A200
           clear A200
           by_cases c21:t278=true
           ·subst c21
            have H1:(some 1)=some r:=by rw [if_pos rfl] at H;exact H
            clear H
            have H:=H1
            clear H1
            obtain rfl:=Option.some.inj H
            have hcz22_0:wc.cell? ⟨gb273,0,none⟩=some (.slice A0_0 l0_0.length c0_0):=(zI BK273.out 0).trans rfl
            have hcz22_1:wc.cell? ⟨gb273,1,none⟩=some (.slice A0_1 l0_1.length c0_1):=(zI BK273.out 1).trans rfl
            have hcz22_2:wc.cell? ⟨gb273,2,none⟩=some (.slice A0_2 l0_2.length c0_2):=(zI BK273.out 2).trans rfl
            have hfz22_0:=zJ BK273.out 0
            have hfz22_1:=zJ BK273.out 1
            have hfz22_2:=zJ BK273.out 2
            go_wp2_with (first|(go_at_call 24;(with_reducible refine (jobshellref25_Has.calls kj13 _ _ l0_1 x3_2 false _ ?side1 ?side2 A17.out).mono ?_);(case side1=>repeat (first|exact (yT HR0_1.out HB.out)|(with_reducible refine yG ?_ _)|(with_reducible refine yF ?_ _)|(with_reducible refine yK ?_)));(case side2=>exact HC0_1.out);rintro e w' ⟨rfl,⟨nd,rfl⟩⟩)|(go_at_call 24;(with_reducible refine (jobshellref25_Has.calls kj13 _ _ l0_2 x3_2 true _ ?side1 ?side2 A20.out).mono ?_);(case side1=>repeat (first|exact (yT HR0_2.out (by repeat (first|(with_reducible first|exact HB.out|apply zG|apply zD|apply zH|refine zA ?_ GE273.out)|exact HB.out)))|(with_reducible refine yG ?_ _)|(with_reducible refine yF ?_ _)|(with_reducible refine yK ?_)));(case side2=>exact HC0_2.out);rintro e w' ⟨rfl,⟨nd,rfl⟩⟩))
            go_ret
            exact ⟨by first|rfl|(simp [errW_none,errW_some] <;> rfl)|(simp [*,errW_none,errW_some] <;> rfl),by repeat (first|(with_reducible first|exact HB.out|apply zG|apply zD|apply zH|refine zA ?_ GE273.out)|exact HB.out)⟩
           ·replace c21:=Bool.eq_false_iff.mpr c21
            subst c21
            have H1:(jobshellref25_Valid.l0 kj13 (wrap64 (x3_2 + 1)) l0_0 l0_1 l0_2)=some r:=by rw [if_neg (show ¬ (false=true) by decide)] at H;exact H
            clear H
            have H:=H1
            clear H1
            have H':=Zk H
            clear H
            have hcz23_0:wc.cell? ⟨gb273,0,none⟩=some (.slice A0_0 l0_0.length c0_0):=(zI BK273.out 0).trans rfl
            have hcz23_1:wc.cell? ⟨gb273,1,none⟩=some (.slice A0_1 l0_1.length c0_1):=(zI BK273.out 1).trans rfl
            have hcz23_2:wc.cell? ⟨gb273,2,none⟩=some (.slice A0_2 l0_2.length c0_2):=(zI BK273.out 2).trans rfl
            have hfz23_0:=zJ BK273.out 0
            have hfz23_1:=zJ BK273.out 1
            have hfz23_2:=zJ BK273.out 2
            go_wp2_with (first|(go_at_call 24;(with_reducible refine (jobshellref25_Has.calls kj13 _ _ l0_1 x3_2 false _ ?side1 ?side2 A17.out).mono ?_);(case side1=>repeat (first|exact (yT HR0_1.out HB.out)|(with_reducible refine yG ?_ _)|(with_reducible refine yF ?_ _)|(with_reducible refine yK ?_)));(case side2=>exact HC0_1.out);rintro e w' ⟨rfl,⟨nd,rfl⟩⟩)|(go_at_call 24;(with_reducible refine (jobshellref25_Has.calls kj13 _ _ l0_2 x3_2 false _ ?side1 ?side2 A20.out).mono ?_);(case side1=>repeat (first|exact (yT HR0_2.out (by repeat (first|(with_reducible first|exact HB.out|apply zG|apply zD|apply zH|refine zA ?_ GE273.out)|exact HB.out)))|(with_reducible refine yG ?_ _)|(with_reducible refine yF ?_ _)|(with_reducible refine yK ?_)));(case side2=>exact HC0_2.out);rintro e w' ⟨rfl,⟨nd,rfl⟩⟩))
            go_roundg kj13
            case measure=>have:=HJ1.out;have:=HK2.out;have:=HJ13.out;omega
            case rel=>exact ⟨(wrap64 (x3_2 + 1)),(by first|rfl|(simp;done)|(simp [*];done)|(generalize ByteArray.toList _=l_;cases l_ <;> rfl)),H',⟨by have:=HJ1.out;have:=HK2.out;have:=HJ13.out;omega⟩,⟨by (with_reducible repeat (first|refine zC ?_ _|refine zF ?_|refine zB ?_ _));exact BK273.out⟩,⟨by repeat (first|(with_reducible first|exact HB.out|apply zG|apply zD|apply zH|refine zA ?_ GE273.out)|exact HB.out)⟩⟩
         ·replace c16:=Bool.eq_false_iff.mpr c16
          subst c16
          have H1:((jobshellref25_Has.f kj13 l0_1 x3_2).bind fun t279=>(if t279=true then ((jobshellref25_Has.f kj13 l0_2 x3_2).bind fun t280=>(if t280=true then (some 1) else (jobshellref25_Valid.l0 kj13 (wrap64 (x3_2 + 1)) l0_0 l0_1 l0_2))) else (jobshellref25_Valid.l0 kj13 (wrap64 (x3_2 + 1)) l0_0 l0_1 l0_2)))=some r:=by rw [if_neg (show ¬ (false=true) by decide)] at H;exact H
          clear H
          have H:=H1
          clear H1
          replace H:=Option.bind_eq_some_iff.mp H
          obtain ⟨t279,A240,H⟩:=H
          replace H:(if t279=true then ((jobshellref25_Has.f kj13 l0_2 x3_2).bind fun t280=>(if t280=true then (some 1) else (jobshellref25_Valid.l0 kj13 (wrap64 (x3_2 + 1)) l0_0 l0_1 l0_2))) else (jobshellref25_Valid.l0 kj13 (wrap64 (x3_2 + 1)) l0_0 l0_1 l0_2))=some r:=H
          have A24:=Zk A240
          clear A240
          by_cases c25:t279=true
          ·subst c25
           have H1:((jobshellref25_Has.f kj13 l0_2 x3_2).bind fun t280=>(if t280=true then (some 1) else (jobshellref25_Valid.l0 kj13 (wrap64 (x3_2 + 1)) l0_0 l0_1 l0_2)))=some r:=by rw [if_pos rfl] at H;exact H
           clear H
           have H:=H1
           clear H1
           replace H:=Option.bind_eq_some_iff.mp H
           obtain ⟨t280,A260,H⟩:=H
           replace H:(if t280=true then (some 1) else (jobshellref25_Valid.l0 kj13 (wrap64 (x3_2 + 1)) l0_0 l0_1 l0_2))=some r:=H
           have A26:=Zk A260
           clear A260
           by_cases c27:t280=true
           ·subst c27
            have H1:(some 1)=some r:=by rw [if_pos rfl] at H;exact H
            clear H
            have H:=H1
            clear H1
            obtain rfl:=Option.some.inj H
            have hcz28_0:wc.cell? ⟨gb273,0,none⟩=some (.slice A0_0 l0_0.length c0_0):=(zI BK273.out 0).trans rfl
            have hcz28_1:wc.cell? ⟨gb273,1,none⟩=some (.slice A0_1 l0_1.length c0_1):=(zI BK273.out 1).trans rfl
            have hcz28_2:wc.cell? ⟨gb273,2,none⟩=some (.slice A0_2 l0_2.length c0_2):=(zI BK273.out 2).trans rfl
            have hfz28_0:=zJ BK273.out 0
            have hfz28_1:=zJ BK273.out 1
            have hfz28_2:=zJ BK273.out 2
            go_wp2_with (first|(go_at_call 24;(with_reducible refine (jobshellref25_Has.calls kj13 _ _ l0_1 x3_2 true _ ?side1 ?side2 A24.out).mono ?_);(case side1=>repeat (first|exact (yT HR0_1.out HB.out)|(with_reducible refine yG ?_ _)|(with_reducible refine yF ?_ _)|(with_reducible refine yK ?_)));(case side2=>exact HC0_1.out);rintro e w' ⟨rfl,⟨nd,rfl⟩⟩)|(go_at_call 24;(with_reducible refine (jobshellref25_Has.calls kj13 _ _ l0_2 x3_2 true _ ?side1 ?side2 A26.out).mono ?_);(case side1=>repeat (first|exact (yT HR0_2.out (by repeat (first|(with_reducible first|exact HB.out|apply zG|apply zD|apply zH|refine zA ?_ GE273.out)|exact HB.out)))|(with_reducible refine yG ?_ _)|(with_reducible refine yF ?_ _)|(with_reducible refine yK ?_)));(case side2=>exact HC0_2.out);rintro e w' ⟨rfl,⟨nd,rfl⟩⟩))
            go_ret
            exact ⟨by first|rfl|(simp [errW_none,errW_some] <;> rfl)|(simp [*,errW_none,errW_some] <;> rfl),by repeat (first|(with_reducible first|exact HB.out|apply zG|apply zD|apply zH|refine zA ?_ GE273.out)|exact HB.out)⟩
           ·replace c27:=Bool.eq_false_iff.mpr c27
            subst c27
            have H1:(jobshellref25_Valid.l0 kj13 (wrap64 (x3_2 + 1)) l0_0 l0_1 l0_2)=some r:=by rw [if_neg (show ¬ (false=true) by decide)] at H;exact H
            clear H
            have H:=H1
            clear H1
            have H':=Zk H
            clear H
            have hcz29_0:wc.cell? ⟨gb273,0,none⟩=some (.slice A0_0 l0_0.length c0_0):=(zI BK273.out 0).trans rfl
            have hcz29_1:wc.cell? ⟨gb273,1,none⟩=some (.slice A0_1 l0_1.length c0_1):=(zI BK273.out 1).trans rfl
            have hcz29_2:wc.cell? ⟨gb273,2,none⟩=some (.slice A0_2 l0_2.length c0_2):=(zI BK273.out 2).trans rfl
            have hfz29_0:=zJ BK273.out 0
            have hfz29_1:=zJ BK273.out 1
            have hfz29_2:=zJ BK273.out 2
            go_wp2_with (first|(go_at_call 24;(with_reducible refine (jobshellref25_Has.calls kj13 _ _ l0_1 x3_2 true _ ?side1 ?side2 A24.out).mono ?_);(case side1=>repeat (first|exact (yT HR0_1.out HB.out)|(with_reducible refine yG ?_ _)|(with_reducible refine yF ?_ _)|(with_reducible refine yK ?_)));(case side2=>exact HC0_1.out);rintro e w' ⟨rfl,⟨nd,rfl⟩⟩)|(go_at_call 24;(with_reducible refine (jobshellref25_Has.calls kj13 _ _ l0_2 x3_2 false _ ?side1 ?side2 A26.out).mono ?_);(case side1=>repeat (first|exact (yT HR0_2.out (by repeat (first|(with_reducible first|exact HB.out|apply zG|apply zD|apply zH|refine zA ?_ GE273.out)|exact HB.out)))|(with_reducible refine yG ?_ _)|(with_reducible refine yF ?_ _)|(with_reducible refine yK ?_)));(case side2=>exact HC0_2.out);rintro e w' ⟨rfl,⟨nd,rfl⟩⟩))
            go_roundg kj13
            case measure=>have:=HJ1.out;have:=HK2.out;have:=HJ13.out;omega
            case rel=>exact ⟨(wrap64 (x3_2 + 1)),(by first|rfl|(simp;done)|(simp [*];done)|(generalize ByteArray.toList _=l_;cases l_ <;> rfl)),H',⟨by have:=HJ1.out;have:=HK2.out;have:=HJ13.out;omega⟩,⟨by (with_reducible repeat (first|refine zC ?_ _|refine zF ?_|refine zB ?_ _));exact BK273.out⟩,⟨by repeat (first|(with_reducible first|exact HB.out|apply zG|apply zD|apply zH|refine zA ?_ GE273.out)|exact HB.out)⟩⟩
          ·replace c25:=Bool.eq_false_iff.mpr c25
           subst c25
           have H1:(jobshellref25_Valid.l0 kj13 (wrap64 (x3_2 + 1)) l0_0 l0_1 l0_2)=some r:=by rw [if_neg (show ¬ (false=true) by decide)] at H;exact H
           clear H
           have H:=H1
           clear H1
           have H':=Zk H
           clear H
           have hcz30_0:wc.cell? ⟨gb273,0,none⟩=some (.slice A0_0 l0_0.length c0_0):=(zI BK273.out 0).trans rfl
           have hcz30_1:wc.cell? ⟨gb273,1,none⟩=some (.slice A0_1 l0_1.length c0_1):=(zI BK273.out 1).trans rfl
           have hcz30_2:wc.cell? ⟨gb273,2,none⟩=some (.slice A0_2 l0_2.length c0_2):=(zI BK273.out 2).trans rfl
           have hfz30_0:=zJ BK273.out 0
           have hfz30_1:=zJ BK273.out 1
           have hfz30_2:=zJ BK273.out 2
           go_wp2_with (first|(go_at_call 24;(with_reducible refine (jobshellref25_Has.calls kj13 _ _ l0_1 x3_2 false _ ?side1 ?side2 A24.out).mono ?_);(case side1=>repeat (first|exact (yT HR0_1.out HB.out)|(with_reducible refine yG ?_ _)|(with_reducible refine yF ?_ _)|(with_reducible refine yK ?_)));(case side2=>exact HC0_1.out);rintro e w' ⟨rfl,⟨nd,rfl⟩⟩))
           go_roundg kj13
           case measure=>have:=HJ1.out;have:=HK2.out;have:=HJ13.out;omega
           case rel=>exact ⟨(wrap64 (x3_2 + 1)),(by first|rfl|(simp;done)|(simp [*];done)|(generalize ByteArray.toList _=l_;cases l_ <;> rfl)),H',⟨by have:=HJ1.out;have:=HK2.out;have:=HJ13.out;omega⟩,⟨by (with_reducible repeat (first|refine zC ?_ _|refine zF ?_|refine zB ?_ _));exact BK273.out⟩,⟨by repeat (first|(with_reducible first|exact HB.out|apply zG|apply zD|apply zH|refine zA ?_ GE273.out)|exact HB.out)⟩⟩
      ·rw [if_neg c13] at H
       have c13b0:decide (x3_2≤20)=false:=decide_eq_false c13
       clear c13
       have H':=Zk H
       clear H
       go_wp2
       go_loopg [5] k2 (fun kq v5 w'=>∃ (x5_3:Int),v5=.int .i64 x5_3∧zR (jobshellref25_Valid.l1 kq x5_3 l0_0 l0_1 l0_2=some r)∧zR (kq≤k2)∧zR (w'.heap[gb273]?=some (.cells #[(.slice A0_0 l0_0.length c0_0),(.slice A0_1 l0_1.length c0_1),(.slice A0_2 l0_2.length c0_2)] 30 (0,0)))∧zR (Below w.heap.size w w'))
       case atStart=>exact ⟨(1),(by first|rfl|(simp;done)|(simp [*];done)|(generalize ByteArray.toList _=l_;cases l_ <;> rfl)),H',⟨Nat.le_refl _⟩,⟨by (with_reducible repeat (first|refine zC ?_ _|refine zF ?_|refine zB ?_ _));exact BK273.out⟩,⟨by repeat (first|(with_reducible first|exact HB.out|apply zG|apply zD|apply zH|refine zA ?_ GE273.out)|exact HB.out)⟩⟩
       case round=>
        clear H'
        try clear c1
        try clear c2
        try clear p2
        try clear c3
        try clear c5
        try clear p6
        try clear c7
        try clear c12
        try clear c13
        try clear c13b0
        try clear c15
        try clear c15b0
        try clear c15b1
        try clear c16
        try clear c18
        try clear c21
        try clear c25
        try clear c27
        try clear hcz10_0
        try clear hcz10_1
        try clear hcz10_2
        try clear hcz11_0
        try clear hcz11_1
        try clear hcz11_2
        try clear hcz19_0
        try clear hcz19_1
        try clear hcz19_2
        try clear hcz22_0
        try clear hcz22_1
        try clear hcz22_2
        try clear hcz23_0
        try clear hcz23_1
        try clear hcz23_2
        try clear hcz28_0
        try clear hcz28_1
        try clear hcz28_2
        try clear hcz29_0
        try clear hcz29_1
        try clear hcz29_2
        try clear hcz30_0
        try clear hcz30_1
        try clear hcz30_2
        try clear hcz9_0
        try clear hcz9_1
        try clear hcz9_2
        try clear hfz10_0
        try clear hfz10_1
        try clear hfz10_2
        try clear hfz11_0
        try clear hfz11_1
        try clear hfz11_2
        try clear hfz19_0
        try clear hfz19_1
        try clear hfz19_2
        try clear hfz22_0
        try clear hfz22_1
        try clear hfz22_2
        try clear hfz23_0
        try clear hfz23_1
        try clear hfz23_2
        try clear hfz28_0
        try clear hfz28_1
        try clear hfz28_2
        try clear hfz29_0
        try clear hfz29_1
        try clear hfz29_2
        try clear hfz30_0
        try clear hfz30_1
        try clear hfz30_2
        try clear hfz9_0
        try clear hfz9_1
        try clear hfz9_2
        try clear p2
        obtain ⟨x5_3,rfl,HA,HK3,BK273,HB⟩:=hrel
        cases gk with
        |zero=>exact absurd HA.out (by simp [jobshellref25_Valid.l1])
        |succ k3=>
         have H:=HA.out
         clear HA
         simp only [jobshellref25_Valid.l1] at H
         by_cases c31:x5_3≤20
         ·rw [if_pos c31] at H
          have c31b0:decide (x5_3≤20)=true:=decide_eq_true c31
          clear c31
          have HC32:=Zk H
          clear H
          go_upto_region 12 with (fail)
          go_cut [74] (fun v74 wc=>∃ (kq:Nat) (x74_31:Bool),v74=.bool x74_31∧zR (jobshellref25_Valid.j4 kq x5_3 x74_31 l0_0 l0_1 l0_2=some r)∧zR (kq≤k3)∧zR (wc.heap[gb273]?=some (.cells #[(.slice A0_0 l0_0.length c0_0),(.slice A0_1 l0_1.length c0_1),(.slice A0_2 l0_2.length c0_2)] 30 (0,0)))∧zR (Below w.heap.size w wc))
          case first=>
           have H:=HC32.out
           clear HC32
           by_cases c33:x5_3=18
           ·rw [if_pos c33] at H
            have c33b0:(x5_3 == 18)=true:=beq_iff_eq.mpr c33
            have c33b1:(x5_3 != 18)=false:=bne_eq_false_iff_eq.mpr c33
            clear c33
            (first|rw [c33b0]|(simp only [yS,yU];rw [c33b0])|skip)
            have H':=Zk H
            clear H
            go_wp2
            go_meet
            case rel=>exact ⟨_,(false),(by first|rfl|(simp;done)|(simp [*];done)|(generalize ByteArray.toList _=l_;cases l_ <;> rfl)),H',⟨by have:=HJ1.out;have:=HK2.out;have:=HK3.out;first|omega|exact Nat.le_refl _⟩,⟨by (with_reducible repeat (first|refine zC ?_ _|refine zF ?_|refine zB ?_ _));exact BK273.out⟩,⟨by repeat (first|(with_reducible first|exact HB.out|apply zG|apply zD|apply zH|refine zA ?_ GE273.out)|exact HB.out)⟩⟩
           ·rw [if_neg c33] at H
            have c33b0:(x5_3 == 18)=false:=beq_eq_false_iff_ne.mpr c33
            have c33b1:(x5_3 != 18)=true:=bne_iff_ne.mpr c33
            (first|rw [c33b0]|(simp only [yS,yU];rw [c33b0])|skip)
            replace H:=Option.bind_eq_some_iff.mp H
            obtain ⟨t281,A340,H⟩:=H
            replace H:(if t281=true then ((jobshellref25_Has.f k3 l0_1 x5_3).bind fun t282=>(jobshellref25_Valid.j4 k3 x5_3 t282 l0_0 l0_1 l0_2)) else (jobshellref25_Valid.j4 k3 x5_3 false l0_0 l0_1 l0_2))=some r:=H
            have A34:=Zk A340
            clear A340
            by_cases c35:t281=true
            ·subst c35
             have H1:((jobshellref25_Has.f k3 l0_1 x5_3).bind fun t282=>(jobshellref25_Valid.j4 k3 x5_3 t282 l0_0 l0_1 l0_2))=some r:=by rw [if_pos rfl] at H;exact H
             clear H
             have H:=H1
             clear H1
             replace H:=Option.bind_eq_some_iff.mp H
             obtain ⟨t282,A360,H⟩:=H
             replace H:(jobshellref25_Valid.j4 k3 x5_3 t282 l0_0 l0_1 l0_2)=some r:=H
             have A36:=Zk A360
             clear A360
             have H':=Zk H
             clear H
             have hcz37_0:wr.cell? ⟨gb273,0,none⟩=some (.slice A0_0 l0_0.length c0_0):=(zI BK273.out 0).trans rfl
             have hcz37_1:wr.cell? ⟨gb273,1,none⟩=some (.slice A0_1 l0_1.length c0_1):=(zI BK273.out 1).trans rfl
             have hcz37_2:wr.cell? ⟨gb273,2,none⟩=some (.slice A0_2 l0_2.length c0_2):=(zI BK273.out 2).trans rfl
             have hfz37_0:=zJ BK273.out 0
             have hfz37_1:=zJ BK273.out 1
             have hfz37_2:=zJ BK273.out 2
             go_wp2_with (first|(go_at_call 24;(with_reducible refine (jobshellref25_Has.calls k3 _ _ l0_0 x5_3 true _ ?side1 ?side2 A34.out).mono ?_);(case side1=>repeat (first|exact (yT HR0_0.out HB.out)|(with_reducible refine yG ?_ _)|(with_reducible refine yF ?_ _)|(with_reducible refine yK ?_)));(case side2=>exact HC0_0.out);rintro e w' ⟨rfl,⟨nd,rfl⟩⟩)|(go_at_call 24;(with_reducible refine (jobshellref25_Has.calls k3 _ _ l0_1 x5_3 t282 _ ?side1 ?side2 A36.out).mono ?_);(case side1=>repeat (first|exact (yT HR0_1.out (by repeat (first|(with_reducible first|exact HB.out|apply zG|apply zD|apply zH|refine zA ?_ GE273.out)|exact HB.out)))|(with_reducible refine yG ?_ _)|(with_reducible refine yF ?_ _)|(with_reducible refine yK ?_)));(case side2=>exact HC0_1.out);rintro e w' ⟨rfl,⟨nd,rfl⟩⟩))
             go_meet
             case rel=>exact ⟨_,(t282),(by first|rfl|(simp;done)|(simp [*];done)|(generalize ByteArray.toList _=l_;cases l_ <;> rfl)),H',⟨by have:=HJ1.out;have:=HK2.out;have:=HK3.out;first|omega|exact Nat.le_refl _⟩,⟨by (with_reducible repeat (first|refine zC ?_ _|refine zF ?_|refine zB ?_ _));exact BK273.out⟩,⟨by repeat (first|(with_reducible first|exact HB.out|apply zG|apply zD|apply zH|refine zA ?_ GE273.out)|exact HB.out)⟩⟩
            ·replace c35:=Bool.eq_false_iff.mpr c35
             subst c35
             have H1:(jobshellref25_Valid.j4 k3 x5_3 false l0_0 l0_1 l0_2)=some r:=by rw [if_neg (show ¬ (false=true) by decide)] at H;exact H
             clear H
             have H:=H1
             clear H1
             have H':=Zk H
             clear H
             have hcz38_0:wr.cell? ⟨gb273,0,none⟩=some (.slice A0_0 l0_0.length c0_0):=(zI BK273.out 0).trans rfl
             have hcz38_1:wr.cell? ⟨gb273,1,none⟩=some (.slice A0_1 l0_1.length c0_1):=(zI BK273.out 1).trans rfl
             have hcz38_2:wr.cell? ⟨gb273,2,none⟩=some (.slice A0_2 l0_2.length c0_2):=(zI BK273.out 2).trans rfl
             have hfz38_0:=zJ BK273.out 0
             have hfz38_1:=zJ BK273.out 1
             have hfz38_2:=zJ BK273.out 2
             go_wp2_with (first|(go_at_call 24;(with_reducible refine (jobshellref25_Has.calls k3 _ _ l0_0 x5_3 false _ ?side1 ?side2 A34.out).mono ?_);(case side1=>repeat (first|exact (yT HR0_0.out HB.out)|(with_reducible refine yG ?_ _)|(with_reducible refine yF ?_ _)|(with_reducible refine yK ?_)));(case side2=>exact HC0_0.out);rintro e w' ⟨rfl,⟨nd,rfl⟩⟩))
             go_meet
             case rel=>exact ⟨_,(false),(by first|rfl|(simp;done)|(simp [*];done)|(generalize ByteArray.toList _=l_;cases l_ <;> rfl)),H',⟨by have:=HJ1.out;have:=HK2.out;have:=HK3.out;first|omega|exact Nat.le_refl _⟩,⟨by (with_reducible repeat (first|refine zC ?_ _|refine zF ?_|refine zB ?_ _));exact BK273.out⟩,⟨by repeat (first|(with_reducible first|exact HB.out|apply zG|apply zD|apply zH|refine zA ?_ GE273.out)|exact HB.out)⟩⟩
          case rest=>
           clear HC32
           try clear c1
           try clear c2
           try clear p2
           try clear c3
           try clear c5
           try clear p6
           try clear c7
           try clear c12
           try clear c13
           try clear c13b0
           try clear c15
           try clear c15b0
           try clear c15b1
           try clear c16
           try clear c18
           try clear c21
           try clear c25
           try clear c27
           try clear c31
           try clear c31b0
           try clear c33
           try clear c33b0
           try clear c33b1
           try clear c35
           try clear c36
           try clear hcz10_0
           try clear hcz10_1
           try clear hcz10_2
           try clear hcz11_0
           try clear hcz11_1
           try clear hcz11_2
           try clear hcz19_0
           try clear hcz19_1
           try clear hcz19_2
           try clear hcz22_0
           try clear hcz22_1
           try clear hcz22_2
           try clear hcz23_0
           try clear hcz23_1
           try clear hcz23_2
           try clear hcz28_0
           try clear hcz28_1
           try clear hcz28_2
           try clear hcz29_0
           try clear hcz29_1
           try clear hcz29_2
           try clear hcz30_0
           try clear hcz30_1
           try clear hcz30_2
           try clear hcz37_0
           try clear hcz37_1
           try clear hcz37_2
           try clear hcz38_0
           try clear hcz38_1
           try clear hcz38_2
           try clear hcz9_0
           try clear hcz9_1
           try clear hcz9_2
           try clear hfz10_0
           try clear hfz10_1
           try clear hfz10_2
           try clear hfz11_0
           try clear hfz11_1
           try clear hfz11_2
           try clear hfz19_0
           try clear hfz19_1
           try clear hfz19_2
           try clear hfz22_0
           try clear hfz22_1
           try clear hfz22_2
           try clear hfz23_0
           try clear hfz23_1
           try clear hfz23_2
           try clear hfz28_0
           try clear hfz28_1
           try clear hfz28_2
           try clear hfz29_0
           try clear hfz29_1
           try clear hfz29_2
           try clear hfz30_0
           try clear hfz30_1
           try clear hfz30_2
           try clear hfz37_0
           try clear hfz37_1
           try clear hfz37_2
           try clear hfz38_0
           try clear hfz38_1
           try clear hfz38_2
           try clear hfz9_0
           try clear hfz9_1
           try clear hfz9_2
           try clear p2
           try clear p6
           obtain ⟨kq,x74_31,rfl,HA,HJ31,BK273,HB⟩:=hcut
           cases kq with
           |zero=>exact absurd HA.out (by simp [jobshellref25_Valid.j4])
           |succ kj31=>
            have H:=HA.out
            clear HA
            simp only [jobshellref25_Valid.j4] at H
            by_cases c39:x74_31=true
            ·subst c39
             have H1:(some 25)=some r:=by rw [if_pos rfl] at H;exact H
             clear H
             have H:=H1
             clear H1
             obtain rfl:=Option.some.inj H
             go_wp2
             go_ret
             exact ⟨by first|rfl|(simp [errW_none,errW_some] <;> rfl)|(simp [*,errW_none,errW_some] <;> rfl),by repeat (first|(with_reducible first|exact HB.out|apply zG|apply zD|apply zH|refine zA ?_ GE273.out)|exact HB.out)⟩
            ·replace c39:=Bool.eq_false_iff.mpr c39
             subst c39
             have H1:((jobshellref25_stops.f x5_3).bind fun t283=>(if t283=true then ((jobshellref25_Has.f kj31 l0_0 x5_3).bind fun t284=>(if t284=true then ((jobshellref25_Has.f kj31 l0_0 18).bind fun t285=>(if t285=true then (some 25) else (jobshellref25_Valid.l1 kj31 (wrap64 (x5_3 + 1)) l0_0 l0_1 l0_2))) else (jobshellref25_Valid.l1 kj31 (wrap64 (x5_3 + 1)) l0_0 l0_1 l0_2))) else (jobshellref25_Valid.l1 kj31 (wrap64 (x5_3 + 1)) l0_0 l0_1 l0_2)))=some r:=by rw [if_neg (show ¬ (false=true) by decide)] at H;exact H
             clear H
             have H:=H1
             clear H1
             replace H:=Option.bind_eq_some_iff.mp H
             obtain ⟨t283,A400,H⟩:=H
             replace H:(if t283=true then ((jobshellref25_Has.f kj31 l0_0 x5_3).bind fun t284=>(if t284=true then ((jobshellref25_Has.f kj31 l0_0 18).bind fun t285=>(if t285=true then (some 25) else (jobshellref25_Valid.l1 kj31 (wrap64 (x5_3 + 1)) l0_0 l0_1 l0_2))) else (jobshellref25_Valid.l1 kj31 (wrap64 (x5_3 + 1)) l0_0 l0_1 l0_2))) else (jobshellref25_Valid.l1 kj31 (wrap64 (x5_3 + 1)) l0_0 l0_1 l0_2))=some r:=H
             have A40:=Zk A400
             clear A400
             by_cases c41:t283=true
             ·subst c41
              have H1:((jobshellref25_Has.f kj31 l0_0 x5_3).bind fun t284=>(if t284=true then ((jobshellref25_Has.f kj31 l0_0 18).bind fun t285=>(if t285=true then (some 25) else (jobshellref25_Valid.l1 kj31 (wrap64 (x5_3 + 1)) l0_0 l0_1 l0_2))) else (jobshellref25_Valid.l1 kj31 (wrap64 (x5_3 + 1)) l0_0 l0_1 l0_2)))=some r:=by rw [if_pos rfl] at H;exact H
              clear H
              have H:=H1
              clear H1
              replace H:=Option.bind_eq_some_iff.mp H
              obtain ⟨t284,A420,H⟩:=H
              replace H:(if t284=true then ((jobshellref25_Has.f kj31 l0_0 18).bind fun t285=>(if t285=true then (some 25) else (jobshellref25_Valid.l1 kj31 (wrap64 (x5_3 + 1)) l0_0 l0_1 l0_2))) else (jobshellref25_Valid.l1 kj31 (wrap64 (x5_3 + 1)) l0_0 l0_1 l0_2))=some r:=H
              have A42:=Zk A420
              clear A420
              by_cases c43:t284=true
              ·subst c43
               have H1:((jobshellref25_Has.f kj31 l0_0 18).bind fun t285=>(if t285=true then (some 25) else (jobshellref25_Valid.l1 kj31 (wrap64 (x5_3 + 1)) l0_0 l0_1 l0_2)))=some r:=by rw [if_pos rfl] at H;exact H
               clear H
               have H:=H1
               clear H1
               replace H:=Option.bind_eq_some_iff.mp H
               obtain ⟨t285,A440,H⟩:=H
               replace H:(if t285=true then (some 25) else (jobshellref25_Valid.l1 kj31 (wrap64 (x5_3 + 1)) l0_0 l0_1 l0_2))=some r:=H
               have A44:=Zk A440
               clear A440
               by_cases c45:t285=true
               ·subst c45
                have H1:(some 25)=some r:=by rw [if_pos rfl] at H;exact H
                clear H
                have H:=H1
                clear H1
                obtain rfl:=Option.some.inj H
                go_wp2_with (first|((with_reducible refine yE (f:=35) rfl ?_);refine yN (some 76) rfl rfl Tryd.func35 (by kernel_rfl) rfl #[.int .i64 x5_3] rfl (by (try simp only [List.map_toArray,List.map_cons,List.map_nil]);first|done|rfl|(simp only [List.length_drop,List.length_take];rfl)) ?_;(with_reducible refine (jobshellref25_stops.calls x5_3 true _ A40.out).mono ?_);rintro e w' ⟨rfl,⟨nd,rfl⟩⟩;refine ⟨_,rfl,?_⟩;have hcz46_0:wc.cell? ⟨gb273,0,none⟩=some (.slice A0_0 l0_0.length c0_0):=(zI BK273.out 0).trans rfl;have hcz46_1:wc.cell? ⟨gb273,1,none⟩=some (.slice A0_1 l0_1.length c0_1):=(zI BK273.out 1).trans rfl;have hcz46_2:wc.cell? ⟨gb273,2,none⟩=some (.slice A0_2 l0_2.length c0_2):=(zI BK273.out 2).trans rfl;have hfz46_0:=zJ BK273.out 0;have hfz46_1:=zJ BK273.out 1;have hfz46_2:=zJ BK273.out 2)|(go_at_call 24;(with_reducible refine (jobshellref25_Has.calls kj31 _ _ l0_0 x5_3 true _ ?side1 ?side2 A42.out).mono ?_);(case side1=>repeat (first|exact (yT HR0_0.out (by repeat (first|(with_reducible first|exact HB.out|apply zG|apply zD|apply zH|refine zA ?_ GE273.out)|exact HB.out)))|(with_reducible refine yG ?_ _)|(with_reducible refine yF ?_ _)|(with_reducible refine yK ?_)));(case side2=>exact HC0_0.out);rintro e w' ⟨rfl,⟨nd,rfl⟩⟩)|(go_at_call 24;(with_reducible refine (jobshellref25_Has.calls kj31 _ _ l0_0 18 true _ ?side1 ?side2 A44.out).mono ?_);(case side1=>repeat (first|exact (yT HR0_0.out (by repeat (first|(with_reducible first|exact HB.out|apply zG|apply zD|apply zH|refine zA ?_ GE273.out)|exact HB.out)))|(with_reducible refine yG ?_ _)|(with_reducible refine yF ?_ _)|(with_reducible refine yK ?_)));(case side2=>exact HC0_0.out);rintro e w' ⟨rfl,⟨nd,rfl⟩⟩))
                go_ret
                exact ⟨by first|rfl|(simp [errW_none,errW_some] <;> rfl)|(simp [*,errW_none,errW_some] <;> rfl),by repeat (first|(with_reducible first|exact HB.out|apply zG|apply zD|apply zH|refine zA ?_ GE273.out)|exact HB.out)⟩
               ·replace c45:=Bool.eq_false_iff.mpr c45
                subst c45
                have H1:(jobshellref25_Valid.l1 kj31 (wrap64 (x5_3 + 1)) l0_0 l0_1 l0_2)=some r:=by rw [if_neg (show ¬ (false=true) by decide)] at H;exact H
                clear H
                have H:=H1
                clear H1
                have H':=Zk H
                clear H
                go_wp2_with (first|((with_reducible refine yE (f:=35) rfl ?_);refine yN (some 76) rfl rfl Tryd.func35 (by kernel_rfl) rfl #[.int .i64 x5_3] rfl (by (try simp only [List.map_toArray,List.map_cons,List.map_nil]);first|done|rfl|(simp only [List.length_drop,List.length_take];rfl)) ?_;(with_reducible refine (jobshellref25_stops.calls x5_3 true _ A40.out).mono ?_);rintro e w' ⟨rfl,⟨nd,rfl⟩⟩;refine ⟨_,rfl,?_⟩;have hcz47_0:wc.cell? ⟨gb273,0,none⟩=some (.slice A0_0 l0_0.length c0_0):=(zI BK273.out 0).trans rfl;have hcz47_1:wc.cell? ⟨gb273,1,none⟩=some (.slice A0_1 l0_1.length c0_1):=(zI BK273.out 1).trans rfl;have hcz47_2:wc.cell? ⟨gb273,2,none⟩=some (.slice A0_2 l0_2.length c0_2):=(zI BK273.out 2).trans rfl;have hfz47_0:=zJ BK273.out 0;have hfz47_1:=zJ BK273.out 1;have hfz47_2:=zJ BK273.out 2)|(go_at_call 24;(with_reducible refine (jobshellref25_Has.calls kj31 _ _ l0_0 x5_3 true _ ?side1 ?side2 A42.out).mono ?_);(case side1=>repeat (first|exact (yT HR0_0.out (by repeat (first|(with_reducible first|exact HB.out|apply zG|apply zD|apply zH|refine zA ?_ GE273.out)|exact HB.out)))|(with_reducible refine yG ?_ _)|(with_reducible refine yF ?_ _)|(with_reducible refine yK ?_)));(case side2=>exact HC0_0.out);rintro e w' ⟨rfl,⟨nd,rfl⟩⟩)|(go_at_call 24;(with_reducible refine (jobshellref25_Has.calls kj31 _ _ l0_0 18 false _ ?side1 ?side2 A44.out).mono ?_);(case side1=>repeat (first|exact (yT HR0_0.out (by repeat (first|(with_reducible first|exact HB.out|apply zG|apply zD|apply zH|refine zA ?_ GE273.out)|exact HB.out)))|(with_reducible refine yG ?_ _)|(with_reducible refine yF ?_ _)|(with_reducible refine yK ?_)));(case side2=>exact HC0_0.out);rintro e w' ⟨rfl,⟨nd,rfl⟩⟩))
                go_roundg kj31
                case measure=>have:=HJ1.out;have:=HK2.out;have:=HK3.out;have:=HJ31.out;omega
                case rel=>exact ⟨(wrap64 (x5_3 + 1)),(by first|rfl|(simp;done)|(simp [*];done)|(generalize ByteArray.toList _=l_;cases l_ <;> rfl)),H',⟨by have:=HJ1.out;have:=HK2.out;have:=HK3.out;have:=HJ31.out;omega⟩,⟨by (with_reducible repeat (first|refine zC ?_ _|refine zF ?_|refine zB ?_ _));exact BK273.out⟩,⟨by repeat (first|(with_reducible first|exact HB.out|apply zG|apply zD|apply zH|refine zA ?_ GE273.out)|exact HB.out)⟩⟩
              ·replace c43:=Bool.eq_false_iff.mpr c43
               subst c43
               have H1:(jobshellref25_Valid.l1 kj31 (wrap64 (x5_3 + 1)) l0_0 l0_1 l0_2)=some r:=by rw [if_neg (show ¬ (false=true) by decide)] at H;exact H
               clear H
               have H:=H1
               clear H1
               have H':=Zk H
               clear H
               go_wp2_with (first|((with_reducible refine yE (f:=35) rfl ?_);refine yN (some 76) rfl rfl Tryd.func35 (by kernel_rfl) rfl #[.int .i64 x5_3] rfl (by (try simp only [List.map_toArray,List.map_cons,List.map_nil]);first|done|rfl|(simp only [List.length_drop,List.length_take];rfl)) ?_;(with_reducible refine (jobshellref25_stops.calls x5_3 true _ A40.out).mono ?_);rintro e w' ⟨rfl,⟨nd,rfl⟩⟩;refine ⟨_,rfl,?_⟩;have hcz48_0:wc.cell? ⟨gb273,0,none⟩=some (.slice A0_0 l0_0.length c0_0):=(zI BK273.out 0).trans rfl;have hcz48_1:wc.cell? ⟨gb273,1,none⟩=some (.slice A0_1 l0_1.length c0_1):=(zI BK273.out 1).trans rfl;have hcz48_2:wc.cell? ⟨gb273,2,none⟩=some (.slice A0_2 l0_2.length c0_2):=(zI BK273.out 2).trans rfl;have hfz48_0:=zJ BK273.out 0;have hfz48_1:=zJ BK273.out 1;have hfz48_2:=zJ BK273.out 2)|(go_at_call 24;(with_reducible refine (jobshellref25_Has.calls kj31 _ _ l0_0 x5_3 false _ ?side1 ?side2 A42.out).mono ?_);(case side1=>repeat (first|exact (yT HR0_0.out (by repeat (first|(with_reducible first|exact HB.out|apply zG|apply zD|apply zH|refine zA ?_ GE273.out)|exact HB.out)))|(with_reducible refine yG ?_ _)|(with_reducible refine yF ?_ _)|(with_reducible refine yK ?_)));(case side2=>exact HC0_0.out);rintro e w' ⟨rfl,⟨nd,rfl⟩⟩))
               go_roundg kj31
               case measure=>have:=HJ1.out;have:=HK2.out;have:=HK3.out;have:=HJ31.out;omega
               case rel=>exact ⟨(wrap64 (x5_3 + 1)),(by first|rfl|(simp;done)|(simp [*];done)|(generalize ByteArray.toList _=l_;cases l_ <;> rfl)),H',⟨by have:=HJ1.out;have:=HK2.out;have:=HK3.out;have:=HJ31.out;omega⟩,⟨by (with_reducible repeat (first|refine zC ?_ _|refine zF ?_|refine zB ?_ _));exact BK273.out⟩,⟨by repeat (first|(with_reducible first|exact HB.out|apply zG|apply zD|apply zH|refine zA ?_ GE273.out)|exact HB.out)⟩⟩
             ·replace c41:=Bool.eq_false_iff.mpr c41
              subst c41
              have H1:(jobshellref25_Valid.l1 kj31 (wrap64 (x5_3 + 1)) l0_0 l0_1 l0_2)=some r:=by rw [if_neg (show ¬ (false=true) by decide)] at H;exact H
              clear H
              have H:=H1
              clear H1
              have H':=Zk H
              clear H
              go_wp2_with (first|((with_reducible refine yE (f:=35) rfl ?_);refine yN (some 76) rfl rfl Tryd.func35 (by kernel_rfl) rfl #[.int .i64 x5_3] rfl (by (try simp only [List.map_toArray,List.map_cons,List.map_nil]);first|done|rfl|(simp only [List.length_drop,List.length_take];rfl)) ?_;(with_reducible refine (jobshellref25_stops.calls x5_3 false _ A40.out).mono ?_);rintro e w' ⟨rfl,⟨nd,rfl⟩⟩;refine ⟨_,rfl,?_⟩))
              go_roundg kj31
              case measure=>have:=HJ1.out;have:=HK2.out;have:=HK3.out;have:=HJ31.out;omega
              case rel=>exact ⟨(wrap64 (x5_3 + 1)),(by first|rfl|(simp;done)|(simp [*];done)|(generalize ByteArray.toList _=l_;cases l_ <;> rfl)),H',⟨by have:=HJ1.out;have:=HK2.out;have:=HK3.out;have:=HJ31.out;omega⟩,⟨by (with_reducible repeat (first|refine zC ?_ _|refine zF ?_|refine zB ?_ _));exact BK273.out⟩,⟨by repeat (first|(with_reducible first|exact HB.out|apply zG|apply zD|apply zH|refine zA ?_ GE273.out)|exact HB.out)⟩⟩
         ·rw [if_neg c31] at H
          have c31b0:decide (x5_3≤20)=false:=decide_eq_false c31
          clear c31
          obtain rfl:=Option.some.inj H
          go_wp2
          go_ret
          exact ⟨by first|rfl|(simp [errW_none,errW_some] <;> rfl)|(simp [*,errW_none,errW_some] <;> rfl),by repeat (first|(with_reducible first|exact HB.out|apply zG|apply zD|apply zH|refine zA ?_ GE273.out)|exact HB.out)⟩
end Go.Proofs.YtnkkdpjipfjdaaaDoor.Q
end
section

namespace Go.Proofs.YtnkkdpjipfjdaaaDoor.Q
open Go.RowKit Go.Proofs.YtnkkdpjipfjdaaaDoorW.PrintWords Go.Proofs.YtnkkdpjipfjdaaaDoorW.PrintLast Go.Proofs.YtnkkdpjipfjdaaaDoorW.PrintMore Go.Proofs.YtnkkdpjipfjdaaaDoorM
open Kd
attribute [local go_sem] max2_int min2_int max_two min_two max_three min_three max_four min_four
set_option linter.unusedVariables false
set_option linter.unusedSimpArgs false
def jobshellref25_drop.l0:Nat→List Int→Int→List Int→Int→Option (List Int)
 |0,_,_,_,_=>none
 |k + 1,x0,x1,x5,x6=>if x6 < (x0.length:Int) then (if 0≤x6 then (if (rd x0 x6)=x1 then (jobshellref25_drop.l0 k x0 x1 x5 (wrap64 (x6 + 1))) else (if x5.length < 17592186044416 then (jobshellref25_drop.l0 k x0 x1 (x5 ++ [rd x0 x6]) (wrap64 (x6 + 1))) else (none))) else (none)) else (some x5)
def jobshellref25_drop.f (k:Nat) (l0:List Int) (a1:Int):Option (List Int):=jobshellref25_drop.l0 k l0 a1 ([]:List Int) 0
theorem jobshellref25_drop.mono_l:∀ k,(∀ y0 y1 y2 y3,LeO (jobshellref25_drop.l0 k y0 y1 y2 y3) (jobshellref25_drop.l0 (k + 1) y0 y1 y2 y3))
 |0=>fun _ _ _ _ r h=>by simp [jobshellref25_drop.l0] at h
 |k + 1=>by
  have ih0:=jobshellref25_drop.mono_l k
  ·intro y0 y1 y2 y3
   unfold jobshellref25_drop.l0
   repeat' first
   |(with_reducible exact ih0 _ _ _ _)
   |(with_reducible exact LeO.refl _)
   |(with_reducible exact LeO.none _)
   |(with_reducible refine LeO.ite ?_ ?_)
   |(with_reducible refine LeO.bind ?_ (fun _=>?_))
   |exact ih0 _ _ _ _
   |exact LeO.none _
   |refine LeO.ite ?_ ?_
   |refine LeO.bind ?_ (fun _=>?_)
theorem jobshellref25_drop.mono:∀ a0 a1 k,LeO (jobshellref25_drop.f k a0 a1) (jobshellref25_drop.f (k + 1) a0 a1):=by
 intro a0 a1 k
 have ih0:=jobshellref25_drop.mono_l k
 unfold jobshellref25_drop.f
 repeat' first
   |(with_reducible exact ih0 _ _ _ _)
   |(with_reducible exact LeO.refl _)
   |(with_reducible exact LeO.none _)
   |(with_reducible refine LeO.ite ?_ ?_)
   |(with_reducible refine LeO.bind ?_ (fun _=>?_))
   |exact ih0 _ _ _ _
   |exact LeO.none _
   |refine LeO.ite ?_ ?_
   |refine LeO.bind ?_ (fun _=>?_)
set_option maxHeartbeats 8000000 in
set_option maxRecDepth 10000000 in
theorem jobshellref25_drop.calls (k:Nat) (A0:Option Addr) (c0:Nat) (l0:List Int) (a1:Int) (r:List Int) (w:World) (hr0:Kd.C (Kd.int .i64) w A0 l0.length l0) (hc0:l0.length≤c0) (h:jobshellref25_drop.f k l0 a1=some r) :
  Calls Tryd.prog 42 #[.slice A0 l0.length c0,.int .i64 a1] w fun e w'=>∃ v0_:Value,e=.returned (v0_)∧Kd.R (Kd.int .i64) 3 w' w.heap.size (fun _=>True) v0_ r∧Below w.heap.size w w':=by
 have HR0:=Zk hr0
 have HC0:=Zk hc0
 clear hr0 hc0
 have HB:=Zk (Below.refl w.heap.size w)
 have H:(jobshellref25_drop.l0 k l0 a1 ([]:List Int) 0)=some r:=h
 clear h
 have H':=Zk H
 clear H
 go_enter Tryd.func42,Tryd.ntmps42
 go_wp2
 go_loopg [5,6] k (fun kq v5 v6 w'=>∃ (x5_1:List Int) (x6_1:Int),v6=.int .i64 x6_1∧zR (jobshellref25_drop.l0 kq l0 a1 x5_1 x6_1=some r)∧zR (kq≤k)∧zR (Kd.R (Kd.int .i64) 3 w' w.heap.size (fun _=>True) v5 x5_1)∧zR (Below w.heap.size w w'))
 case atStart=>exact ⟨(([]:List Int)),(0),(by first|rfl|(simp;done)|(simp [*];done)|(generalize ByteArray.toList _=l_;cases l_ <;> rfl)),H',⟨Nat.le_refl _⟩,⟨by first|exact R_nil _ _ _ _ _|exact Kd.N_nil _ _ _ _ _|exact V_nil _ _ _ _ _|exact Kd.Q_nil _ _ _ _ _|exact Kd.S_nil _ _ _ _ _⟩,⟨by repeat (first|(with_reducible first|exact HB.out|apply zG|apply zD|apply zH)|exact HB.out)⟩⟩
 case round=>
  clear H'
  try clear p2
  obtain ⟨x5_1,x6_1,rfl,HA,HK1,HO_5,HB⟩:=hrel
  cases gk with
  |zero=>exact absurd HA.out (by simp [jobshellref25_drop.l0])
  |succ k1=>
   have H:=HA.out
   clear HA
   simp only [jobshellref25_drop.l0] at H
   by_cases c3:x6_1 < (l0.length:Int)
   ·rw [if_pos c3] at H
    have c3b0:decide (x6_1 < (l0.length:Int))=true:=decide_eq_true c3
    clear c3
    by_cases c4:0≤x6_1
    ·rw [if_pos c4] at H
     have c4b0:decide (0≤x6_1)=true:=decide_eq_true c4
     clear c4
     by_cases c5:(rd l0 x6_1)=a1
     ·rw [if_pos c5] at H
      have c5b0:((rd l0 x6_1) == a1)=true:=beq_iff_eq.mpr c5
      have c5b1:((rd l0 x6_1) != a1)=false:=bne_eq_false_iff_eq.mpr c5
      clear c5
      have H':=Zk H
      clear H
      have p286:0≤(x6_1:Int):=of_decide_eq_true (by first|(with_reducible assumption)|assumption)
      have q286:x6_1 < (l0.length:Int):=of_decide_eq_true (by first|(with_reducible assumption)|assumption)
      obtain ⟨ad286,e286,hx286_0⟩:=Kd.at_int HR0.out x6_1 p286 q286
      cases e286
      replace hx286_0:=(HB.out.cell (World.block_lt_of_cell? w _ hx286_0)).trans hx286_0
      replace p286:=eq_true p286
      replace q286:=eq_true q286
      go_wp2
      go_roundg k1
      case measure=>have:=HK1.out;omega
      case rel=>exact ⟨(x5_1),(wrap64 (x6_1 + 1)),(by first|rfl|(simp;done)|(simp [*];done)|(generalize ByteArray.toList _=l_;cases l_ <;> rfl)),H',⟨by have:=HK1.out;omega⟩,⟨by (with_reducible repeat (first|apply zP|apply zO|apply zQ));exact HO_5.out⟩,⟨by repeat (first|(with_reducible first|exact HB.out|apply zG|apply zD|apply zH)|exact HB.out)⟩⟩
     ·rw [if_neg c5] at H
      have c5b0:((rd l0 x6_1) == a1)=false:=beq_eq_false_iff_ne.mpr c5
      have c5b1:((rd l0 x6_1) != a1)=true:=bne_iff_ne.mpr c5
      by_cases c6:x5_1.length < 17592186044416
      ·rw [if_pos c6] at H
       have LMc6:=Zk c6
       clear c6
       obtain ⟨y288,hy288⟩:∃ y_:List Int,y_=(x5_1 ++ [rd l0 x6_1]):=⟨_,rfl⟩
       replace H:(jobshellref25_drop.l0 k1 l0 a1 y288 (wrap64 (x6_1 + 1)))=some r:=by first|(rw [hy288];with_reducible exact H)|(have H2_:=(Option.bind_some _ _).symm.trans H;rw [hy288];with_reducible exact H2_)|(have H2_:=(Option.bind_some _ _).symm.trans H;with_reducible exact H2_)|with_reducible exact H|(rw [hy288];exact H)|exact H
       have Ny288:=Zk hy288
       clear hy288
       have H':=Zk H
       clear H
       have p286:0≤(x6_1:Int):=of_decide_eq_true (by first|(with_reducible assumption)|assumption)
       have q286:x6_1 < (l0.length:Int):=of_decide_eq_true (by first|(with_reducible assumption)|assumption)
       obtain ⟨ad286,e286,hx286_0⟩:=Kd.at_int HR0.out x6_1 p286 q286
       cases e286
       replace hx286_0:=(HB.out.cell (World.block_lt_of_cell? w _ hx286_0)).trans hx286_0
       replace p286:=eq_true p286
       replace q286:=eq_true q286
       have p287:0≤(x6_1:Int):=of_decide_eq_true (by first|(with_reducible assumption)|assumption)
       have q287:x6_1 < (l0.length:Int):=of_decide_eq_true (by first|(with_reducible assumption)|assumption)
       obtain ⟨ad287,e287,hx287_0⟩:=Kd.at_int HR0.out x6_1 p287 q287
       obtain rfl:ad286=ad287:=(by injection e287)
       replace hx287_0:=(HB.out.cell (World.block_lt_of_cell? w _ hx287_0)).trans hx287_0
       replace p287:=eq_true p287
       replace q287:=eq_true q287
       go_wp2_with (first|((with_reducible refine gate_builtin (b:=.append) (xs:=#[.tmp 19,.tmp 24]) rfl ?_);at_builtin;refine R_append (Kd.int .i64) (w0:=w) w.heap.size rfl (.tmp 19) (.tmp 24) 28 3 (.int .i64 0) 8 rfl Tryd.underlying28 info3 rfl (by decide) (by omega) u5 x5_1 (rd l0 x6_1) [.int .i64 (rd l0 x6_1)] (fun _=>True) (fun _=>False) rfl rfl ?aP (fun _ hk=>hk.elim) ?aF ?aO ?aB ?aS ?aL ?_;(case aP=>exact rfl);(case aB=>exact (by repeat (first|(with_reducible first|exact HB.out|apply zG|apply zD|apply zH)|exact HB.out)));(case aF=>exact (fun _ _=>trivial));(case aO=>exact (by (with_reducible repeat (first|apply zP|apply zO|apply zQ));exact HO_5.out));(case aS=>exact (zT (by repeat (first|(with_reducible first|exact HB.out|apply zG|apply zD|apply zH)|exact HB.out))));(case aL=>have:=LMc6.out;omega);intro v289 w7 ho hb hg hat;rw [← Ny288.out] at ho;have n0_:=Zk (hb);have n1_:=Zk (ho);clear HB;clear HO_5;have HB:=n0_;have HO290:=n1_;clear n0_ n1_;clear ho hb hg hat))
       go_roundg k1
       case measure=>have:=HK1.out;omega
       case rel=>exact ⟨(y288),(wrap64 (x6_1 + 1)),(by first|rfl|(simp;done)|(simp [*];done)|(generalize ByteArray.toList _=l_;cases l_ <;> rfl)),H',⟨by have:=HK1.out;omega⟩,⟨by (with_reducible repeat (first|apply zP|apply zO|apply zQ));exact HO290.out⟩,⟨by repeat (first|(with_reducible first|exact HB.out|apply zG|apply zD|apply zH)|exact HB.out)⟩⟩
      ·rw [if_neg c6] at H
       exact absurd H (by simp)
    ·rw [if_neg c4] at H
     exact absurd H (by simp)
   ·rw [if_neg c3] at H
    have c3b0:decide (x6_1 < (l0.length:Int))=false:=decide_eq_false c3
    clear c3
    obtain rfl:=Option.some.inj H
    go_wp2
    go_ret
    exact ⟨_,by first|rfl|(simp [errW_none,errW_some] <;> rfl)|(simp [*,errW_none,errW_some] <;> rfl),by (with_reducible repeat (first|apply zP|apply zO|apply zQ));exact HO_5.out,by repeat (first|(with_reducible first|exact HB.out|apply zG|apply zD|apply zH)|exact HB.out)⟩
def jobshellref25_numbers.l0:Nat→List Int→List Int→Int→Option (Bool)
 |0,_,_,_=>none
 |k + 1,x0,x1,x5=>if x5 < (x0.length:Int) then (if 0≤x5 then (if x5 < (x1.length:Int) then (if (rd x0 x5)=(rd x1 x5) then (jobshellref25_numbers.l0 k x0 x1 (wrap64 (x5 + 1))) else (some false)) else (none)) else (none)) else (some true)
def jobshellref25_numbers.f (k:Nat) (l0:List Int) (l1:List Int):Option (Bool):=if (l0.length:Int)=(l1.length:Int) then (jobshellref25_numbers.l0 k l0 l1 0) else (some false)
theorem jobshellref25_numbers.mono_l:∀ k,(∀ y0 y1 y2,LeO (jobshellref25_numbers.l0 k y0 y1 y2) (jobshellref25_numbers.l0 (k + 1) y0 y1 y2))
 |0=>fun _ _ _ r h=>by simp [jobshellref25_numbers.l0] at h
 |k + 1=>by
  have ih0:=jobshellref25_numbers.mono_l k
  ·intro y0 y1 y2
   unfold jobshellref25_numbers.l0
   repeat' first
   |(with_reducible exact ih0 _ _ _)
   |(with_reducible exact LeO.refl _)
   |(with_reducible exact LeO.none _)
   |(with_reducible refine LeO.ite ?_ ?_)
   |(with_reducible refine LeO.bind ?_ (fun _=>?_))
   |exact ih0 _ _ _
   |exact LeO.none _
   |refine LeO.ite ?_ ?_
   |refine LeO.bind ?_ (fun _=>?_)
theorem jobshellref25_numbers.mono:∀ a0 a1 k,LeO (jobshellref25_numbers.f k a0 a1) (jobshellref25_numbers.f (k + 1) a0 a1):=by
 intro a0 a1 k
 have ih0:=jobshellref25_numbers.mono_l k
 unfold jobshellref25_numbers.f
 repeat' first
   |(with_reducible exact ih0 _ _ _)
   |(with_reducible exact LeO.refl _)
   |(with_reducible exact LeO.none _)
   |(with_reducible refine LeO.ite ?_ ?_)
   |(with_reducible refine LeO.bind ?_ (fun _=>?_))
   |exact ih0 _ _ _
   |exact LeO.none _
   |refine LeO.ite ?_ ?_
   |refine LeO.bind ?_ (fun _=>?_)
set_option maxHeartbeats 8000000 in
set_option maxRecDepth 10000000 in
theorem jobshellref25_numbers.calls (k:Nat) (A0:Option Addr) (c0:Nat) (l0:List Int) (A1:Option Addr) (c1:Nat) (l1:List Int) (r:Bool) (w:World) (hr0:Kd.C (Kd.int .i64) w A0 l0.length l0) (hc0:l0.length≤c0) (hr1:Kd.C (Kd.int .i64) w A1 l1.length l1) (hc1:l1.length≤c1) (h:jobshellref25_numbers.f k l0 l1=some r) :
  Calls Tryd.prog 43 #[.slice A0 l0.length c0,.slice A1 l1.length c1] w fun e w'=>e=.returned (.bool r)∧Drawn0 w w':=by
 have HR0:=Zk hr0
 have HC0:=Zk hc0
 clear hr0 hc0
 have HR1:=Zk hr1
 have HC1:=Zk hc1
 clear hr1 hc1
 have H:(if (l0.length:Int)=(l1.length:Int) then (jobshellref25_numbers.l0 k l0 l1 0) else (some false))=some r:=h
 clear h
 by_cases c3:(l0.length:Int)=(l1.length:Int)
 ·rw [if_pos c3] at H
  have c3b0:((l0.length:Int) == (l1.length:Int))=true:=beq_iff_eq.mpr c3
  have c3b1:((l0.length:Int) != (l1.length:Int))=false:=bne_eq_false_iff_eq.mpr c3
  have c3b2:(l0.length == l1.length)=true:=by first|simpa using c3|(simp at c3 ⊢;omega)
  clear c3
  have H':=Zk H
  clear H
  go_enter Tryd.func43,Tryd.ntmps43
  go_wp2
  repeat (go_quiet (fail);try go_wp2)
  go_loopg [5] k (fun kq v5 w'=>∃ (x5_1:Int),v5=.int .i64 x5_1∧zR (jobshellref25_numbers.l0 kq l0 l1 x5_1=some r)∧zR (kq≤k)∧Drawn0 w w')
  case atStart=>exact ⟨(0),(by first|rfl|(simp;done)|(simp [*];done)|(generalize ByteArray.toList _=l_;cases l_ <;> rfl)),H',⟨Nat.le_refl _⟩,by repeat (first|exact Drawn0.refl _|apply Drawn0.step)⟩
  case round=>
   clear H'
   try clear c1
   try clear p2
   try clear c3
   try clear c3b0
   try clear c3b1
   try clear c3b2
   obtain ⟨x5_1,rfl,HA,HK1,⟨m1,rfl⟩⟩:=hrel
   cases gk with
   |zero=>exact absurd HA.out (by simp [jobshellref25_numbers.l0])
   |succ k1=>
    have H:=HA.out
    clear HA
    simp only [jobshellref25_numbers.l0] at H
    by_cases c4:x5_1 < (l0.length:Int)
    ·rw [if_pos c4] at H
     have c4b0:decide (x5_1 < (l0.length:Int))=true:=decide_eq_true c4
     clear c4
     by_cases c5:0≤x5_1
     ·rw [if_pos c5] at H
      have c5b0:decide (0≤x5_1)=true:=decide_eq_true c5
      clear c5
      by_cases c6:x5_1 < (l1.length:Int)
      ·rw [if_pos c6] at H
       have c6b0:decide (x5_1 < (l1.length:Int))=true:=decide_eq_true c6
       clear c6
       by_cases c7:(rd l0 x5_1)=(rd l1 x5_1)
       ·rw [if_pos c7] at H
        have c7b0:((rd l0 x5_1) == (rd l1 x5_1))=true:=beq_iff_eq.mpr c7
        have c7b1:((rd l0 x5_1) != (rd l1 x5_1))=false:=bne_eq_false_iff_eq.mpr c7
        clear c7
        have H':=Zk H
        clear H
        have p300:0≤(x5_1:Int):=of_decide_eq_true (by first|(with_reducible assumption)|assumption)
        have q300:x5_1 < (l0.length:Int):=of_decide_eq_true (by first|(with_reducible assumption)|assumption)
        obtain ⟨ad300,e300,hx300_0⟩:=Kd.at_int HR0.out x5_1 p300 q300
        cases e300
        replace p300:=eq_true p300
        replace q300:=eq_true q300
        have p301:0≤(x5_1:Int):=of_decide_eq_true (by first|(with_reducible assumption)|assumption)
        have q301:x5_1 < (l1.length:Int):=of_decide_eq_true (by first|(with_reducible assumption)|assumption)
        obtain ⟨ad301,e301,hx301_0⟩:=Kd.at_int HR1.out x5_1 p301 q301
        cases e301
        replace p301:=eq_true p301
        replace q301:=eq_true q301
        go_wp2
        repeat (go_quiet (fail);try go_wp2)
        go_roundg k1
        case measure=>have:=HK1.out;omega
        case rel=>exact ⟨(wrap64 (x5_1 + 1)),(by first|rfl|(simp;done)|(simp [*];done)|(generalize ByteArray.toList _=l_;cases l_ <;> rfl)),H',⟨by have:=HK1.out;omega⟩,by repeat (first|exact Drawn0.refl _|apply Drawn0.step)⟩
       ·rw [if_neg c7] at H
        have c7b0:((rd l0 x5_1) == (rd l1 x5_1))=false:=beq_eq_false_iff_ne.mpr c7
        have c7b1:((rd l0 x5_1) != (rd l1 x5_1))=true:=bne_iff_ne.mpr c7
        obtain rfl:=Option.some.inj H
        have p300:0≤(x5_1:Int):=of_decide_eq_true (by first|(with_reducible assumption)|assumption)
        have q300:x5_1 < (l0.length:Int):=of_decide_eq_true (by first|(with_reducible assumption)|assumption)
        obtain ⟨ad300,e300,hx300_0⟩:=Kd.at_int HR0.out x5_1 p300 q300
        cases e300
        replace p300:=eq_true p300
        replace q300:=eq_true q300
        have p301:0≤(x5_1:Int):=of_decide_eq_true (by first|(with_reducible assumption)|assumption)
        have q301:x5_1 < (l1.length:Int):=of_decide_eq_true (by first|(with_reducible assumption)|assumption)
        obtain ⟨ad301,e301,hx301_0⟩:=Kd.at_int HR1.out x5_1 p301 q301
        cases e301
        replace p301:=eq_true p301
        replace q301:=eq_true q301
        go_wp2
        repeat (go_quiet (fail);try go_wp2)
        go_ret
        exact ⟨by first|rfl|(simp;done)|(simp [*];done),by repeat (first|exact Drawn0.refl _|apply Drawn0.step)⟩
      ·rw [if_neg c6] at H
       exact absurd H (by simp)
     ·rw [if_neg c5] at H
      exact absurd H (by simp)
    ·rw [if_neg c4] at H
     have c4b0:decide (x5_1 < (l0.length:Int))=false:=decide_eq_false c4
     clear c4
     obtain rfl:=Option.some.inj H
     go_wp2
     repeat (go_quiet (fail);try go_wp2)
     go_ret
     exact ⟨by first|rfl|(simp;done)|(simp [*];done),by repeat (first|exact Drawn0.refl _|apply Drawn0.step)⟩
 ·rw [if_neg c3] at H
  have c3b0:((l0.length:Int) == (l1.length:Int))=false:=beq_eq_false_iff_ne.mpr c3
  have c3b1:((l0.length:Int) != (l1.length:Int))=true:=bne_iff_ne.mpr c3
  have c3b2:(l0.length == l1.length)=false:=by first|simpa using c3|(simp at c3 ⊢;omega)
  obtain rfl:=Option.some.inj H
  go_enter Tryd.func43,Tryd.ntmps43
  go_wp2
  repeat (go_quiet (fail);try go_wp2)
  go_ret
  exact ⟨by first|rfl|(simp;done)|(simp [*];done),by repeat (first|exact Drawn0.refl _|apply Drawn0.step)⟩
end Go.Proofs.YtnkkdpjipfjdaaaDoor.Q
end
section

namespace Go.Proofs.YtnkkdpjipfjdaaaDoor.Q
open Go.RowKit Go.Proofs.YtnkkdpjipfjdaaaDoorW.PrintWords Go.Proofs.YtnkkdpjipfjdaaaDoorW.PrintLast Go.Proofs.YtnkkdpjipfjdaaaDoorW.PrintMore Go.Proofs.YtnkkdpjipfjdaaaDoorM
open Kd
attribute [local go_sem] max2_int min2_int max_two min_two max_three min_three max_four min_four
set_option linter.unusedVariables false
set_option linter.unusedSimpArgs false
def jobshellref25_Same.f (k:Nat) (l0_0:List Int) (l0_1:List Int) (l0_2:List Int) (l1_0:List Int) (l1_1:List Int) (l1_2:List Int):Option (Bool):=(jobshellref25_numbers.f k l0_0 l1_0).bind fun t304=>(if t304=true then ((jobshellref25_numbers.f k l0_1 l1_1).bind fun t305=>(if t305=true then ((jobshellref25_numbers.f k l0_2 l1_2).bind fun t306=>(some t306)) else (some false))) else (some false))
theorem jobshellref25_Same.mono:∀ a0 a1 a2 a3 a4 a5 k,LeO (jobshellref25_Same.f k a0 a1 a2 a3 a4 a5) (jobshellref25_Same.f (k + 1) a0 a1 a2 a3 a4 a5):=by
 intro a0 a1 a2 a3 a4 a5 k
 unfold jobshellref25_Same.f
 repeat' first
   |(with_reducible exact jobshellref25_numbers.mono _ _ _)
   |(with_reducible exact LeO.refl _)
   |(with_reducible exact LeO.none _)
   |(with_reducible refine LeO.ite ?_ ?_)
   |(with_reducible refine LeO.bind ?_ (fun _=>?_))
   |exact jobshellref25_numbers.mono _ _ _
   |exact LeO.none _
   |refine LeO.ite ?_ ?_
   |refine LeO.bind ?_ (fun _=>?_)
set_option maxHeartbeats 8000000 in
set_option maxRecDepth 10000000 in
theorem jobshellref25_Same.calls (k:Nat) (A0_0:Option Addr) (c0_0:Nat) (l0_0:List Int) (A0_1:Option Addr) (c0_1:Nat) (l0_1:List Int) (A0_2:Option Addr) (c0_2:Nat) (l0_2:List Int) (A1_0:Option Addr) (c1_0:Nat) (l1_0:List Int) (A1_1:Option Addr) (c1_1:Nat) (l1_1:List Int) (A1_2:Option Addr) (c1_2:Nat) (l1_2:List Int) (r:Bool) (w:World) (hr0_0:Kd.C (Kd.int .i64) w A0_0 l0_0.length l0_0) (hc0_0:l0_0.length≤c0_0) (hr0_1:Kd.C (Kd.int .i64) w A0_1 l0_1.length l0_1) (hc0_1:l0_1.length≤c0_1) (hr0_2:Kd.C (Kd.int .i64) w A0_2 l0_2.length l0_2) (hc0_2:l0_2.length≤c0_2) (hr1_0:Kd.C (Kd.int .i64) w A1_0 l1_0.length l1_0) (hc1_0:l1_0.length≤c1_0) (hr1_1:Kd.C (Kd.int .i64) w A1_1 l1_1.length l1_1) (hc1_1:l1_1.length≤c1_1) (hr1_2:Kd.C (Kd.int .i64) w A1_2 l1_2.length l1_2) (hc1_2:l1_2.length≤c1_2) (h:jobshellref25_Same.f k l0_0 l0_1 l0_2 l1_0 l1_1 l1_2=some r) :
  Calls Tryd.prog 21 #[.agg #[.slice A0_0 l0_0.length c0_0,.slice A0_1 l0_1.length c0_1,.slice A0_2 l0_2.length c0_2],.agg #[.slice A1_0 l1_0.length c1_0,.slice A1_1 l1_1.length c1_1,.slice A1_2 l1_2.length c1_2]] w fun e w'=>e=.returned (.bool r)∧Below w.heap.size w w':=by
 have hu30:=Tryd.underlying30
 have HR0_0:=Zk hr0_0
 have HC0_0:=Zk hc0_0
 clear hr0_0 hc0_0
 have HR0_1:=Zk hr0_1
 have HC0_1:=Zk hc0_1
 clear hr0_1 hc0_1
 have HR0_2:=Zk hr0_2
 have HC0_2:=Zk hc0_2
 clear hr0_2 hc0_2
 have HR1_0:=Zk hr1_0
 have HC1_0:=Zk hc1_0
 clear hr1_0 hc1_0
 have HR1_1:=Zk hr1_1
 have HC1_1:=Zk hc1_1
 clear hr1_1 hc1_1
 have HR1_2:=Zk hr1_2
 have HC1_2:=Zk hc1_2
 clear hr1_2 hc1_2
 have HB:=Zk (Below.refl w.heap.size w)
 have H:((jobshellref25_numbers.f k l0_0 l1_0).bind fun t304=>(if t304=true then ((jobshellref25_numbers.f k l0_1 l1_1).bind fun t305=>(if t305=true then ((jobshellref25_numbers.f k l0_2 l1_2).bind fun t306=>(some t306)) else (some false))) else (some false)))=some r:=h
 clear h
 replace H:=Option.bind_eq_some_iff.mp H
 obtain ⟨t304,A30,H⟩:=H
 replace H:(if t304=true then ((jobshellref25_numbers.f k l0_1 l1_1).bind fun t305=>(if t305=true then ((jobshellref25_numbers.f k l0_2 l1_2).bind fun t306=>(some t306)) else (some false))) else (some false))=some r:=H
 have A3:=Zk A30
 clear A30
 by_cases c4:t304=true
 ·subst c4
  have H1:((jobshellref25_numbers.f k l0_1 l1_1).bind fun t305=>(if t305=true then ((jobshellref25_numbers.f k l0_2 l1_2).bind fun t306=>(some t306)) else (some false)))=some r:=by rw [if_pos rfl] at H;exact H
  clear H
  have H:=H1
  clear H1
  replace H:=Option.bind_eq_some_iff.mp H
  obtain ⟨t305,A50,H⟩:=H
  replace H:(if t305=true then ((jobshellref25_numbers.f k l0_2 l1_2).bind fun t306=>(some t306)) else (some false))=some r:=H
  have A5:=Zk A50
  clear A50
  by_cases c6:t305=true
  ·subst c6
   have H1:((jobshellref25_numbers.f k l0_2 l1_2).bind fun t306=>(some t306))=some r:=by rw [if_pos rfl] at H;exact H
   clear H
   have H:=H1
   clear H1
   replace H:=Option.bind_eq_some_iff.mp H
   obtain ⟨t306,A70,H⟩:=H
   replace H:(some t306)=some r:=H
   have A7:=Zk A70
   clear A70
   obtain rfl:=Option.some.inj H
   go_enter Tryd.func21,Tryd.ntmps21
   go_wp2_with (first|((with_reducible refine yX (N:=2) rfl ?_);refine yY ?hg (N:=2) ?hd (cs:=#[.slice A0_0 l0_0.length c0_0,.slice A0_1 l0_1.length c0_1,.slice A0_2 l0_2.length c0_2]) (t:=30) ?hr ?_;(case hd=>rfl);(case hg=>rfl);(case hr=>first|(go_simp;done)|(go_simp;rfl));intro gb302 hg w8 hbox hb;have n0_:=Zk (yB (by repeat (first|(with_reducible first|exact HB.out|apply zG|apply zD|apply zH)|exact HB.out)) hb);have n1_:=Zk (hbox);have n2_:=Zk ((by rw [hg];exact (zT (by repeat (first|(with_reducible first|exact HB.out|apply zG|apply zD|apply zH)|exact HB.out))):w.heap.size≤gb302));have n3_:=Zk ((by rw [hg];exact (zT (by repeat (first|(with_reducible first|exact HB.out|apply zG|apply zD|apply zH)|exact HB.out))):w.heap.size≤gb302));clear HB;have HB:=n0_;have BK302:=n1_;have GW302:=n2_;have GE302:=n3_;clear n0_ n1_ n2_ n3_;clear hb hbox hg)|((with_reducible refine yX (N:=3) rfl ?_);refine yY ?hg (N:=3) ?hd (cs:=#[.slice A1_0 l1_0.length c1_0,.slice A1_1 l1_1.length c1_1,.slice A1_2 l1_2.length c1_2]) (t:=30) ?hr ?_;(case hd=>rfl);(case hg=>rfl);(case hr=>first|(go_simp;done)|(go_simp;rfl));intro gb303 hg w9 hbox hb;have n0_:=Zk (zX (g:=gb302) (o:=.cells #[.slice A0_0 l0_0.length c0_0,.slice A0_1 l0_1.length c0_1,.slice A0_2 l0_2.length c0_2] 30 (0,0)) (by (with_reducible repeat (first|refine zC ?_ _|refine zF ?_|refine zB ?_ _));exact BK302.out) hb);have n1_:=Zk (yB (by repeat (first|(with_reducible first|exact HB.out|apply zG|apply zD|apply zH|refine zA ?_ GE302.out)|exact HB.out)) hb);have n2_:=Zk (hbox);have n3_:=Zk ((by rw [hg];exact (zT (by repeat (first|(with_reducible first|exact HB.out|apply zG|apply zD|apply zH|refine zA ?_ GE302.out)|exact HB.out))):w.heap.size≤gb303));have n4_:=Zk ((by rw [hg];exact (zT (by repeat (first|(with_reducible first|exact HB.out|apply zG|apply zD|apply zH|refine zA ?_ GE302.out)|exact HB.out))):w.heap.size≤gb303));have n5_:=Zk ((by rw [hg];exact Nat.ne_of_lt (xB (g:=gb302) (o:=.cells #[.slice A0_0 l0_0.length c0_0,.slice A0_1 l0_1.length c0_1,.slice A0_2 l0_2.length c0_2] 30 (0,0)) (by (with_reducible repeat (first|refine zC ?_ _|refine zF ?_|refine zB ?_ _));exact BK302.out)):gb302≠gb303));have n6_:=Zk ((by rw [hg];exact Nat.ne_of_gt (xB (g:=gb302) (o:=.cells #[.slice A0_0 l0_0.length c0_0,.slice A0_1 l0_1.length c0_1,.slice A0_2 l0_2.length c0_2] 30 (0,0)) (by (with_reducible repeat (first|refine zC ?_ _|refine zF ?_|refine zB ?_ _));exact BK302.out)):gb303≠gb302));clear BK302;clear HB;have BK302:=n0_;have HB:=n1_;have BK303:=n2_;have GW303:=n3_;have GE303:=n4_;have NB302_303:=n5_;have NB303_302:=n6_;clear n0_ n1_ n2_ n3_ n4_ n5_ n6_;clear hb hbox hg;have hnb10:=NB302_303.out;have hnc10:=NB303_302.out;have hcz11_0:w9.cell? ⟨gb302,0,none⟩=some (.slice A0_0 l0_0.length c0_0):=(zI BK302.out 0).trans rfl;have hcz11_1:w9.cell? ⟨gb302,1,none⟩=some (.slice A0_1 l0_1.length c0_1):=(zI BK302.out 1).trans rfl;have hcz11_2:w9.cell? ⟨gb302,2,none⟩=some (.slice A0_2 l0_2.length c0_2):=(zI BK302.out 2).trans rfl;have hfz11_0:=zJ BK302.out 0;have hfz11_1:=zJ BK302.out 1;have hfz11_2:=zJ BK302.out 2;have hcz12_0:w9.cell? ⟨gb303,0,none⟩=some (.slice A1_0 l1_0.length c1_0):=(zI BK303.out 0).trans rfl;have hcz12_1:w9.cell? ⟨gb303,1,none⟩=some (.slice A1_1 l1_1.length c1_1):=(zI BK303.out 1).trans rfl;have hcz12_2:w9.cell? ⟨gb303,2,none⟩=some (.slice A1_2 l1_2.length c1_2):=(zI BK303.out 2).trans rfl;have hfz12_0:=zJ BK303.out 0;have hfz12_1:=zJ BK303.out 1;have hfz12_2:=zJ BK303.out 2)|((with_reducible refine yE (f:=43) rfl ?_);refine yN (some 9) rfl rfl Tryd.func43 (by kernel_rfl) rfl #[.slice A0_0 l0_0.length c0_0,.slice A1_0 l1_0.length c1_0] rfl (by (try simp only [List.map_toArray,List.map_cons,List.map_nil]);first|done|rfl|(simp only [List.length_drop,List.length_take];rfl)) ?_;(with_reducible refine (jobshellref25_numbers.calls k _ _ l0_0 _ _ l1_0 true _ ?side1 ?side2 ?side3 ?side4 A3.out).mono ?_);(case side1=>repeat (first|exact (yT HR0_0.out HB.out)|(with_reducible refine yG ?_ _)|(with_reducible refine yF ?_ _)|(with_reducible refine yK ?_)));(case side2=>exact HC0_0.out);(case side3=>repeat (first|exact (yT HR1_0.out HB.out)|(with_reducible refine yG ?_ _)|(with_reducible refine yF ?_ _)|(with_reducible refine yK ?_)));(case side4=>exact HC1_0.out);rintro e w' ⟨rfl,⟨nd,rfl⟩⟩;refine ⟨_,rfl,?_⟩)|(go_at_call 43;(with_reducible refine (jobshellref25_numbers.calls k _ _ l0_1 _ _ l1_1 true _ ?side1 ?side2 ?side3 ?side4 A5.out).mono ?_);(case side1=>repeat (first|exact (yT HR0_1.out (by repeat (first|(with_reducible first|exact HB.out|apply zG|apply zD|apply zH|refine zA ?_ GE302.out|refine zA ?_ GE303.out)|exact HB.out)))|(with_reducible refine yG ?_ _)|(with_reducible refine yF ?_ _)|(with_reducible refine yK ?_)));(case side2=>exact HC0_1.out);(case side3=>repeat (first|exact (yT HR1_1.out (by repeat (first|(with_reducible first|exact HB.out|apply zG|apply zD|apply zH|refine zA ?_ GE302.out|refine zA ?_ GE303.out)|exact HB.out)))|(with_reducible refine yG ?_ _)|(with_reducible refine yF ?_ _)|(with_reducible refine yK ?_)));(case side4=>exact HC1_1.out);rintro e w' ⟨rfl,⟨nd,rfl⟩⟩)|(go_at_call 43;(with_reducible refine (jobshellref25_numbers.calls k _ _ l0_2 _ _ l1_2 t306 _ ?side1 ?side2 ?side3 ?side4 A7.out).mono ?_);(case side1=>repeat (first|exact (yT HR0_2.out (by repeat (first|(with_reducible first|exact HB.out|apply zG|apply zD|apply zH|refine zA ?_ GE302.out|refine zA ?_ GE303.out)|exact HB.out)))|(with_reducible refine yG ?_ _)|(with_reducible refine yF ?_ _)|(with_reducible refine yK ?_)));(case side2=>exact HC0_2.out);(case side3=>repeat (first|exact (yT HR1_2.out (by repeat (first|(with_reducible first|exact HB.out|apply zG|apply zD|apply zH|refine zA ?_ GE302.out|refine zA ?_ GE303.out)|exact HB.out)))|(with_reducible refine yG ?_ _)|(with_reducible refine yF ?_ _)|(with_reducible refine yK ?_)));(case side4=>exact HC1_2.out);rintro e w' ⟨rfl,⟨nd,rfl⟩⟩))
   go_ret
   exact ⟨by first|rfl|(simp [errW_none,errW_some] <;> rfl)|(simp [*,errW_none,errW_some] <;> rfl),by repeat (first|(with_reducible first|exact HB.out|apply zG|apply zD|apply zH|refine zA ?_ GE302.out|refine zA ?_ GE303.out)|exact HB.out)⟩
  ·replace c6:=Bool.eq_false_iff.mpr c6
   subst c6
   have H1:(some false)=some r:=by rw [if_neg (show ¬ (false=true) by decide)] at H;exact H
   clear H
   have H:=H1
   clear H1
   obtain rfl:=Option.some.inj H
   go_enter Tryd.func21,Tryd.ntmps21
   go_wp2_with (first|((with_reducible refine yX (N:=2) rfl ?_);refine yY ?hg (N:=2) ?hd (cs:=#[.slice A0_0 l0_0.length c0_0,.slice A0_1 l0_1.length c0_1,.slice A0_2 l0_2.length c0_2]) (t:=30) ?hr ?_;(case hd=>rfl);(case hg=>rfl);(case hr=>first|(go_simp;done)|(go_simp;rfl));intro gb302 hg w13 hbox hb;have n0_:=Zk (yB (by repeat (first|(with_reducible first|exact HB.out|apply zG|apply zD|apply zH)|exact HB.out)) hb);have n1_:=Zk (hbox);have n2_:=Zk ((by rw [hg];exact (zT (by repeat (first|(with_reducible first|exact HB.out|apply zG|apply zD|apply zH)|exact HB.out))):w.heap.size≤gb302));have n3_:=Zk ((by rw [hg];exact (zT (by repeat (first|(with_reducible first|exact HB.out|apply zG|apply zD|apply zH)|exact HB.out))):w.heap.size≤gb302));clear HB;have HB:=n0_;have BK302:=n1_;have GW302:=n2_;have GE302:=n3_;clear n0_ n1_ n2_ n3_;clear hb hbox hg)|((with_reducible refine yX (N:=3) rfl ?_);refine yY ?hg (N:=3) ?hd (cs:=#[.slice A1_0 l1_0.length c1_0,.slice A1_1 l1_1.length c1_1,.slice A1_2 l1_2.length c1_2]) (t:=30) ?hr ?_;(case hd=>rfl);(case hg=>rfl);(case hr=>first|(go_simp;done)|(go_simp;rfl));intro gb303 hg w14 hbox hb;have n0_:=Zk (zX (g:=gb302) (o:=.cells #[.slice A0_0 l0_0.length c0_0,.slice A0_1 l0_1.length c0_1,.slice A0_2 l0_2.length c0_2] 30 (0,0)) (by (with_reducible repeat (first|refine zC ?_ _|refine zF ?_|refine zB ?_ _));exact BK302.out) hb);have n1_:=Zk (yB (by repeat (first|(with_reducible first|exact HB.out|apply zG|apply zD|apply zH|refine zA ?_ GE302.out)|exact HB.out)) hb);have n2_:=Zk (hbox);have n3_:=Zk ((by rw [hg];exact (zT (by repeat (first|(with_reducible first|exact HB.out|apply zG|apply zD|apply zH|refine zA ?_ GE302.out)|exact HB.out))):w.heap.size≤gb303));have n4_:=Zk ((by rw [hg];exact (zT (by repeat (first|(with_reducible first|exact HB.out|apply zG|apply zD|apply zH|refine zA ?_ GE302.out)|exact HB.out))):w.heap.size≤gb303));have n5_:=Zk ((by rw [hg];exact Nat.ne_of_lt (xB (g:=gb302) (o:=.cells #[.slice A0_0 l0_0.length c0_0,.slice A0_1 l0_1.length c0_1,.slice A0_2 l0_2.length c0_2] 30 (0,0)) (by (with_reducible repeat (first|refine zC ?_ _|refine zF ?_|refine zB ?_ _));exact BK302.out)):gb302≠gb303));have n6_:=Zk ((by rw [hg];exact Nat.ne_of_gt (xB (g:=gb302) (o:=.cells #[.slice A0_0 l0_0.length c0_0,.slice A0_1 l0_1.length c0_1,.slice A0_2 l0_2.length c0_2] 30 (0,0)) (by (with_reducible repeat (first|refine zC ?_ _|refine zF ?_|refine zB ?_ _));exact BK302.out)):gb303≠gb302));clear BK302;clear HB;have BK302:=n0_;have HB:=n1_;have BK303:=n2_;have GW303:=n3_;have GE303:=n4_;have NB302_303:=n5_;have NB303_302:=n6_;clear n0_ n1_ n2_ n3_ n4_ n5_ n6_;clear hb hbox hg;have hnb15:=NB302_303.out;have hnc15:=NB303_302.out;have hcz16_0:w14.cell? ⟨gb302,0,none⟩=some (.slice A0_0 l0_0.length c0_0):=(zI BK302.out 0).trans rfl;have hcz16_1:w14.cell? ⟨gb302,1,none⟩=some (.slice A0_1 l0_1.length c0_1):=(zI BK302.out 1).trans rfl;have hcz16_2:w14.cell? ⟨gb302,2,none⟩=some (.slice A0_2 l0_2.length c0_2):=(zI BK302.out 2).trans rfl;have hfz16_0:=zJ BK302.out 0;have hfz16_1:=zJ BK302.out 1;have hfz16_2:=zJ BK302.out 2;have hcz17_0:w14.cell? ⟨gb303,0,none⟩=some (.slice A1_0 l1_0.length c1_0):=(zI BK303.out 0).trans rfl;have hcz17_1:w14.cell? ⟨gb303,1,none⟩=some (.slice A1_1 l1_1.length c1_1):=(zI BK303.out 1).trans rfl;have hcz17_2:w14.cell? ⟨gb303,2,none⟩=some (.slice A1_2 l1_2.length c1_2):=(zI BK303.out 2).trans rfl;have hfz17_0:=zJ BK303.out 0;have hfz17_1:=zJ BK303.out 1;have hfz17_2:=zJ BK303.out 2)|((with_reducible refine yE (f:=43) rfl ?_);refine yN (some 9) rfl rfl Tryd.func43 (by kernel_rfl) rfl #[.slice A0_0 l0_0.length c0_0,.slice A1_0 l1_0.length c1_0] rfl (by (try simp only [List.map_toArray,List.map_cons,List.map_nil]);first|done|rfl|(simp only [List.length_drop,List.length_take];rfl)) ?_;(with_reducible refine (jobshellref25_numbers.calls k _ _ l0_0 _ _ l1_0 true _ ?side1 ?side2 ?side3 ?side4 A3.out).mono ?_);(case side1=>repeat (first|exact (yT HR0_0.out HB.out)|(with_reducible refine yG ?_ _)|(with_reducible refine yF ?_ _)|(with_reducible refine yK ?_)));(case side2=>exact HC0_0.out);(case side3=>repeat (first|exact (yT HR1_0.out HB.out)|(with_reducible refine yG ?_ _)|(with_reducible refine yF ?_ _)|(with_reducible refine yK ?_)));(case side4=>exact HC1_0.out);rintro e w' ⟨rfl,⟨nd,rfl⟩⟩;refine ⟨_,rfl,?_⟩)|(go_at_call 43;(with_reducible refine (jobshellref25_numbers.calls k _ _ l0_1 _ _ l1_1 false _ ?side1 ?side2 ?side3 ?side4 A5.out).mono ?_);(case side1=>repeat (first|exact (yT HR0_1.out (by repeat (first|(with_reducible first|exact HB.out|apply zG|apply zD|apply zH|refine zA ?_ GE302.out|refine zA ?_ GE303.out)|exact HB.out)))|(with_reducible refine yG ?_ _)|(with_reducible refine yF ?_ _)|(with_reducible refine yK ?_)));(case side2=>exact HC0_1.out);(case side3=>repeat (first|exact (yT HR1_1.out (by repeat (first|(with_reducible first|exact HB.out|apply zG|apply zD|apply zH|refine zA ?_ GE302.out|refine zA ?_ GE303.out)|exact HB.out)))|(with_reducible refine yG ?_ _)|(with_reducible refine yF ?_ _)|(with_reducible refine yK ?_)));(case side4=>exact HC1_1.out);rintro e w' ⟨rfl,⟨nd,rfl⟩⟩))
   go_ret
   exact ⟨by first|rfl|(simp [errW_none,errW_some] <;> rfl)|(simp [*,errW_none,errW_some] <;> rfl),by repeat (first|(with_reducible first|exact HB.out|apply zG|apply zD|apply zH|refine zA ?_ GE302.out|refine zA ?_ GE303.out)|exact HB.out)⟩
 ·replace c4:=Bool.eq_false_iff.mpr c4
  subst c4
  have H1:(some false)=some r:=by rw [if_neg (show ¬ (false=true) by decide)] at H;exact H
  clear H
  have H:=H1
  clear H1
  obtain rfl:=Option.some.inj H
  go_enter Tryd.func21,Tryd.ntmps21
  go_wp2_with (first|((with_reducible refine yX (N:=2) rfl ?_);refine yY ?hg (N:=2) ?hd (cs:=#[.slice A0_0 l0_0.length c0_0,.slice A0_1 l0_1.length c0_1,.slice A0_2 l0_2.length c0_2]) (t:=30) ?hr ?_;(case hd=>rfl);(case hg=>rfl);(case hr=>first|(go_simp;done)|(go_simp;rfl));intro gb302 hg w18 hbox hb;have n0_:=Zk (yB (by repeat (first|(with_reducible first|exact HB.out|apply zG|apply zD|apply zH)|exact HB.out)) hb);have n1_:=Zk (hbox);have n2_:=Zk ((by rw [hg];exact (zT (by repeat (first|(with_reducible first|exact HB.out|apply zG|apply zD|apply zH)|exact HB.out))):w.heap.size≤gb302));have n3_:=Zk ((by rw [hg];exact (zT (by repeat (first|(with_reducible first|exact HB.out|apply zG|apply zD|apply zH)|exact HB.out))):w.heap.size≤gb302));clear HB;have HB:=n0_;have BK302:=n1_;have GW302:=n2_;have GE302:=n3_;clear n0_ n1_ n2_ n3_;clear hb hbox hg)|((with_reducible refine yX (N:=3) rfl ?_);refine yY ?hg (N:=3) ?hd (cs:=#[.slice A1_0 l1_0.length c1_0,.slice A1_1 l1_1.length c1_1,.slice A1_2 l1_2.length c1_2]) (t:=30) ?hr ?_;(case hd=>rfl);(case hg=>rfl);(case hr=>first|(go_simp;done)|(go_simp;rfl));intro gb303 hg w19 hbox hb;have n0_:=Zk (zX (g:=gb302) (o:=.cells #[.slice A0_0 l0_0.length c0_0,.slice A0_1 l0_1.length c0_1,.slice A0_2 l0_2.length c0_2] 30 (0,0)) (by (with_reducible repeat (first|refine zC ?_ _|refine zF ?_|refine zB ?_ _));exact BK302.out) hb);have n1_:=Zk (yB (by repeat (first|(with_reducible first|exact HB.out|apply zG|apply zD|apply zH|refine zA ?_ GE302.out)|exact HB.out)) hb);have n2_:=Zk (hbox);have n3_:=Zk ((by rw [hg];exact (zT (by repeat (first|(with_reducible first|exact HB.out|apply zG|apply zD|apply zH|refine zA ?_ GE302.out)|exact HB.out))):w.heap.size≤gb303));have n4_:=Zk ((by rw [hg];exact (zT (by repeat (first|(with_reducible first|exact HB.out|apply zG|apply zD|apply zH|refine zA ?_ GE302.out)|exact HB.out))):w.heap.size≤gb303));have n5_:=Zk ((by rw [hg];exact Nat.ne_of_lt (xB (g:=gb302) (o:=.cells #[.slice A0_0 l0_0.length c0_0,.slice A0_1 l0_1.length c0_1,.slice A0_2 l0_2.length c0_2] 30 (0,0)) (by (with_reducible repeat (first|refine zC ?_ _|refine zF ?_|refine zB ?_ _));exact BK302.out)):gb302≠gb303));have n6_:=Zk ((by rw [hg];exact Nat.ne_of_gt (xB (g:=gb302) (o:=.cells #[.slice A0_0 l0_0.length c0_0,.slice A0_1 l0_1.length c0_1,.slice A0_2 l0_2.length c0_2] 30 (0,0)) (by (with_reducible repeat (first|refine zC ?_ _|refine zF ?_|refine zB ?_ _));exact BK302.out)):gb303≠gb302));clear BK302;clear HB;have BK302:=n0_;have HB:=n1_;have BK303:=n2_;have GW303:=n3_;have GE303:=n4_;have NB302_303:=n5_;have NB303_302:=n6_;clear n0_ n1_ n2_ n3_ n4_ n5_ n6_;clear hb hbox hg;have hnb20:=NB302_303.out;have hnc20:=NB303_302.out;have hcz21_0:w19.cell? ⟨gb302,0,none⟩=some (.slice A0_0 l0_0.length c0_0):=(zI BK302.out 0).trans rfl;have hcz21_1:w19.cell? ⟨gb302,1,none⟩=some (.slice A0_1 l0_1.length c0_1):=(zI BK302.out 1).trans rfl;have hcz21_2:w19.cell? ⟨gb302,2,none⟩=some (.slice A0_2 l0_2.length c0_2):=(zI BK302.out 2).trans rfl;have hfz21_0:=zJ BK302.out 0;have hfz21_1:=zJ BK302.out 1;have hfz21_2:=zJ BK302.out 2;have hcz22_0:w19.cell? ⟨gb303,0,none⟩=some (.slice A1_0 l1_0.length c1_0):=(zI BK303.out 0).trans rfl;have hcz22_1:w19.cell? ⟨gb303,1,none⟩=some (.slice A1_1 l1_1.length c1_1):=(zI BK303.out 1).trans rfl;have hcz22_2:w19.cell? ⟨gb303,2,none⟩=some (.slice A1_2 l1_2.length c1_2):=(zI BK303.out 2).trans rfl;have hfz22_0:=zJ BK303.out 0;have hfz22_1:=zJ BK303.out 1;have hfz22_2:=zJ BK303.out 2)|((with_reducible refine yE (f:=43) rfl ?_);refine yN (some 9) rfl rfl Tryd.func43 (by kernel_rfl) rfl #[.slice A0_0 l0_0.length c0_0,.slice A1_0 l1_0.length c1_0] rfl (by (try simp only [List.map_toArray,List.map_cons,List.map_nil]);first|done|rfl|(simp only [List.length_drop,List.length_take];rfl)) ?_;(with_reducible refine (jobshellref25_numbers.calls k _ _ l0_0 _ _ l1_0 false _ ?side1 ?side2 ?side3 ?side4 A3.out).mono ?_);(case side1=>repeat (first|exact (yT HR0_0.out HB.out)|(with_reducible refine yG ?_ _)|(with_reducible refine yF ?_ _)|(with_reducible refine yK ?_)));(case side2=>exact HC0_0.out);(case side3=>repeat (first|exact (yT HR1_0.out HB.out)|(with_reducible refine yG ?_ _)|(with_reducible refine yF ?_ _)|(with_reducible refine yK ?_)));(case side4=>exact HC1_0.out);rintro e w' ⟨rfl,⟨nd,rfl⟩⟩;refine ⟨_,rfl,?_⟩))
  go_ret
  exact ⟨by first|rfl|(simp [errW_none,errW_some] <;> rfl)|(simp [*,errW_none,errW_some] <;> rfl),by repeat (first|(with_reducible first|exact HB.out|apply zG|apply zD|apply zH|refine zA ?_ GE302.out|refine zA ?_ GE303.out)|exact HB.out)⟩
def jobshellref25_add.l0:Nat→List Int→Int→List Int→Int→Option (List Int)
 |0,_,_,_,_=>none
 |k + 1,x0,x1,x5,x6=>if x6≤20 then (if x6=x1 then (if x5.length < 17592186044416 then (jobshellref25_add.l0 k x0 x1 (x5 ++ [x6]) (wrap64 (x6 + 1))) else (none)) else ((jobshellref25_Has.f k x0 x6).bind fun t310=>(if t310=true then (if x5.length < 17592186044416 then (jobshellref25_add.l0 k x0 x1 (x5 ++ [x6]) (wrap64 (x6 + 1))) else (none)) else (jobshellref25_add.l0 k x0 x1 x5 (wrap64 (x6 + 1)))))) else (some x5)
def jobshellref25_add.f (k:Nat) (l0:List Int) (a1:Int):Option (List Int):=jobshellref25_add.l0 k l0 a1 ([]:List Int) 1
theorem jobshellref25_add.mono_l:∀ k,(∀ y0 y1 y2 y3,LeO (jobshellref25_add.l0 k y0 y1 y2 y3) (jobshellref25_add.l0 (k + 1) y0 y1 y2 y3))
 |0=>fun _ _ _ _ r h=>by simp [jobshellref25_add.l0] at h
 |k + 1=>by
  have ih0:=jobshellref25_add.mono_l k
  ·intro y0 y1 y2 y3
   unfold jobshellref25_add.l0
   repeat' first
   |(with_reducible exact ih0 _ _ _ _)
   |(with_reducible exact jobshellref25_Has.mono _ _ _)
   |(with_reducible exact LeO.refl _)
   |(with_reducible exact LeO.none _)
   |(with_reducible refine LeO.ite ?_ ?_)
   |(with_reducible refine LeO.bind ?_ (fun _=>?_))
   |exact ih0 _ _ _ _
   |exact jobshellref25_Has.mono _ _ _
   |exact LeO.none _
   |refine LeO.ite ?_ ?_
   |refine LeO.bind ?_ (fun _=>?_)
theorem jobshellref25_add.mono:∀ a0 a1 k,LeO (jobshellref25_add.f k a0 a1) (jobshellref25_add.f (k + 1) a0 a1):=by
 intro a0 a1 k
 have ih0:=jobshellref25_add.mono_l k
 unfold jobshellref25_add.f
 repeat' first
   |(with_reducible exact ih0 _ _ _ _)
   |(with_reducible exact jobshellref25_Has.mono _ _ _)
   |(with_reducible exact LeO.refl _)
   |(with_reducible exact LeO.none _)
   |(with_reducible refine LeO.ite ?_ ?_)
   |(with_reducible refine LeO.bind ?_ (fun _=>?_))
   |exact ih0 _ _ _ _
   |exact jobshellref25_Has.mono _ _ _
   |exact LeO.none _
   |refine LeO.ite ?_ ?_
   |refine LeO.bind ?_ (fun _=>?_)
set_option maxHeartbeats 8000000 in
set_option maxRecDepth 10000000 in
theorem jobshellref25_add.calls (k:Nat) (A0:Option Addr) (c0:Nat) (l0:List Int) (a1:Int) (r:List Int) (w:World) (hr0:Kd.C (Kd.int .i64) w A0 l0.length l0) (hc0:l0.length≤c0) (h:jobshellref25_add.f k l0 a1=some r) :
  Calls Tryd.prog 46 #[.slice A0 l0.length c0,.int .i64 a1] w fun e w'=>∃ v0_:Value,e=.returned (v0_)∧Kd.R (Kd.int .i64) 3 w' w.heap.size (fun _=>True) v0_ r∧Below w.heap.size w w':=by
 have HR0:=Zk hr0
 have HC0:=Zk hc0
 clear hr0 hc0
 have HB:=Zk (Below.refl w.heap.size w)
 have H:(jobshellref25_add.l0 k l0 a1 ([]:List Int) 1)=some r:=h
 clear h
 have H':=Zk H
 clear H
 go_enter Tryd.func46,Tryd.ntmps46
 go_wp2
 go_loopg [5,6] k (fun kq v5 v6 w'=>∃ (x5_1:List Int) (x6_1:Int),v6=.int .i64 x6_1∧zR (jobshellref25_add.l0 kq l0 a1 x5_1 x6_1=some r)∧zR (kq≤k)∧zR (Kd.R (Kd.int .i64) 3 w' w.heap.size (fun _=>True) v5 x5_1)∧zR (Below w.heap.size w w'))
 case atStart=>exact ⟨(([]:List Int)),(1),(by first|rfl|(simp;done)|(simp [*];done)|(generalize ByteArray.toList _=l_;cases l_ <;> rfl)),H',⟨Nat.le_refl _⟩,⟨by first|exact R_nil _ _ _ _ _|exact Kd.N_nil _ _ _ _ _|exact V_nil _ _ _ _ _|exact Kd.Q_nil _ _ _ _ _|exact Kd.S_nil _ _ _ _ _⟩,⟨by repeat (first|(with_reducible first|exact HB.out|apply zG|apply zD|apply zH)|exact HB.out)⟩⟩
 case round=>
  clear H'
  try clear p2
  obtain ⟨x5_1,x6_1,rfl,HA,HK1,HO_5,HB⟩:=hrel
  cases gk with
  |zero=>exact absurd HA.out (by simp [jobshellref25_add.l0])
  |succ k1=>
   have H:=HA.out
   clear HA
   simp only [jobshellref25_add.l0] at H
   by_cases c3:x6_1≤20
   ·rw [if_pos c3] at H
    have c3b0:decide (x6_1≤20)=true:=decide_eq_true c3
    clear c3
    by_cases c4:x6_1=a1
    ·rw [if_pos c4] at H
     have c4b0:(x6_1 == a1)=true:=beq_iff_eq.mpr c4
     have c4b1:(x6_1 != a1)=false:=bne_eq_false_iff_eq.mpr c4
     clear c4
     by_cases c5:x5_1.length < 17592186044416
     ·rw [if_pos c5] at H
      have LMc5:=Zk c5
      clear c5
      obtain ⟨y307,hy307⟩:∃ y_:List Int,y_=(x5_1 ++ [x6_1]):=⟨_,rfl⟩
      replace H:(jobshellref25_add.l0 k1 l0 a1 y307 (wrap64 (x6_1 + 1)))=some r:=by first|(rw [hy307];with_reducible exact H)|(have H2_:=(Option.bind_some _ _).symm.trans H;rw [hy307];with_reducible exact H2_)|(have H2_:=(Option.bind_some _ _).symm.trans H;with_reducible exact H2_)|with_reducible exact H|(rw [hy307];exact H)|exact H
      have Ny307:=Zk hy307
      clear hy307
      have H':=Zk H
      clear H
      go_wp2_with (first|((with_reducible refine gate_builtin (b:=.append) (xs:=#[.tmp 19,.tmp 21]) rfl ?_);at_builtin;refine R_append (Kd.int .i64) (w0:=w) w.heap.size rfl (.tmp 19) (.tmp 21) 28 3 (.int .i64 0) 8 rfl Tryd.underlying28 info3 rfl (by decide) (by omega) u5 x5_1 x6_1 [.int .i64 x6_1] (fun _=>True) (fun _=>False) rfl rfl ?aP (fun _ hk=>hk.elim) ?aF ?aO ?aB ?aS ?aL ?_;(case aP=>exact rfl);(case aB=>exact (by repeat (first|(with_reducible first|exact HB.out|apply zG|apply zD|apply zH)|exact HB.out)));(case aF=>exact (fun _ _=>trivial));(case aO=>exact (by (with_reducible repeat (first|apply zP|apply zO|apply zQ));exact HO_5.out));(case aS=>exact (zT (by repeat (first|(with_reducible first|exact HB.out|apply zG|apply zD|apply zH)|exact HB.out))));(case aL=>have:=LMc5.out;omega);intro v308 w6 ho hb hg hat;rw [← Ny307.out] at ho;have n0_:=Zk (hb);have n1_:=Zk (ho);clear HB;clear HO_5;have HB:=n0_;have HO309:=n1_;clear n0_ n1_;clear ho hb hg hat))
      go_roundg k1
      case measure=>have:=HK1.out;omega
      case rel=>exact ⟨(y307),(wrap64 (x6_1 + 1)),(by first|rfl|(simp;done)|(simp [*];done)|(generalize ByteArray.toList _=l_;cases l_ <;> rfl)),H',⟨by have:=HK1.out;omega⟩,⟨by (with_reducible repeat (first|apply zP|apply zO|apply zQ));exact HO309.out⟩,⟨by repeat (first|(with_reducible first|exact HB.out|apply zG|apply zD|apply zH)|exact HB.out)⟩⟩
     ·rw [if_neg c5] at H
      exact absurd H (by simp)
    ·rw [if_neg c4] at H
     have c4b0:(x6_1 == a1)=false:=beq_eq_false_iff_ne.mpr c4
     have c4b1:(x6_1 != a1)=true:=bne_iff_ne.mpr c4
     replace H:=Option.bind_eq_some_iff.mp H
     obtain ⟨t310,A70,H⟩:=H
     replace H:(if t310=true then (if x5_1.length < 17592186044416 then (jobshellref25_add.l0 k1 l0 a1 (x5_1 ++ [x6_1]) (wrap64 (x6_1 + 1))) else (none)) else (jobshellref25_add.l0 k1 l0 a1 x5_1 (wrap64 (x6_1 + 1))))=some r:=H
     have A7:=Zk A70
     clear A70
     by_cases c8:t310=true
     ·subst c8
      have H1:(if x5_1.length < 17592186044416 then (jobshellref25_add.l0 k1 l0 a1 (x5_1 ++ [x6_1]) (wrap64 (x6_1 + 1))) else (none))=some r:=by rw [if_pos rfl] at H;exact H
      clear H
      have H:=H1
      clear H1
      by_cases c9:x5_1.length < 17592186044416
      ·rw [if_pos c9] at H
       have LMc9:=Zk c9
       clear c9
       obtain ⟨y311,hy311⟩:∃ y_:List Int,y_=(x5_1 ++ [x6_1]):=⟨_,rfl⟩
       replace H:(jobshellref25_add.l0 k1 l0 a1 y311 (wrap64 (x6_1 + 1)))=some r:=by first|(rw [hy311];with_reducible exact H)|(have H2_:=(Option.bind_some _ _).symm.trans H;rw [hy311];with_reducible exact H2_)|(have H2_:=(Option.bind_some _ _).symm.trans H;with_reducible exact H2_)|with_reducible exact H|(rw [hy311];exact H)|exact H
       have Ny311:=Zk hy311
       clear hy311
       have H':=Zk H
       clear H
       go_wp2_with (first|(go_at_call 24;(with_reducible refine (jobshellref25_Has.calls k1 _ _ l0 x6_1 true _ ?side1 ?side2 A7.out).mono ?_);(case side1=>repeat (first|exact (yT HR0.out HB.out)|(with_reducible refine yG ?_ _)|(with_reducible refine yF ?_ _)|(with_reducible refine yK ?_)));(case side2=>exact HC0.out);rintro e w' ⟨rfl,⟨nd,rfl⟩⟩)|((with_reducible refine gate_builtin (b:=.append) (xs:=#[.tmp 19,.tmp 21]) rfl ?_);at_builtin;refine R_append (Kd.int .i64) (w0:=w) w.heap.size rfl (.tmp 19) (.tmp 21) 28 3 (.int .i64 0) 8 rfl Tryd.underlying28 info3 rfl (by decide) (by omega) u5 x5_1 x6_1 [.int .i64 x6_1] (fun _=>True) (fun _=>False) rfl rfl ?aP (fun _ hk=>hk.elim) ?aF ?aO ?aB ?aS ?aL ?_;(case aP=>exact rfl);(case aB=>exact (by repeat (first|(with_reducible first|exact HB.out|apply zG|apply zD|apply zH)|exact HB.out)));(case aF=>exact (fun _ _=>trivial));(case aO=>exact (by (with_reducible repeat (first|apply zP|apply zO|apply zQ));exact HO_5.out));(case aS=>exact (zT (by repeat (first|(with_reducible first|exact HB.out|apply zG|apply zD|apply zH)|exact HB.out))));(case aL=>have:=LMc9.out;omega);intro v312 w10 ho hb hg hat;rw [← Ny311.out] at ho;have n0_:=Zk (hb);have n1_:=Zk (ho);clear HB;clear HO_5;have HB:=n0_;have HO313:=n1_;clear n0_ n1_;clear ho hb hg hat))
       go_roundg k1
       case measure=>have:=HK1.out;omega
       case rel=>exact ⟨(y311),(wrap64 (x6_1 + 1)),(by first|rfl|(simp;done)|(simp [*];done)|(generalize ByteArray.toList _=l_;cases l_ <;> rfl)),H',⟨by have:=HK1.out;omega⟩,⟨by (with_reducible repeat (first|apply zP|apply zO|apply zQ));exact HO313.out⟩,⟨by repeat (first|(with_reducible first|exact HB.out|apply zG|apply zD|apply zH)|exact HB.out)⟩⟩
      ·rw [if_neg c9] at H
       exact absurd H (by simp)
     ·replace c8:=Bool.eq_false_iff.mpr c8
      subst c8
      have H1:(jobshellref25_add.l0 k1 l0 a1 x5_1 (wrap64 (x6_1 + 1)))=some r:=by rw [if_neg (show ¬ (false=true) by decide)] at H;exact H
      clear H
      have H:=H1
      clear H1
      have H':=Zk H
      clear H
      go_wp2_with (first|(go_at_call 24;(with_reducible refine (jobshellref25_Has.calls k1 _ _ l0 x6_1 false _ ?side1 ?side2 A7.out).mono ?_);(case side1=>repeat (first|exact (yT HR0.out HB.out)|(with_reducible refine yG ?_ _)|(with_reducible refine yF ?_ _)|(with_reducible refine yK ?_)));(case side2=>exact HC0.out);rintro e w' ⟨rfl,⟨nd,rfl⟩⟩))
      go_roundg k1
      case measure=>have:=HK1.out;omega
      case rel=>exact ⟨(x5_1),(wrap64 (x6_1 + 1)),(by first|rfl|(simp;done)|(simp [*];done)|(generalize ByteArray.toList _=l_;cases l_ <;> rfl)),H',⟨by have:=HK1.out;omega⟩,⟨by (with_reducible repeat (first|apply zP|apply zO|apply zQ));exact HO_5.out⟩,⟨by repeat (first|(with_reducible first|exact HB.out|apply zG|apply zD|apply zH)|exact HB.out)⟩⟩
   ·rw [if_neg c3] at H
    have c3b0:decide (x6_1≤20)=false:=decide_eq_false c3
    clear c3
    obtain rfl:=Option.some.inj H
    go_wp2
    go_ret
    exact ⟨_,by first|rfl|(simp [errW_none,errW_some] <;> rfl)|(simp [*,errW_none,errW_some] <;> rfl),by (with_reducible repeat (first|apply zP|apply zO|apply zQ));exact HO_5.out,by repeat (first|(with_reducible first|exact HB.out|apply zG|apply zD|apply zH)|exact HB.out)⟩
end Go.Proofs.YtnkkdpjipfjdaaaDoor.Q
end
section

namespace Go.Proofs.YtnkkdpjipfjdaaaDoor.Q
open Go.RowKit Go.Proofs.YtnkkdpjipfjdaaaDoorW.PrintWords Go.Proofs.YtnkkdpjipfjdaaaDoorW.PrintLast Go.Proofs.YtnkkdpjipfjdaaaDoorW.PrintMore Go.Proofs.YtnkkdpjipfjdaaaDoorM
open Kd
attribute [local go_sem] max2_int min2_int max_two min_two max_three min_three max_four min_four
set_option linter.unusedVariables false
set_option linter.unusedSimpArgs false
def signal_fixed.f (a0:Int):Option (Bool):=if a0=9 then (some true) else (some (a0 == 19))
set_option maxHeartbeats 8000000 in
set_option maxRecDepth 10000000 in
theorem signal_fixed.calls (a0:Int) (r:Bool) (w:World) (h:signal_fixed.f a0=some r) :
  Calls Tryd.prog 47 #[.int .i64 a0] w fun e w'=>e=.returned (.bool r)∧Drawn0 w w':=by
 have H:(if a0=9 then (some true) else (some (a0 == 19)))=some r:=h
 clear h
 by_cases c2:a0=9
 ·rw [if_pos c2] at H
  have c2b0:(a0 == 9)=true:=beq_iff_eq.mpr c2
  have c2b1:(a0 != 9)=false:=bne_eq_false_iff_eq.mpr c2
  clear c2
  obtain rfl:=Option.some.inj H
  go_enter Tryd.func47,Tryd.ntmps47
  go_wp2
  go_ret
  exact ⟨by first|rfl|(simp;done)|(simp [*];done),by repeat (first|exact Drawn0.refl _|apply Drawn0.step)⟩
 ·rw [if_neg c2] at H
  have c2b0:(a0 == 9)=false:=beq_eq_false_iff_ne.mpr c2
  have c2b1:(a0 != 9)=true:=bne_iff_ne.mpr c2
  obtain rfl:=Option.some.inj H
  go_enter Tryd.func47,Tryd.ntmps47
  go_wp2
  go_ret
  exact ⟨by first|rfl|(simp;done)|(simp [*];done),by repeat (first|exact Drawn0.refl _|apply Drawn0.step)⟩
end Go.Proofs.YtnkkdpjipfjdaaaDoor.Q
end
