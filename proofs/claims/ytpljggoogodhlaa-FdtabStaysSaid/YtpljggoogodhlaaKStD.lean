/- Own texts of one claim, put one behind the other by wip/tool/pack.py: words beside the print's, what each printed function computes, and the plain laws. -/
import Derived.Test.YtpljggoogodhlaaKStC
section

namespace Go.Proofs.Ytpljggoogodhlaa.Q
open Go.RowKit Go.Proofs.YtpljggoogodhlaaW.PrintWords Go.Proofs.YtpljggoogodhlaaW.PrintLast Go.Proofs.YtpljggoogodhlaaW.PrintMore Go.Proofs.YtpljggoogodhlaaM
open Kd
attribute [local go_sem] max2_int min2_int max_two min_two max_three min_three max_four min_four
set_option linter.unusedVariables false
set_option linter.unusedSimpArgs false
attribute [local go_sem high] eqA36
mutual
def jobshelllaw23_FdtabStays.j0:Nat→List (S36)→Bool→Int→Int→Bool→Option (Bool)
 |0,_,_,_,_,_=>none
 |k + 1,x0,x27,x411000,x411001,x411002=>if x27=true then ((jobshelllaw23_awake.f k).bind fun t413=>(some t413)) else ((fdtab_Put.f k x0 x411000 x411001 x411002).bind fun bt414=>(if bt414.2=0 then ((fdtab_Get.f bt414.1 x411000).bind fun bt420=>((fdtab_Valid.f k bt414.1).bind fun t425=>(if t425=0 then (if bt420.2.2.2=true then (jobshelllaw23_FdtabStays.j1 k x0 bt414.1 (!(bt420.1 == x411000) ||(!(bt420.2.1 == x411001) ||(!(bt420.2.2.1 == x411002)))) x411000 x411001 x411002) else (jobshelllaw23_FdtabStays.j1 k x0 bt414.1 true x411000 x411001 x411002)) else (jobshelllaw23_FdtabStays.j1 k x0 bt414.1 true x411000 x411001 x411002)))) else ((jobshellref23_Same.f k bt414.1 x0).bind fun t418=>(if t418=true then ((jobshelllaw23_awake.f k).bind fun t419=>(some t419)) else (some false)))))
def jobshelllaw23_FdtabStays.j1:Nat→List (S36)→List (S36)→Bool→Int→Int→Bool→Option (Bool)
 |0,_,_,_,_,_,_=>none
 |k + 1,x0,x5,x61,x411000,x411001,x411002=>if x61=true then (some false) else (jobshelllaw23_FdtabStays.l0 k x0 x5 (-1) x411000 x411001 x411002)
def jobshelllaw23_FdtabStays.l0:Nat→List (S36)→List (S36)→Int→Int→Int→Bool→Option (Bool)
 |0,_,_,_,_,_,_=>none
 |k + 1,x0,x5,x9,x411000,x411001,x411002=>if x9≤32 then ((fdtab_Get.f x0 x9).bind fun bt426=>((fdtab_Get.f x5 x9).bind fun bt431=>(if x9=x411000 then (jobshelllaw23_FdtabStays.l0 k x0 x5 (wrap64 (x9 + 1)) x411000 x411001 x411002) else (if (!(bt426.1 == bt431.1) ||(!(bt426.2.1 == bt431.2.1) ||(!(bt426.2.2.1 == bt431.2.2.1))))=true then (some false) else (if (bt426.2.2.2 != bt431.2.2.2)=true then (some false) else (jobshelllaw23_FdtabStays.l0 k x0 x5 (wrap64 (x9 + 1)) x411000 x411001 x411002)))))) else ((fdtab_Drop.f x5 x411000).bind fun bt436=>((fdtab_Get.f x0 x411000).bind fun bt440=>((fdtab_Free.f k x0 x411000).bind fun bt445=>(if bt436.2=0 then ((fdtab_Valid.f k bt436.1).bind fun t447=>(if t447=0 then (if bt440.2.2.2=true then (if bt445.2=true then (if ((bt445.1 == x411000) == (!bt440.2.2.2))=true then ((jobshelllaw23_awake.f k).bind fun t448=>(some t448)) else (some false)) else (if (false == (!bt440.2.2.2))=true then ((jobshelllaw23_awake.f k).bind fun t449=>(some t449)) else (some false))) else ((jobshellref23_Same.f k bt436.1 x0).bind fun t450=>(if t450=true then (if bt445.2=true then (if ((bt445.1 == x411000) == (!bt440.2.2.2))=true then ((jobshelllaw23_awake.f k).bind fun t451=>(some t451)) else (some false)) else (if (false == (!bt440.2.2.2))=true then ((jobshelllaw23_awake.f k).bind fun t452=>(some t452)) else (some false))) else (some false)))) else (some false))) else (some false)))))
end
def jobshelllaw23_FdtabStays.f (k:Nat) (l0:List (S36)) (a1_0:Int) (a1_1:Int) (a1_2:Bool):Option (Bool):=(jobshelllaw23_short.f l0 ([]:List (S24))).bind fun t411=>(if t411=true then ((jobshellref23_Valid.f k l0).bind fun t412=>(jobshelllaw23_FdtabStays.j0 k l0 (t412 != 0) a1_0 a1_1 a1_2)) else (jobshelllaw23_FdtabStays.j0 k l0 true a1_0 a1_1 a1_2))
theorem jobshelllaw23_FdtabStays.mono_l:∀ k,(∀ y0 y1 y2 y3 y4,LeO (jobshelllaw23_FdtabStays.j0 k y0 y1 y2 y3 y4) (jobshelllaw23_FdtabStays.j0 (k + 1) y0 y1 y2 y3 y4))∧(∀ y0 y1 y2 y3 y4 y5,LeO (jobshelllaw23_FdtabStays.j1 k y0 y1 y2 y3 y4 y5) (jobshelllaw23_FdtabStays.j1 (k + 1) y0 y1 y2 y3 y4 y5))∧(∀ y0 y1 y2 y3 y4 y5,LeO (jobshelllaw23_FdtabStays.l0 k y0 y1 y2 y3 y4 y5) (jobshelllaw23_FdtabStays.l0 (k + 1) y0 y1 y2 y3 y4 y5))
 |0=>⟨fun _ _ _ _ _ r h=>by simp [jobshelllaw23_FdtabStays.j0] at h,fun _ _ _ _ _ _ r h=>by simp [jobshelllaw23_FdtabStays.j1] at h,fun _ _ _ _ _ _ r h=>by simp [jobshelllaw23_FdtabStays.l0] at h⟩
 |k + 1=>by
  obtain ⟨ih0,ih1,ih2⟩:=jobshelllaw23_FdtabStays.mono_l k
  refine ⟨?_,?_,?_⟩
  ·intro y0 y1 y2 y3 y4
   unfold jobshelllaw23_FdtabStays.j0
   repeat' first
   |(with_reducible exact ih0 _ _ _ _ _)
   |(with_reducible exact ih1 _ _ _ _ _ _)
   |(with_reducible exact ih2 _ _ _ _ _ _)
   |(with_reducible exact fdtab_Free.mono _ _ _)
   |(with_reducible exact fdtab_Put.mono _ _ _ _ _)
   |(with_reducible exact fdtab_Valid.mono _ _)
   |(with_reducible exact jobshelllaw23_awake.mono _)
   |(with_reducible exact jobshellref23_Same.mono _ _ _)
   |(with_reducible exact jobshellref23_Valid.mono _ _)
   |(with_reducible exact LeO.refl _)
   |(with_reducible exact LeO.none _)
   |(with_reducible refine LeO.ite ?_ ?_)
   |(with_reducible refine LeO.bind ?_ (fun _=>?_))
   |exact ih0 _ _ _ _ _
   |exact ih1 _ _ _ _ _ _
   |exact ih2 _ _ _ _ _ _
   |exact fdtab_Free.mono _ _ _
   |exact fdtab_Put.mono _ _ _ _ _
   |exact fdtab_Valid.mono _ _
   |exact jobshelllaw23_awake.mono _
   |exact jobshellref23_Same.mono _ _ _
   |exact jobshellref23_Valid.mono _ _
   |exact LeO.none _
   |refine LeO.ite ?_ ?_
   |refine LeO.bind ?_ (fun _=>?_)
  ·intro y0 y1 y2 y3 y4 y5
   unfold jobshelllaw23_FdtabStays.j1
   repeat' first
   |(with_reducible exact ih0 _ _ _ _ _)
   |(with_reducible exact ih1 _ _ _ _ _ _)
   |(with_reducible exact ih2 _ _ _ _ _ _)
   |(with_reducible exact fdtab_Free.mono _ _ _)
   |(with_reducible exact fdtab_Put.mono _ _ _ _ _)
   |(with_reducible exact fdtab_Valid.mono _ _)
   |(with_reducible exact jobshelllaw23_awake.mono _)
   |(with_reducible exact jobshellref23_Same.mono _ _ _)
   |(with_reducible exact jobshellref23_Valid.mono _ _)
   |(with_reducible exact LeO.refl _)
   |(with_reducible exact LeO.none _)
   |(with_reducible refine LeO.ite ?_ ?_)
   |(with_reducible refine LeO.bind ?_ (fun _=>?_))
   |exact ih0 _ _ _ _ _
   |exact ih1 _ _ _ _ _ _
   |exact ih2 _ _ _ _ _ _
   |exact fdtab_Free.mono _ _ _
   |exact fdtab_Put.mono _ _ _ _ _
   |exact fdtab_Valid.mono _ _
   |exact jobshelllaw23_awake.mono _
   |exact jobshellref23_Same.mono _ _ _
   |exact jobshellref23_Valid.mono _ _
   |exact LeO.none _
   |refine LeO.ite ?_ ?_
   |refine LeO.bind ?_ (fun _=>?_)
  ·intro y0 y1 y2 y3 y4 y5
   unfold jobshelllaw23_FdtabStays.l0
   repeat' first
   |(with_reducible exact ih0 _ _ _ _ _)
   |(with_reducible exact ih1 _ _ _ _ _ _)
   |(with_reducible exact ih2 _ _ _ _ _ _)
   |(with_reducible exact fdtab_Free.mono _ _ _)
   |(with_reducible exact fdtab_Put.mono _ _ _ _ _)
   |(with_reducible exact fdtab_Valid.mono _ _)
   |(with_reducible exact jobshelllaw23_awake.mono _)
   |(with_reducible exact jobshellref23_Same.mono _ _ _)
   |(with_reducible exact jobshellref23_Valid.mono _ _)
   |(with_reducible exact LeO.refl _)
   |(with_reducible exact LeO.none _)
   |(with_reducible refine LeO.ite ?_ ?_)
   |(with_reducible refine LeO.bind ?_ (fun _=>?_))
   |exact ih0 _ _ _ _ _
   |exact ih1 _ _ _ _ _ _
   |exact ih2 _ _ _ _ _ _
   |exact fdtab_Free.mono _ _ _
   |exact fdtab_Put.mono _ _ _ _ _
   |exact fdtab_Valid.mono _ _
   |exact jobshelllaw23_awake.mono _
   |exact jobshellref23_Same.mono _ _ _
   |exact jobshellref23_Valid.mono _ _
   |exact LeO.none _
   |refine LeO.ite ?_ ?_
   |refine LeO.bind ?_ (fun _=>?_)
theorem jobshelllaw23_FdtabStays.mono:∀ a0 a1 a2 a3 k,LeO (jobshelllaw23_FdtabStays.f k a0 a1 a2 a3) (jobshelllaw23_FdtabStays.f (k + 1) a0 a1 a2 a3):=by
 intro a0 a1 a2 a3 k
 obtain ⟨ih0,ih1,ih2⟩:=jobshelllaw23_FdtabStays.mono_l k
 unfold jobshelllaw23_FdtabStays.f
 repeat' first
   |(with_reducible exact ih0 _ _ _ _ _)
   |(with_reducible exact ih1 _ _ _ _ _ _)
   |(with_reducible exact ih2 _ _ _ _ _ _)
   |(with_reducible exact fdtab_Free.mono _ _ _)
   |(with_reducible exact fdtab_Put.mono _ _ _ _ _)
   |(with_reducible exact fdtab_Valid.mono _ _)
   |(with_reducible exact jobshelllaw23_awake.mono _)
   |(with_reducible exact jobshellref23_Same.mono _ _ _)
   |(with_reducible exact jobshellref23_Valid.mono _ _)
   |(with_reducible exact LeO.refl _)
   |(with_reducible exact LeO.none _)
   |(with_reducible refine LeO.ite ?_ ?_)
   |(with_reducible refine LeO.bind ?_ (fun _=>?_))
   |exact ih0 _ _ _ _ _
   |exact ih1 _ _ _ _ _ _
   |exact ih2 _ _ _ _ _ _
   |exact fdtab_Free.mono _ _ _
   |exact fdtab_Put.mono _ _ _ _ _
   |exact fdtab_Valid.mono _ _
   |exact jobshelllaw23_awake.mono _
   |exact jobshellref23_Same.mono _ _ _
   |exact jobshellref23_Valid.mono _ _
   |exact LeO.none _
   |refine LeO.ite ?_ ?_
   |refine LeO.bind ?_ (fun _=>?_)
set_option maxHeartbeats 8000000 in
set_option maxRecDepth 10000000 in
theorem jobshelllaw23_FdtabStays.calls (k:Nat) (A0:Option Addr) (c0:Nat) (l0:List (S36)) (a1_0:Int) (a1_1:Int) (a1_2:Bool) (r:Bool) (w:World) (hr0:Kd.C k36 w A0 l0.length l0) (hc0:l0.length≤c0) (h:jobshelllaw23_FdtabStays.f k l0 a1_0 a1_1 a1_2=some r) :
  Calls Try.prog 8 #[.slice A0 l0.length c0,.agg #[.int .i64 a1_0,.int .i64 a1_1,.bool a1_2]] w fun e w'=>e=.returned (.bool r)∧Below w.heap.size w w':=by
 have hu36:=Try.underlying36
 have HR0:=Zk hr0
 have HC0:=Zk hc0
 clear hr0 hc0
 have HB:=Zk (Below.refl w.heap.size w)
 have H:((jobshelllaw23_short.f l0 ([]:List (S24))).bind fun t411=>(if t411=true then ((jobshellref23_Valid.f k l0).bind fun t412=>(jobshelllaw23_FdtabStays.j0 k l0 (t412 != 0) a1_0 a1_1 a1_2)) else (jobshelllaw23_FdtabStays.j0 k l0 true a1_0 a1_1 a1_2)))=some r:=h
 clear h
 have HC3:=Zk H
 clear H
 go_enter Try.func8,Try.ntmps8
 go_upto_region 1 with (first|((with_reducible refine yE (N:=3) rfl ?_);refine yG ?hg (N:=3) ?hd (cs:=#[.int .i64 a1_0,.int .i64 a1_1,.bool a1_2]) (t:=36) ?hr ?_;(case hd=>rfl);(case hg=>rfl);(case hr=>first|(go_simp;done)|(go_simp;rfl));intro gb410 hg w4 hbox hb;have n0_:=Zk (zL (by repeat (first|(with_reducible first|exact HB.out|apply zG|apply zC|apply zH)|exact HB.out)) hb);have n1_:=Zk (hbox);have n2_:=Zk ((by rw [hg];exact (zM (by repeat (first|(with_reducible first|exact HB.out|apply zG|apply zC|apply zH)|exact HB.out))):w.heap.size≤gb410));have n3_:=Zk ((by rw [hg];exact (zM (by repeat (first|(with_reducible first|exact HB.out|apply zG|apply zC|apply zH)|exact HB.out))):w.heap.size≤gb410));clear HB;have HB:=n0_;have BK410:=n1_;have GW410:=n2_;have GE410:=n3_;clear n0_ n1_ n2_ n3_;clear hb hbox hg))
 (try simp only [Act.put,List.setIfInBounds_toArray,List.set_cons_zero,List.set_cons_succ])
 go_cut [27] (fun v27 wc=>∃ (kq:Nat) (x27_2:Bool),v27=.bool x27_2∧zR (jobshelllaw23_FdtabStays.j0 kq l0 x27_2 a1_0 a1_1 a1_2=some r)∧zR (kq≤k)∧zR (wc.heap[gb410]?=some (.cells #[.int .i64 a1_0,.int .i64 a1_1,.bool a1_2] 36 (0,0)))∧zR (Below w.heap.size w wc))
 case first=>as_aux_lemma=>
  have H:=HC3.out
  clear HC3
  replace H:=Option.bind_eq_some_iff.mp H
  obtain ⟨t411,A50,H⟩:=H
  replace H:(if t411=true then ((jobshellref23_Valid.f k l0).bind fun t412=>(jobshelllaw23_FdtabStays.j0 k l0 (t412 != 0) a1_0 a1_1 a1_2)) else (jobshelllaw23_FdtabStays.j0 k l0 true a1_0 a1_1 a1_2))=some r:=H
  have A5:=Zk A50
  clear A50
  by_cases c6:t411=true
  ·subst c6
   have H1:((jobshellref23_Valid.f k l0).bind fun t412=>(jobshelllaw23_FdtabStays.j0 k l0 (t412 != 0) a1_0 a1_1 a1_2))=some r:=by rw [if_pos rfl] at H;exact H
   clear H
   have H:=H1
   clear H1
   replace H:=Option.bind_eq_some_iff.mp H
   obtain ⟨t412,A70,H⟩:=H
   replace H:(jobshelllaw23_FdtabStays.j0 k l0 (t412 != 0) a1_0 a1_1 a1_2)=some r:=H
   have A7:=Zk A70
   clear A70
   have H':=Zk H
   clear H
   go_wp2_with (first|((with_reducible refine zW (f:=9) rfl ?_);refine yF (some 21) rfl rfl Try.func9 (by kernel_rfl) rfl #[.slice A0 l0.length c0,.slice none 0 0] rfl (by (try simp only [List.map_toArray,List.map_cons,List.map_nil]);first|done|rfl|(simp only [List.length_drop,List.length_take];rfl)) ?_;(refine (jobshelllaw23_short.calls _ _ l0 _ _ ([]:List (S24)) true _ ?side1 ?side2 ?side3 ?side4 A5.out).mono ?_);(case side1=>repeat (first|exact (C_below HR0.out HB.out)|(with_reducible refine yC ?_ _)|(with_reducible refine yD ?_ _)|(with_reducible refine C_drew ?_)));(case side2=>exact HC0.out);(case side3=>exact C_nil _ _);(case side4=>exact Nat.le_refl _);rintro e w' ⟨rfl,⟨nd,rfl⟩⟩;refine ⟨_,rfl,?_⟩)|(go_at_call 19;(with_reducible refine (jobshellref23_Valid.calls k _ _ l0 t412 _ ?side1 ?side2 A7.out).mono ?_);(case side1=>repeat (first|exact (C_below HR0.out (by repeat (first|(with_reducible first|exact HB.out|apply zG|apply zC|apply zH|refine zF ?_ GE410.out)|exact HB.out)))|(with_reducible refine yC ?_ _)|(with_reducible refine yD ?_ _)|(with_reducible refine C_drew ?_)));(case side2=>exact HC0.out);rintro e w8 ⟨rfl,hb⟩;have n0_:=Zk (zK (g:=gb410) (o:=.cells #[.int .i64 a1_0,.int .i64 a1_1,.bool a1_2] 36 (0,0)) (by (with_reducible repeat (first|refine zB ?_ _|refine zD ?_|refine zA ?_ _));exact BK410.out) hb);have n1_:=Zk (zL (by repeat (first|(with_reducible first|exact HB.out|apply zG|apply zC|apply zH|refine zF ?_ GE410.out)|exact HB.out)) hb);clear BK410;clear HB;have BK410:=n0_;have HB:=n1_;clear n0_ n1_;(try clear hb);(try clear hb2);(try clear hk);(try clear hi)))
   go_meet
   case rel=>exact ⟨_,((t412 != 0)),(by first|rfl|(simp;done)|(simp [*];done)|(generalize ByteArray.toList _=l_;cases l_ <;> rfl)),H',⟨by first|omega|exact Nat.le_refl _⟩,⟨by (with_reducible repeat (first|refine zB ?_ _|refine zD ?_|refine zA ?_ _));exact BK410.out⟩,⟨by repeat (first|(with_reducible first|exact HB.out|apply zG|apply zC|apply zH|refine zF ?_ GE410.out)|exact HB.out)⟩⟩
  ·replace c6:=Bool.eq_false_iff.mpr c6
   subst c6
   have H1:(jobshelllaw23_FdtabStays.j0 k l0 true a1_0 a1_1 a1_2)=some r:=by rw [if_neg (show ¬ (false=true) by decide)] at H;exact H
   clear H
   have H:=H1
   clear H1
   have H':=Zk H
   clear H
   go_wp2_with (first|((with_reducible refine zW (f:=9) rfl ?_);refine yF (some 21) rfl rfl Try.func9 (by kernel_rfl) rfl #[.slice A0 l0.length c0,.slice none 0 0] rfl (by (try simp only [List.map_toArray,List.map_cons,List.map_nil]);first|done|rfl|(simp only [List.length_drop,List.length_take];rfl)) ?_;(refine (jobshelllaw23_short.calls _ _ l0 _ _ ([]:List (S24)) false _ ?side1 ?side2 ?side3 ?side4 A5.out).mono ?_);(case side1=>repeat (first|exact (C_below HR0.out HB.out)|(with_reducible refine yC ?_ _)|(with_reducible refine yD ?_ _)|(with_reducible refine C_drew ?_)));(case side2=>exact HC0.out);(case side3=>exact C_nil _ _);(case side4=>exact Nat.le_refl _);rintro e w' ⟨rfl,⟨nd,rfl⟩⟩;refine ⟨_,rfl,?_⟩))
   go_meet
   case rel=>exact ⟨_,(true),(by first|rfl|(simp;done)|(simp [*];done)|(generalize ByteArray.toList _=l_;cases l_ <;> rfl)),H',⟨by first|omega|exact Nat.le_refl _⟩,⟨by (with_reducible repeat (first|refine zB ?_ _|refine zD ?_|refine zA ?_ _));exact BK410.out⟩,⟨by repeat (first|(with_reducible first|exact HB.out|apply zG|apply zC|apply zH|refine zF ?_ GE410.out)|exact HB.out)⟩⟩
 case rest=>as_aux_lemma=>
  clear HC3
  try clear p2
  try clear c6
  try clear c8
  obtain ⟨kq,x27_2,rfl,HA,HJ2,BK410,HB⟩:=hcut
  cases kq with
  |zero=>exact absurd HA.out (by simp [jobshelllaw23_FdtabStays.j0])
  |succ kj2=>
   have H:=HA.out
   clear HA
   simp only [jobshelllaw23_FdtabStays.j0] at H
   by_cases c9:x27_2=true
   ·subst c9
    have H1:((jobshelllaw23_awake.f kj2).bind fun t413=>(some t413))=some r:=by rw [if_pos rfl] at H;exact H
    clear H
    have H:=H1
    clear H1
    replace H:=Option.bind_eq_some_iff.mp H
    obtain ⟨t413,A100,H⟩:=H
    replace H:(some t413)=some r:=H
    have A10:=Zk A100
    clear A100
    obtain rfl:=Option.some.inj H
    go_wp2_with (first|((with_reducible refine zW (f:=10) rfl ?_);refine yF (some 28) rfl rfl Try.func10 (by kernel_rfl) rfl #[] rfl (by (try simp only [List.map_toArray,List.map_cons,List.map_nil]);first|done|rfl|(simp only [List.length_drop,List.length_take];rfl)) ?_;(with_reducible refine (jobshelllaw23_awake.calls kj2  t413 _ A10.out).mono ?_);rintro e w11 ⟨rfl,hb⟩;refine ⟨_,rfl,?_⟩;have n0_:=Zk (zK (g:=gb410) (o:=.cells #[.int .i64 a1_0,.int .i64 a1_1,.bool a1_2] 36 (0,0)) (by (with_reducible repeat (first|refine zB ?_ _|refine zD ?_|refine zA ?_ _));exact BK410.out) hb);have n1_:=Zk (zL (by repeat (first|(with_reducible first|exact HB.out|apply zG|apply zC|apply zH|refine zF ?_ GE410.out)|exact HB.out)) hb);clear BK410;clear HB;have BK410:=n0_;have HB:=n1_;clear n0_ n1_;(try clear hb);(try clear hb2);(try clear hk);(try clear hi)))
    go_ret
    exact ⟨by first|rfl|(simp [errW_none,errW_some] <;> rfl)|(simp [*,errW_none,errW_some] <;> rfl),by repeat (first|(with_reducible first|exact HB.out|apply zG|apply zC|apply zH|refine zF ?_ GE410.out)|exact HB.out)⟩
   ·replace c9:=Bool.eq_false_iff.mpr c9
    subst c9
    have H1:((fdtab_Put.f kj2 l0 a1_0 a1_1 a1_2).bind fun bt414=>(if bt414.2=0 then ((fdtab_Get.f bt414.1 a1_0).bind fun bt420=>((fdtab_Valid.f kj2 bt414.1).bind fun t425=>(if t425=0 then (if bt420.2.2.2=true then (jobshelllaw23_FdtabStays.j1 kj2 l0 bt414.1 (!(bt420.1 == a1_0) ||(!(bt420.2.1 == a1_1) ||(!(bt420.2.2.1 == a1_2)))) a1_0 a1_1 a1_2) else (jobshelllaw23_FdtabStays.j1 kj2 l0 bt414.1 true a1_0 a1_1 a1_2)) else (jobshelllaw23_FdtabStays.j1 kj2 l0 bt414.1 true a1_0 a1_1 a1_2)))) else ((jobshellref23_Same.f kj2 bt414.1 l0).bind fun t418=>(if t418=true then ((jobshelllaw23_awake.f kj2).bind fun t419=>(some t419)) else (some false)))))=some r:=by rw [if_neg (show ¬ (false=true) by decide)] at H;exact H
    clear H
    have H:=H1
    clear H1
    replace H:=Option.bind_eq_some_iff.mp H
    obtain ⟨⟨t414,t417⟩,A120,H⟩:=H
    replace H:(if t417=0 then ((fdtab_Get.f t414 a1_0).bind fun bt420=>((fdtab_Valid.f kj2 t414).bind fun t425=>(if t425=0 then (if bt420.2.2.2=true then (jobshelllaw23_FdtabStays.j1 kj2 l0 t414 (!(bt420.1 == a1_0) ||(!(bt420.2.1 == a1_1) ||(!(bt420.2.2.1 == a1_2)))) a1_0 a1_1 a1_2) else (jobshelllaw23_FdtabStays.j1 kj2 l0 t414 true a1_0 a1_1 a1_2)) else (jobshelllaw23_FdtabStays.j1 kj2 l0 t414 true a1_0 a1_1 a1_2)))) else ((jobshellref23_Same.f kj2 t414 l0).bind fun t418=>(if t418=true then ((jobshelllaw23_awake.f kj2).bind fun t419=>(some t419)) else (some false))))=some r:=H
    have A12:=Zk A120
    clear A120
    by_cases c13:t417=0
    ·rw [if_pos c13] at H
     have c13b0:(t417 == 0)=true:=beq_iff_eq.mpr c13
     have c13b1:(t417 != 0)=false:=bne_eq_false_iff_eq.mpr c13
     clear c13
     replace H:=Option.bind_eq_some_iff.mp H
     obtain ⟨⟨t420,t421,t422,t423⟩,A140,H⟩:=H
     replace H:((fdtab_Valid.f kj2 t414).bind fun t425=>(if t425=0 then (if t423=true then (jobshelllaw23_FdtabStays.j1 kj2 l0 t414 (!(t420 == a1_0) ||(!(t421 == a1_1) ||(!(t422 == a1_2)))) a1_0 a1_1 a1_2) else (jobshelllaw23_FdtabStays.j1 kj2 l0 t414 true a1_0 a1_1 a1_2)) else (jobshelllaw23_FdtabStays.j1 kj2 l0 t414 true a1_0 a1_1 a1_2)))=some r:=H
     have A14:=Zk A140
     clear A140
     have HC15:=Zk H
     clear H
     have hcz16_0:wc.cell? ⟨gb410,0,none⟩=some (.int .i64 a1_0):=(zJ BK410.out 0).trans rfl
     have hcz16_1:wc.cell? ⟨gb410,1,none⟩=some (.int .i64 a1_1):=(zJ BK410.out 1).trans rfl
     have hcz16_2:wc.cell? ⟨gb410,2,none⟩=some (.bool a1_2):=(zJ BK410.out 2).trans rfl
     have hfz16_0:=zI BK410.out 0
     have hfz16_1:=zI BK410.out 1
     have hfz16_2:=zI BK410.out 2
     go_upto_region 7 with (first|((with_reducible refine zW (f:=24) rfl ?_);refine yF (some 32) rfl rfl Try.func24 (by kernel_rfl) rfl #[.slice A0 l0.length c0,.agg #[.int .i64 a1_0,.int .i64 a1_1,.bool a1_2]] rfl (by (try simp only [List.map_toArray,List.map_cons,List.map_nil]);first|done|rfl|(simp only [List.length_drop,List.length_take];rfl)) ?_;(with_reducible refine (fdtab_Put.calls kj2 (fun k_=>k_ < w.heap.size) _ _ l0 a1_0 a1_1 a1_2 t414 t417 _ ?side1 A12.out).mono ?_);(case side1=>exact V_mk HC0.out (Kd.F_below (C_F k36_heap HR0.out) (by repeat (first|(with_reducible first|exact HB.out|apply zG|apply zC|apply zH|refine zF ?_ GE410.out)|exact HB.out))));rintro e w17 ⟨v415,rfl,ho0,hb⟩;refine ⟨_,rfl,?_⟩;have n0_:=Zk (V_lower (zU (ok':=fun k_=>k_≠gb410) ho0 (fun k_ hk_=>Or.elim hk_ (fun hs_=>fun e_=>Nat.not_le.2 hs_ (by rw [e_];exact GW410.out)) (fun hn_=>(Kd.freshB (g:=gb410) (o:=.cells #[.int .i64 a1_0,.int .i64 a1_1,.bool a1_2] 36 (0,0)) (by (with_reducible repeat (first|refine zB ?_ _|refine zD ?_|refine zA ?_ _));exact BK410.out) k_ hn_)))) (zM (by repeat (first|(with_reducible first|exact HB.out|apply zG|apply zC|apply zH|refine zF ?_ GE410.out)|exact HB.out))));have n1_:=Zk (zK (g:=gb410) (o:=.cells #[.int .i64 a1_0,.int .i64 a1_1,.bool a1_2] 36 (0,0)) (by (with_reducible repeat (first|refine zB ?_ _|refine zD ?_|refine zA ?_ _));exact BK410.out) hb);have n2_:=Zk (zL (by repeat (first|(with_reducible first|exact HB.out|apply zG|apply zC|apply zH|refine zF ?_ GE410.out)|exact HB.out)) hb);clear BK410;clear HB;have HO416:=n0_;have BK410:=n1_;have HB:=n2_;clear n0_ n1_ n2_;(try clear hb);(try clear hb2);(try clear hk);(try clear hi);(try clear ho0);have hcz18_0:w17.cell? ⟨gb410,0,none⟩=some (.int .i64 a1_0):=(zJ BK410.out 0).trans rfl;have hcz18_1:w17.cell? ⟨gb410,1,none⟩=some (.int .i64 a1_1):=(zJ BK410.out 1).trans rfl;have hcz18_2:w17.cell? ⟨gb410,2,none⟩=some (.bool a1_2):=(zJ BK410.out 2).trans rfl;have hfz18_0:=zI BK410.out 0;have hfz18_1:=zI BK410.out 1;have hfz18_2:=zI BK410.out 2;obtain ⟨Ao19,co19,eo19⟩:=V_slice HO416.out;subst eo19)|((with_reducible refine zW (f:=14) rfl ?_);refine yF (some 47) rfl rfl Try.func14 (by kernel_rfl) rfl #[.slice Ao19 t414.length co19,.int .i64 a1_0] rfl (by (try simp only [List.map_toArray,List.map_cons,List.map_nil]);first|done|rfl|(simp only [List.length_drop,List.length_take];rfl)) ?_;(with_reducible refine (fdtab_Get.calls _ _ t414 a1_0 t420 t421 t422 t423 _ ?side1 ?side2 A14.out).mono ?_);(case side1=>repeat (first|exact (zY HO416.out).2.2|(with_reducible refine yC ?_ _)|(with_reducible refine yD ?_ _)|(with_reducible refine C_drew ?_)));(case side2=>exact (zY HO416.out).2.1);rintro e w20 ⟨rfl,hb⟩;refine ⟨_,rfl,?_⟩;have n0_:=Zk (zT (by (with_reducible repeat (first|apply zN|apply zO|apply zQ));exact HO416.out) hb);have n1_:=Zk (zK (g:=gb410) (o:=.cells #[.int .i64 a1_0,.int .i64 a1_1,.bool a1_2] 36 (0,0)) (by (with_reducible repeat (first|refine zB ?_ _|refine zD ?_|refine zA ?_ _));exact BK410.out) hb);have n2_:=Zk (zL (by repeat (first|(with_reducible first|exact HB.out|apply zG|apply zC|apply zH|refine zF ?_ GE410.out)|exact HB.out)) hb);clear HO416;clear BK410;clear HB;have HO416:=n0_;have BK410:=n1_;have HB:=n2_;clear n0_ n1_ n2_;(try clear hb);(try clear hb2);(try clear hk);(try clear hi))|((with_reducible refine yE (N:=7) rfl ?_);refine yG ?hg (N:=7) ?hd (cs:=#[.int .i64 0,.int .i64 0,.bool false]) (t:=36) ?hr ?_;(case hd=>rfl);(case hg=>rfl);(case hr=>first|(go_simp;done)|(go_simp;rfl));intro gb424 hg w21 hbox hb;have n0_:=Zk (zT (V_elderB (by (with_reducible repeat (first|apply zN|apply zO|apply zQ));exact HO416.out) gb424 (Nat.le_of_eq hg.symm)) hb);have n1_:=Zk (zK (g:=gb410) (o:=.cells #[.int .i64 a1_0,.int .i64 a1_1,.bool a1_2] 36 (0,0)) (by (with_reducible repeat (first|refine zB ?_ _|refine zD ?_|refine zA ?_ _));exact BK410.out) hb);have n2_:=Zk (zL (by repeat (first|(with_reducible first|exact HB.out|apply zG|apply zC|apply zH|refine zF ?_ GE410.out)|exact HB.out)) hb);have n3_:=Zk (hbox);have n4_:=Zk ((by rw [hg];exact (zM (by repeat (first|(with_reducible first|exact HB.out|apply zG|apply zC|apply zH|refine zF ?_ GE410.out)|exact HB.out))):w.heap.size≤gb424));have n5_:=Zk ((by rw [hg];exact (zM (by repeat (first|(with_reducible first|exact HB.out|apply zG|apply zC|apply zH|refine zF ?_ GE410.out)|exact HB.out))):w.heap.size≤gb424));have n6_:=Zk ((by rw [hg];exact Nat.ne_of_lt (zX (g:=gb410) (o:=.cells #[.int .i64 a1_0,.int .i64 a1_1,.bool a1_2] 36 (0,0)) (by (with_reducible repeat (first|refine zB ?_ _|refine zD ?_|refine zA ?_ _));exact BK410.out)):gb410≠gb424));have n7_:=Zk ((by rw [hg];exact Nat.ne_of_gt (zX (g:=gb410) (o:=.cells #[.int .i64 a1_0,.int .i64 a1_1,.bool a1_2] 36 (0,0)) (by (with_reducible repeat (first|refine zB ?_ _|refine zD ?_|refine zA ?_ _));exact BK410.out)):gb424≠gb410));clear HO416;clear BK410;clear HB;have HO416:=n0_;have BK410:=n1_;have HB:=n2_;have BK424:=n3_;have GW424:=n4_;have GE424:=n5_;have NB410_424:=n6_;have NB424_410:=n7_;clear n0_ n1_ n2_ n3_ n4_ n5_ n6_ n7_;clear hb hbox hg;have hnb22:=NB424_410.out;have hnc22:=NB410_424.out;have hcz23_0:w21.cell? ⟨gb424,0,none⟩=some (.int .i64 0):=(zJ BK424.out 0).trans rfl;have hcz23_1:w21.cell? ⟨gb424,1,none⟩=some (.int .i64 0):=(zJ BK424.out 1).trans rfl;have hcz23_2:w21.cell? ⟨gb424,2,none⟩=some (.bool false):=(zJ BK424.out 2).trans rfl;have hfz23_0:=zI BK424.out 0;have hfz23_1:=zI BK424.out 1;have hfz23_2:=zI BK424.out 2))
     (try simp only [Act.put,List.setIfInBounds_toArray,List.set_cons_zero,List.set_cons_succ])
     go_cut [61] (fun v61 wc=>∃ (kq:Nat) (x61_14:Bool),v61=.bool x61_14∧zR (jobshelllaw23_FdtabStays.j1 kq l0 t414 x61_14 a1_0 a1_1 a1_2=some r)∧zR (kq≤kj2)∧zR (Kd.V k36 36 wc w.heap.size (fun k_=>k_≠gb410∧k_≠gb424) (.slice Ao19 t414.length co19) t414)∧zR (wc.heap[gb410]?=some (.cells #[.int .i64 a1_0,.int .i64 a1_1,.bool a1_2] 36 (0,0)))∧zR (wc.heap[gb424]?=some (.cells #[.int .i64 t420,.int .i64 t421,.bool t422] 36 (0,0)))∧zR (Below w.heap.size w wc))
     case first=>as_aux_lemma=>
      have H:=HC15.out
      clear HC15
      replace H:=Option.bind_eq_some_iff.mp H
      obtain ⟨t425,A240,H⟩:=H
      replace H:(if t425=0 then (if t423=true then (jobshelllaw23_FdtabStays.j1 kj2 l0 t414 (!(t420 == a1_0) ||(!(t421 == a1_1) ||(!(t422 == a1_2)))) a1_0 a1_1 a1_2) else (jobshelllaw23_FdtabStays.j1 kj2 l0 t414 true a1_0 a1_1 a1_2)) else (jobshelllaw23_FdtabStays.j1 kj2 l0 t414 true a1_0 a1_1 a1_2))=some r:=H
      have A24:=Zk A240
      clear A240
      by_cases c25:t425=0
      ·rw [if_pos c25] at H
       have c25b0:(t425 == 0)=true:=beq_iff_eq.mpr c25
       have c25b1:(t425 != 0)=false:=bne_eq_false_iff_eq.mpr c25
       clear c25
       (first|rw [c25b0]|(simp only [i64_w,i32_w];rw [c25b0])|skip)
       by_cases c26:t423=true
       ·subst c26
        have H1:(jobshelllaw23_FdtabStays.j1 kj2 l0 t414 (!(t420 == a1_0) ||(!(t421 == a1_1) ||(!(t422 == a1_2)))) a1_0 a1_1 a1_2)=some r:=by rw [if_pos rfl] at H;exact H
        clear H
        have H:=H1
        clear H1
        have H':=Zk H
        clear H
        go_wp2_with (first|((with_reducible refine zW (f:=18) rfl ?_);refine yF (some 51) rfl rfl Try.func18 (by kernel_rfl) rfl #[.slice Ao19 t414.length co19] rfl (by (try simp only [List.map_toArray,List.map_cons,List.map_nil]);first|done|rfl|(simp only [List.length_drop,List.length_take];rfl)) ?_;(with_reducible refine (fdtab_Valid.calls kj2 _ _ t414 t425 _ ?side1 ?side2 A24.out).mono ?_);(case side1=>refine (zY (e:=36) (base:=w.heap.size) (ok:=fun k_=>(k_≠gb410∧k_≠gb424)) (n:=t414.length) (c:=co19) ?_).2.2;exact (by (with_reducible repeat (first|apply zN|apply zO|apply zQ));exact (zU (zV (p:=⟨gb424,2,none⟩) (zV (p:=⟨gb424,1,none⟩) (zV (p:=⟨gb424,0,none⟩) (zU HO416.out (fun k_ hk=>(⟨hk,hk.2⟩:_∧k_≠gb424))) (fun _ hk=>hk.2) (.int .i64 t420)) (fun _ hk=>hk.2) (.int .i64 t421)) (fun _ hk=>hk.2) (.bool t422)) (fun _ h_=>h_.1))));(case side2=>exact (zY HO416.out).2.1);rintro e w27 ⟨rfl,hb⟩;refine ⟨_,rfl,?_⟩;have n0_:=Zk (zT (by (with_reducible repeat (first|apply zN|apply zO|apply zQ));exact (zU (zV (p:=⟨gb424,2,none⟩) (zV (p:=⟨gb424,1,none⟩) (zV (p:=⟨gb424,0,none⟩) (zU HO416.out (fun k_ hk=>(⟨hk,hk.2⟩:_∧k_≠gb424))) (fun _ hk=>hk.2) (.int .i64 t420)) (fun _ hk=>hk.2) (.int .i64 t421)) (fun _ hk=>hk.2) (.bool t422)) (fun _ h_=>h_.1))) hb);have n1_:=Zk (zK (g:=gb410) (o:=.cells #[.int .i64 a1_0,.int .i64 a1_1,.bool a1_2] 36 (0,0)) (by (with_reducible repeat (first|refine zB ?_ _|refine zD ?_|refine zA ?_ _));refine zP ?_ NB410_424.out _;(with_reducible repeat (first|refine zB ?_ _|refine zD ?_|refine zA ?_ _));refine zP ?_ NB410_424.out _;(with_reducible repeat (first|refine zB ?_ _|refine zD ?_|refine zA ?_ _));refine zP ?_ NB410_424.out _;(with_reducible repeat (first|refine zB ?_ _|refine zD ?_|refine zA ?_ _));exact BK410.out) hb);have n2_:=Zk (zK (g:=gb424) (o:=.cells #[.int .i64 t420,.int .i64 t421,.bool t422] 36 (0,0)) (by (with_reducible repeat (first|refine zB ?_ _|refine zD ?_|refine zA ?_ _));refine zS (cs:=#[.int .i64 t420,.int .i64 t421,.bool false]) ?_ 2 _ rfl;(with_reducible repeat (first|refine zB ?_ _|refine zD ?_|refine zA ?_ _));refine zS (cs:=#[.int .i64 t420,.int .i64 0,.bool false]) ?_ 1 _ rfl;(with_reducible repeat (first|refine zB ?_ _|refine zD ?_|refine zA ?_ _));refine zS (cs:=#[.int .i64 0,.int .i64 0,.bool false]) ?_ 0 _ rfl;(with_reducible repeat (first|refine zB ?_ _|refine zD ?_|refine zA ?_ _));exact BK424.out) hb);have n3_:=Zk (zL (by repeat (first|(with_reducible first|exact HB.out|apply zG|apply zC|apply zH|refine zF ?_ GE410.out|refine zF ?_ GE424.out)|exact HB.out)) hb);clear HO416;clear BK410;clear BK424;clear HB;have HO416:=n0_;have BK410:=n1_;have BK424:=n2_;have HB:=n3_;clear n0_ n1_ n2_ n3_;(try clear hb);(try clear hb2);(try clear hk);(try clear hi);have hnb28:=NB424_410.out;have hnc28:=NB410_424.out;have hcz29_0:w27.cell? ⟨gb424,0,none⟩=some (.int .i64 t420):=(zJ BK424.out 0).trans rfl;have hcz29_1:w27.cell? ⟨gb424,1,none⟩=some (.int .i64 t421):=(zJ BK424.out 1).trans rfl;have hcz29_2:w27.cell? ⟨gb424,2,none⟩=some (.bool t422):=(zJ BK424.out 2).trans rfl;have hfz29_0:=zI BK424.out 0;have hfz29_1:=zI BK424.out 1;have hfz29_2:=zI BK424.out 2;have hcz30_0:w27.cell? ⟨gb410,0,none⟩=some (.int .i64 a1_0):=(zJ BK410.out 0).trans rfl;have hcz30_1:w27.cell? ⟨gb410,1,none⟩=some (.int .i64 a1_1):=(zJ BK410.out 1).trans rfl;have hcz30_2:w27.cell? ⟨gb410,2,none⟩=some (.bool a1_2):=(zJ BK410.out 2).trans rfl;have hfz30_0:=zI BK410.out 0;have hfz30_1:=zI BK410.out 1;have hfz30_2:=zI BK410.out 2))
        go_meet
        case rel=>exact ⟨_,((!(t420 == a1_0) ||(!(t421 == a1_1) ||(!(t422 == a1_2))))),(by first|rfl|(simp;done)|(simp [*];done)|(generalize ByteArray.toList _=l_;cases l_ <;> rfl)),H',⟨by have:=HJ2.out;first|omega|exact Nat.le_refl _⟩,⟨by (with_reducible repeat (first|apply zN|apply zO|apply zQ));exact HO416.out⟩,⟨by (with_reducible repeat (first|refine zB ?_ _|refine zD ?_|refine zA ?_ _));exact BK410.out⟩,⟨by (with_reducible repeat (first|refine zB ?_ _|refine zD ?_|refine zA ?_ _));exact BK424.out⟩,⟨by repeat (first|(with_reducible first|exact HB.out|apply zG|apply zC|apply zH|refine zF ?_ GE410.out|refine zF ?_ GE424.out)|exact HB.out)⟩⟩
       ·replace c26:=Bool.eq_false_iff.mpr c26
        subst c26
        have H1:(jobshelllaw23_FdtabStays.j1 kj2 l0 t414 true a1_0 a1_1 a1_2)=some r:=by rw [if_neg (show ¬ (false=true) by decide)] at H;exact H
        clear H
        have H:=H1
        clear H1
        have H':=Zk H
        clear H
        go_wp2_with (first|((with_reducible refine zW (f:=18) rfl ?_);refine yF (some 51) rfl rfl Try.func18 (by kernel_rfl) rfl #[.slice Ao19 t414.length co19] rfl (by (try simp only [List.map_toArray,List.map_cons,List.map_nil]);first|done|rfl|(simp only [List.length_drop,List.length_take];rfl)) ?_;(with_reducible refine (fdtab_Valid.calls kj2 _ _ t414 t425 _ ?side1 ?side2 A24.out).mono ?_);(case side1=>refine (zY (e:=36) (base:=w.heap.size) (ok:=fun k_=>(k_≠gb410∧k_≠gb424)) (n:=t414.length) (c:=co19) ?_).2.2;exact (by (with_reducible repeat (first|apply zN|apply zO|apply zQ));exact (zU (zV (p:=⟨gb424,2,none⟩) (zV (p:=⟨gb424,1,none⟩) (zV (p:=⟨gb424,0,none⟩) (zU HO416.out (fun k_ hk=>(⟨hk,hk.2⟩:_∧k_≠gb424))) (fun _ hk=>hk.2) (.int .i64 t420)) (fun _ hk=>hk.2) (.int .i64 t421)) (fun _ hk=>hk.2) (.bool t422)) (fun _ h_=>h_.1))));(case side2=>exact (zY HO416.out).2.1);rintro e w31 ⟨rfl,hb⟩;refine ⟨_,rfl,?_⟩;have n0_:=Zk (zT (by (with_reducible repeat (first|apply zN|apply zO|apply zQ));exact (zU (zV (p:=⟨gb424,2,none⟩) (zV (p:=⟨gb424,1,none⟩) (zV (p:=⟨gb424,0,none⟩) (zU HO416.out (fun k_ hk=>(⟨hk,hk.2⟩:_∧k_≠gb424))) (fun _ hk=>hk.2) (.int .i64 t420)) (fun _ hk=>hk.2) (.int .i64 t421)) (fun _ hk=>hk.2) (.bool t422)) (fun _ h_=>h_.1))) hb);have n1_:=Zk (zK (g:=gb410) (o:=.cells #[.int .i64 a1_0,.int .i64 a1_1,.bool a1_2] 36 (0,0)) (by (with_reducible repeat (first|refine zB ?_ _|refine zD ?_|refine zA ?_ _));refine zP ?_ NB410_424.out _;(with_reducible repeat (first|refine zB ?_ _|refine zD ?_|refine zA ?_ _));refine zP ?_ NB410_424.out _;(with_reducible repeat (first|refine zB ?_ _|refine zD ?_|refine zA ?_ _));refine zP ?_ NB410_424.out _;(with_reducible repeat (first|refine zB ?_ _|refine zD ?_|refine zA ?_ _));exact BK410.out) hb);have n2_:=Zk (zK (g:=gb424) (o:=.cells #[.int .i64 t420,.int .i64 t421,.bool t422] 36 (0,0)) (by (with_reducible repeat (first|refine zB ?_ _|refine zD ?_|refine zA ?_ _));refine zS (cs:=#[.int .i64 t420,.int .i64 t421,.bool false]) ?_ 2 _ rfl;(with_reducible repeat (first|refine zB ?_ _|refine zD ?_|refine zA ?_ _));refine zS (cs:=#[.int .i64 t420,.int .i64 0,.bool false]) ?_ 1 _ rfl;(with_reducible repeat (first|refine zB ?_ _|refine zD ?_|refine zA ?_ _));refine zS (cs:=#[.int .i64 0,.int .i64 0,.bool false]) ?_ 0 _ rfl;(with_reducible repeat (first|refine zB ?_ _|refine zD ?_|refine zA ?_ _));exact BK424.out) hb);have n3_:=Zk (zL (by repeat (first|(with_reducible first|exact HB.out|apply zG|apply zC|apply zH|refine zF ?_ GE410.out|refine zF ?_ GE424.out)|exact HB.out)) hb);clear HO416;clear BK410;clear BK424;clear HB;have HO416:=n0_;have BK410:=n1_;have BK424:=n2_;have HB:=n3_;clear n0_ n1_ n2_ n3_;(try clear hb);(try clear hb2);(try clear hk);(try clear hi)))
        go_meet
        case rel=>exact ⟨_,(true),(by first|rfl|(simp;done)|(simp [*];done)|(generalize ByteArray.toList _=l_;cases l_ <;> rfl)),H',⟨by have:=HJ2.out;first|omega|exact Nat.le_refl _⟩,⟨by (with_reducible repeat (first|apply zN|apply zO|apply zQ));exact HO416.out⟩,⟨by (with_reducible repeat (first|refine zB ?_ _|refine zD ?_|refine zA ?_ _));exact BK410.out⟩,⟨by (with_reducible repeat (first|refine zB ?_ _|refine zD ?_|refine zA ?_ _));exact BK424.out⟩,⟨by repeat (first|(with_reducible first|exact HB.out|apply zG|apply zC|apply zH|refine zF ?_ GE410.out|refine zF ?_ GE424.out)|exact HB.out)⟩⟩
      ·rw [if_neg c25] at H
       have c25b0:(t425 == 0)=false:=beq_eq_false_iff_ne.mpr c25
       have c25b1:(t425 != 0)=true:=bne_iff_ne.mpr c25
       (first|rw [c25b0]|(simp only [i64_w,i32_w];rw [c25b0])|skip)
       have H':=Zk H
       clear H
       go_wp2_with (first|((with_reducible refine zW (f:=18) rfl ?_);refine yF (some 51) rfl rfl Try.func18 (by kernel_rfl) rfl #[.slice Ao19 t414.length co19] rfl (by (try simp only [List.map_toArray,List.map_cons,List.map_nil]);first|done|rfl|(simp only [List.length_drop,List.length_take];rfl)) ?_;(with_reducible refine (fdtab_Valid.calls kj2 _ _ t414 t425 _ ?side1 ?side2 A24.out).mono ?_);(case side1=>refine (zY (e:=36) (base:=w.heap.size) (ok:=fun k_=>(k_≠gb410∧k_≠gb424)) (n:=t414.length) (c:=co19) ?_).2.2;exact (by (with_reducible repeat (first|apply zN|apply zO|apply zQ));exact (zU (zV (p:=⟨gb424,2,none⟩) (zV (p:=⟨gb424,1,none⟩) (zV (p:=⟨gb424,0,none⟩) (zU HO416.out (fun k_ hk=>(⟨hk,hk.2⟩:_∧k_≠gb424))) (fun _ hk=>hk.2) (.int .i64 t420)) (fun _ hk=>hk.2) (.int .i64 t421)) (fun _ hk=>hk.2) (.bool t422)) (fun _ h_=>h_.1))));(case side2=>exact (zY HO416.out).2.1);rintro e w32 ⟨rfl,hb⟩;refine ⟨_,rfl,?_⟩;have n0_:=Zk (zT (by (with_reducible repeat (first|apply zN|apply zO|apply zQ));exact (zU (zV (p:=⟨gb424,2,none⟩) (zV (p:=⟨gb424,1,none⟩) (zV (p:=⟨gb424,0,none⟩) (zU HO416.out (fun k_ hk=>(⟨hk,hk.2⟩:_∧k_≠gb424))) (fun _ hk=>hk.2) (.int .i64 t420)) (fun _ hk=>hk.2) (.int .i64 t421)) (fun _ hk=>hk.2) (.bool t422)) (fun _ h_=>h_.1))) hb);have n1_:=Zk (zK (g:=gb410) (o:=.cells #[.int .i64 a1_0,.int .i64 a1_1,.bool a1_2] 36 (0,0)) (by (with_reducible repeat (first|refine zB ?_ _|refine zD ?_|refine zA ?_ _));refine zP ?_ NB410_424.out _;(with_reducible repeat (first|refine zB ?_ _|refine zD ?_|refine zA ?_ _));refine zP ?_ NB410_424.out _;(with_reducible repeat (first|refine zB ?_ _|refine zD ?_|refine zA ?_ _));refine zP ?_ NB410_424.out _;(with_reducible repeat (first|refine zB ?_ _|refine zD ?_|refine zA ?_ _));exact BK410.out) hb);have n2_:=Zk (zK (g:=gb424) (o:=.cells #[.int .i64 t420,.int .i64 t421,.bool t422] 36 (0,0)) (by (with_reducible repeat (first|refine zB ?_ _|refine zD ?_|refine zA ?_ _));refine zS (cs:=#[.int .i64 t420,.int .i64 t421,.bool false]) ?_ 2 _ rfl;(with_reducible repeat (first|refine zB ?_ _|refine zD ?_|refine zA ?_ _));refine zS (cs:=#[.int .i64 t420,.int .i64 0,.bool false]) ?_ 1 _ rfl;(with_reducible repeat (first|refine zB ?_ _|refine zD ?_|refine zA ?_ _));refine zS (cs:=#[.int .i64 0,.int .i64 0,.bool false]) ?_ 0 _ rfl;(with_reducible repeat (first|refine zB ?_ _|refine zD ?_|refine zA ?_ _));exact BK424.out) hb);have n3_:=Zk (zL (by repeat (first|(with_reducible first|exact HB.out|apply zG|apply zC|apply zH|refine zF ?_ GE410.out|refine zF ?_ GE424.out)|exact HB.out)) hb);clear HO416;clear BK410;clear BK424;clear HB;have HO416:=n0_;have BK410:=n1_;have BK424:=n2_;have HB:=n3_;clear n0_ n1_ n2_ n3_;(try clear hb);(try clear hb2);(try clear hk);(try clear hi)))
       go_meet
       case rel=>exact ⟨_,(true),(by first|rfl|(simp;done)|(simp [*];done)|(generalize ByteArray.toList _=l_;cases l_ <;> rfl)),H',⟨by have:=HJ2.out;first|omega|exact Nat.le_refl _⟩,⟨by (with_reducible repeat (first|apply zN|apply zO|apply zQ));exact HO416.out⟩,⟨by (with_reducible repeat (first|refine zB ?_ _|refine zD ?_|refine zA ?_ _));exact BK410.out⟩,⟨by (with_reducible repeat (first|refine zB ?_ _|refine zD ?_|refine zA ?_ _));exact BK424.out⟩,⟨by repeat (first|(with_reducible first|exact HB.out|apply zG|apply zC|apply zH|refine zF ?_ GE410.out|refine zF ?_ GE424.out)|exact HB.out)⟩⟩
     case rest=>as_aux_lemma=>
      clear HC15
      try clear c1
      try clear c2
      try clear p2
      try clear c6
      try clear c8
      try clear c9
      try clear c10
      try clear c13
      try clear c13b0
      try clear c13b1
      try clear c14
      try clear c18
      try clear c22
      try clear c24
      try clear c25
      try clear c25b0
      try clear c25b1
      try clear c26
      try clear c28
      try clear hcz16_0
      try clear hcz16_1
      try clear hcz16_2
      try clear hcz18_0
      try clear hcz18_1
      try clear hcz18_2
      try clear hcz23_0
      try clear hcz23_1
      try clear hcz23_2
      try clear hcz29_0
      try clear hcz29_1
      try clear hcz29_2
      try clear hcz30_0
      try clear hcz30_1
      try clear hcz30_2
      try clear hfz16_0
      try clear hfz16_1
      try clear hfz16_2
      try clear hfz18_0
      try clear hfz18_1
      try clear hfz18_2
      try clear hfz23_0
      try clear hfz23_1
      try clear hfz23_2
      try clear hfz29_0
      try clear hfz29_1
      try clear hfz29_2
      try clear hfz30_0
      try clear hfz30_1
      try clear hfz30_2
      try clear p2
      obtain ⟨kq,x61_14,rfl,HA,HJ14,HO_5,BK410,BK424,HB⟩:=hcut
      cases kq with
      |zero=>exact absurd HA.out (by simp [jobshelllaw23_FdtabStays.j1])
      |succ kj14=>
       have H:=HA.out
       clear HA
       simp only [jobshelllaw23_FdtabStays.j1] at H
       by_cases c33:x61_14=true
       ·subst c33
        have H1:(some false)=some r:=by rw [if_pos rfl] at H;exact H
        clear H
        have H:=H1
        clear H1
        obtain rfl:=Option.some.inj H
        go_wp2
        go_ret
        exact ⟨by first|rfl|(simp [errW_none,errW_some] <;> rfl)|(simp [*,errW_none,errW_some] <;> rfl),by repeat (first|(with_reducible first|exact HB.out|apply zG|apply zC|apply zH|refine zF ?_ GE410.out|refine zF ?_ GE424.out)|exact HB.out)⟩
       ·replace c33:=Bool.eq_false_iff.mpr c33
        subst c33
        have H1:(jobshelllaw23_FdtabStays.l0 kj14 l0 t414 (-1) a1_0 a1_1 a1_2)=some r:=by rw [if_neg (show ¬ (false=true) by decide)] at H;exact H
        clear H
        have H:=H1
        clear H1
        have H':=Zk H
        clear H
        go_wp2
        go_loopg [9] kj14 (fun kq v9 w'=>∃ (x9_3:Int),v9=.int .i64 x9_3∧zR (jobshelllaw23_FdtabStays.l0 kq l0 t414 x9_3 a1_0 a1_1 a1_2=some r)∧zR (kq≤kj14)∧zR (Kd.V k36 36 w' w.heap.size (fun k_=>k_≠gb410∧k_≠gb424) (.slice Ao19 t414.length co19) t414)∧zR (w'.heap[gb410]?=some (.cells #[.int .i64 a1_0,.int .i64 a1_1,.bool a1_2] 36 (0,0)))∧zR (w'.heap[gb424]?=some (.cells #[.int .i64 t420,.int .i64 t421,.bool t422] 36 (0,0)))∧zR (Below w.heap.size w w'))
        case atStart=>exact ⟨((-1)),(by first|rfl|(simp;done)|(simp [*];done)|(generalize ByteArray.toList _=l_;cases l_ <;> rfl)),H',⟨Nat.le_refl _⟩,⟨by (with_reducible repeat (first|apply zN|apply zO|apply zQ));exact HO_5.out⟩,⟨by (with_reducible repeat (first|refine zB ?_ _|refine zD ?_|refine zA ?_ _));exact BK410.out⟩,⟨by (with_reducible repeat (first|refine zB ?_ _|refine zD ?_|refine zA ?_ _));exact BK424.out⟩,⟨by repeat (first|(with_reducible first|exact HB.out|apply zG|apply zC|apply zH|refine zF ?_ GE410.out|refine zF ?_ GE424.out)|exact HB.out)⟩⟩
        case round=>as_aux_lemma=>
         clear H'
         try clear c1
         try clear c2
         try clear p2
         try clear c3
         try clear c6
         try clear c8
         try clear c9
         try clear c10
         try clear c13
         try clear c13b0
         try clear c13b1
         try clear c14
         try clear c18
         try clear c22
         try clear c24
         try clear c25
         try clear c25b0
         try clear c25b1
         try clear c26
         try clear c28
         try clear c33
         try clear hcz16_0
         try clear hcz16_1
         try clear hcz16_2
         try clear hcz18_0
         try clear hcz18_1
         try clear hcz18_2
         try clear hcz23_0
         try clear hcz23_1
         try clear hcz23_2
         try clear hcz29_0
         try clear hcz29_1
         try clear hcz29_2
         try clear hcz30_0
         try clear hcz30_1
         try clear hcz30_2
         try clear hfz16_0
         try clear hfz16_1
         try clear hfz16_2
         try clear hfz18_0
         try clear hfz18_1
         try clear hfz18_2
         try clear hfz23_0
         try clear hfz23_1
         try clear hfz23_2
         try clear hfz29_0
         try clear hfz29_1
         try clear hfz29_2
         try clear hfz30_0
         try clear hfz30_1
         try clear hfz30_2
         try clear p2
         obtain ⟨x9_3,rfl,HA,HK3,HO_5,BK410,BK424,HB⟩:=hrel
         cases gk with
         |zero=>exact absurd HA.out (by simp [jobshelllaw23_FdtabStays.l0])
         |succ k3=>
          have H:=HA.out
          clear HA
          simp only [jobshelllaw23_FdtabStays.l0] at H
          by_cases c34:x9_3≤32
          ·rw [if_pos c34] at H
           have c34b0:decide (x9_3≤32)=true:=decide_eq_true c34
           clear c34
           replace H:=Option.bind_eq_some_iff.mp H
           obtain ⟨⟨t426,t427,t428,t429⟩,A350,H⟩:=H
           replace H:((fdtab_Get.f t414 x9_3).bind fun bt431=>(if x9_3=a1_0 then (jobshelllaw23_FdtabStays.l0 k3 l0 t414 (wrap64 (x9_3 + 1)) a1_0 a1_1 a1_2) else (if (!(t426 == bt431.1) ||(!(t427 == bt431.2.1) ||(!(t428 == bt431.2.2.1))))=true then (some false) else (if (t429 != bt431.2.2.2)=true then (some false) else (jobshelllaw23_FdtabStays.l0 k3 l0 t414 (wrap64 (x9_3 + 1)) a1_0 a1_1 a1_2)))))=some r:=H
           have A35:=Zk A350
           clear A350
           replace H:=Option.bind_eq_some_iff.mp H
           obtain ⟨⟨t431,t432,t433,t434⟩,A360,H⟩:=H
           replace H:(if x9_3=a1_0 then (jobshelllaw23_FdtabStays.l0 k3 l0 t414 (wrap64 (x9_3 + 1)) a1_0 a1_1 a1_2) else (if (!(t426 == t431) ||(!(t427 == t432) ||(!(t428 == t433))))=true then (some false) else (if (t429 != t434)=true then (some false) else (jobshelllaw23_FdtabStays.l0 k3 l0 t414 (wrap64 (x9_3 + 1)) a1_0 a1_1 a1_2))))=some r:=H
           have A36:=Zk A360
           clear A360
           by_cases c37:x9_3=a1_0
           ·rw [if_pos c37] at H
            have c37b0:(x9_3 == a1_0)=true:=beq_iff_eq.mpr c37
            have c37b1:(x9_3 != a1_0)=false:=bne_eq_false_iff_eq.mpr c37
            clear c37
            have H':=Zk H
            clear H
            go_wp2_with (first|((with_reducible refine zW (f:=14) rfl ?_);refine yF (some 69) rfl rfl Try.func14 (by kernel_rfl) rfl #[.slice A0 l0.length c0,.int .i64 x9_3] rfl (by (try simp only [List.map_toArray,List.map_cons,List.map_nil]);first|done|rfl|(simp only [List.length_drop,List.length_take];rfl)) ?_;(with_reducible refine (fdtab_Get.calls _ _ l0 x9_3 t426 t427 t428 t429 _ ?side1 ?side2 A35.out).mono ?_);(case side1=>repeat (first|exact (C_below HR0.out HB.out)|(with_reducible refine yC ?_ _)|(with_reducible refine yD ?_ _)|(with_reducible refine C_drew ?_)));(case side2=>exact HC0.out);rintro e w38 ⟨rfl,hb⟩;refine ⟨_,rfl,?_⟩;have n0_:=Zk (zT (by (with_reducible repeat (first|apply zN|apply zO|apply zQ));exact HO_5.out) hb);have n1_:=Zk (zK (g:=gb410) (o:=.cells #[.int .i64 a1_0,.int .i64 a1_1,.bool a1_2] 36 (0,0)) (by (with_reducible repeat (first|refine zB ?_ _|refine zD ?_|refine zA ?_ _));exact BK410.out) hb);have n2_:=Zk (zK (g:=gb424) (o:=.cells #[.int .i64 t420,.int .i64 t421,.bool t422] 36 (0,0)) (by (with_reducible repeat (first|refine zB ?_ _|refine zD ?_|refine zA ?_ _));exact BK424.out) hb);have n3_:=Zk (zL (by repeat (first|(with_reducible first|exact HB.out|apply zG|apply zC|apply zH|refine zF ?_ GE410.out|refine zF ?_ GE424.out)|exact HB.out)) hb);clear HO_5;clear BK410;clear BK424;clear HB;have HO_5:=n0_;have BK410:=n1_;have BK424:=n2_;have HB:=n3_;clear n0_ n1_ n2_ n3_;(try clear hb);(try clear hb2);(try clear hk);(try clear hi))|((with_reducible refine yE (N:=10) rfl ?_);refine yG ?hg (N:=10) ?hd (cs:=#[.int .i64 0,.int .i64 0,.bool false]) (t:=36) ?hr ?_;(case hd=>rfl);(case hg=>rfl);(case hr=>first|(go_simp;done)|(go_simp;rfl));intro gb430 hg w39 hbox hb;have n0_:=Zk (zT (V_elderB (by (with_reducible repeat (first|apply zN|apply zO|apply zQ));exact HO_5.out) gb430 (Nat.le_of_eq hg.symm)) hb);have n1_:=Zk (zK (g:=gb410) (o:=.cells #[.int .i64 a1_0,.int .i64 a1_1,.bool a1_2] 36 (0,0)) (by (with_reducible repeat (first|refine zB ?_ _|refine zD ?_|refine zA ?_ _));exact BK410.out) hb);have n2_:=Zk (zK (g:=gb424) (o:=.cells #[.int .i64 t420,.int .i64 t421,.bool t422] 36 (0,0)) (by (with_reducible repeat (first|refine zB ?_ _|refine zD ?_|refine zA ?_ _));exact BK424.out) hb);have n3_:=Zk (zL (by repeat (first|(with_reducible first|exact HB.out|apply zG|apply zC|apply zH|refine zF ?_ GE410.out|refine zF ?_ GE424.out)|exact HB.out)) hb);have n4_:=Zk (hbox);have n5_:=Zk ((by rw [hg];exact (zM (by repeat (first|(with_reducible first|exact HB.out|apply zG|apply zC|apply zH|refine zF ?_ GE410.out|refine zF ?_ GE424.out)|exact HB.out))):w.heap.size≤gb430));have n6_:=Zk ((by rw [hg];exact (zM (by repeat (first|(with_reducible first|exact HB.out|apply zG|apply zC|apply zH|refine zF ?_ GE410.out|refine zF ?_ GE424.out)|exact HB.out))):w.heap.size≤gb430));have n7_:=Zk ((by rw [hg];exact Nat.ne_of_lt (zX (g:=gb410) (o:=.cells #[.int .i64 a1_0,.int .i64 a1_1,.bool a1_2] 36 (0,0)) (by (with_reducible repeat (first|refine zB ?_ _|refine zD ?_|refine zA ?_ _));exact BK410.out)):gb410≠gb430));have n8_:=Zk ((by rw [hg];exact Nat.ne_of_gt (zX (g:=gb410) (o:=.cells #[.int .i64 a1_0,.int .i64 a1_1,.bool a1_2] 36 (0,0)) (by (with_reducible repeat (first|refine zB ?_ _|refine zD ?_|refine zA ?_ _));exact BK410.out)):gb430≠gb410));have n9_:=Zk ((by rw [hg];exact Nat.ne_of_lt (zX (g:=gb424) (o:=.cells #[.int .i64 t420,.int .i64 t421,.bool t422] 36 (0,0)) (by (with_reducible repeat (first|refine zB ?_ _|refine zD ?_|refine zA ?_ _));exact BK424.out)):gb424≠gb430));have n10_:=Zk ((by rw [hg];exact Nat.ne_of_gt (zX (g:=gb424) (o:=.cells #[.int .i64 t420,.int .i64 t421,.bool t422] 36 (0,0)) (by (with_reducible repeat (first|refine zB ?_ _|refine zD ?_|refine zA ?_ _));exact BK424.out)):gb430≠gb424));clear HO_5;clear BK410;clear BK424;clear HB;have HO_5:=n0_;have BK410:=n1_;have BK424:=n2_;have HB:=n3_;have BK430:=n4_;have GW430:=n5_;have GE430:=n6_;have NB410_430:=n7_;have NB430_410:=n8_;have NB424_430:=n9_;have NB430_424:=n10_;clear n0_ n1_ n2_ n3_ n4_ n5_ n6_ n7_ n8_ n9_ n10_;clear hb hbox hg;have hnb40:=NB430_410.out;have hnc40:=NB410_430.out;have hnb41:=NB430_424.out;have hnc41:=NB424_430.out;have hcz42_0:w39.cell? ⟨gb430,0,none⟩=some (.int .i64 0):=(zJ BK430.out 0).trans rfl;have hcz42_1:w39.cell? ⟨gb430,1,none⟩=some (.int .i64 0):=(zJ BK430.out 1).trans rfl;have hcz42_2:w39.cell? ⟨gb430,2,none⟩=some (.bool false):=(zJ BK430.out 2).trans rfl;have hfz42_0:=zI BK430.out 0;have hfz42_1:=zI BK430.out 1;have hfz42_2:=zI BK430.out 2)|((with_reducible refine zW (f:=14) rfl ?_);refine yF (some 75) rfl rfl Try.func14 (by kernel_rfl) rfl #[.slice Ao19 t414.length co19,.int .i64 x9_3] rfl (by (try simp only [List.map_toArray,List.map_cons,List.map_nil]);first|done|rfl|(simp only [List.length_drop,List.length_take];rfl)) ?_;(with_reducible refine (fdtab_Get.calls _ _ t414 x9_3 t431 t432 t433 t434 _ ?side1 ?side2 A36.out).mono ?_);(case side1=>refine (zY (e:=36) (base:=w.heap.size) (ok:=fun k_=>((k_≠gb410∧k_≠gb424)∧k_≠gb430)) (n:=t414.length) (c:=co19) ?_).2.2;exact (by (with_reducible repeat (first|apply zN|apply zO|apply zQ));exact (zU (zV (p:=⟨gb430,2,none⟩) (zV (p:=⟨gb430,1,none⟩) (zV (p:=⟨gb430,0,none⟩) (zU HO_5.out (fun k_ hk=>(⟨hk,hk.2⟩:_∧k_≠gb430))) (fun _ hk=>hk.2) (.int .i64 t426)) (fun _ hk=>hk.2) (.int .i64 t427)) (fun _ hk=>hk.2) (.bool t428)) (fun _ h_=>h_.1))));(case side2=>exact (zY HO_5.out).2.1);rintro e w43 ⟨rfl,hb⟩;refine ⟨_,rfl,?_⟩;have n0_:=Zk (zT (by (with_reducible repeat (first|apply zN|apply zO|apply zQ));exact (zU (zV (p:=⟨gb430,2,none⟩) (zV (p:=⟨gb430,1,none⟩) (zV (p:=⟨gb430,0,none⟩) (zU HO_5.out (fun k_ hk=>(⟨hk,hk.2⟩:_∧k_≠gb430))) (fun _ hk=>hk.2) (.int .i64 t426)) (fun _ hk=>hk.2) (.int .i64 t427)) (fun _ hk=>hk.2) (.bool t428)) (fun _ h_=>h_.1))) hb);have n1_:=Zk (zK (g:=gb410) (o:=.cells #[.int .i64 a1_0,.int .i64 a1_1,.bool a1_2] 36 (0,0)) (by (with_reducible repeat (first|refine zB ?_ _|refine zD ?_|refine zA ?_ _));refine zP ?_ NB410_430.out _;(with_reducible repeat (first|refine zB ?_ _|refine zD ?_|refine zA ?_ _));refine zP ?_ NB410_430.out _;(with_reducible repeat (first|refine zB ?_ _|refine zD ?_|refine zA ?_ _));refine zP ?_ NB410_430.out _;(with_reducible repeat (first|refine zB ?_ _|refine zD ?_|refine zA ?_ _));exact BK410.out) hb);have n2_:=Zk (zK (g:=gb424) (o:=.cells #[.int .i64 t420,.int .i64 t421,.bool t422] 36 (0,0)) (by (with_reducible repeat (first|refine zB ?_ _|refine zD ?_|refine zA ?_ _));refine zP ?_ NB424_430.out _;(with_reducible repeat (first|refine zB ?_ _|refine zD ?_|refine zA ?_ _));refine zP ?_ NB424_430.out _;(with_reducible repeat (first|refine zB ?_ _|refine zD ?_|refine zA ?_ _));refine zP ?_ NB424_430.out _;(with_reducible repeat (first|refine zB ?_ _|refine zD ?_|refine zA ?_ _));exact BK424.out) hb);have n3_:=Zk (zK (g:=gb430) (o:=.cells #[.int .i64 t426,.int .i64 t427,.bool t428] 36 (0,0)) (by (with_reducible repeat (first|refine zB ?_ _|refine zD ?_|refine zA ?_ _));refine zS (cs:=#[.int .i64 t426,.int .i64 t427,.bool false]) ?_ 2 _ rfl;(with_reducible repeat (first|refine zB ?_ _|refine zD ?_|refine zA ?_ _));refine zS (cs:=#[.int .i64 t426,.int .i64 0,.bool false]) ?_ 1 _ rfl;(with_reducible repeat (first|refine zB ?_ _|refine zD ?_|refine zA ?_ _));refine zS (cs:=#[.int .i64 0,.int .i64 0,.bool false]) ?_ 0 _ rfl;(with_reducible repeat (first|refine zB ?_ _|refine zD ?_|refine zA ?_ _));exact BK430.out) hb);have n4_:=Zk (zL (by repeat (first|(with_reducible first|exact HB.out|apply zG|apply zC|apply zH|refine zF ?_ GE410.out|refine zF ?_ GE424.out|refine zF ?_ GE430.out)|exact HB.out)) hb);clear HO_5;clear BK410;clear BK424;clear BK430;clear HB;have HO_5:=n0_;have BK410:=n1_;have BK424:=n2_;have BK430:=n3_;have HB:=n4_;clear n0_ n1_ n2_ n3_ n4_;(try clear hb);(try clear hb2);(try clear hk);(try clear hi))|((with_reducible refine yE (N:=12) rfl ?_);refine yG ?hg (N:=12) ?hd (cs:=#[.int .i64 0,.int .i64 0,.bool false]) (t:=36) ?hr ?_;(case hd=>rfl);(case hg=>rfl);(case hr=>first|(go_simp;done)|(go_simp;rfl));intro gb435 hg w44 hbox hb;have n0_:=Zk (zT (V_elderB (by (with_reducible repeat (first|apply zN|apply zO|apply zQ));exact HO_5.out) gb435 (Nat.le_of_eq hg.symm)) hb);have n1_:=Zk (zK (g:=gb410) (o:=.cells #[.int .i64 a1_0,.int .i64 a1_1,.bool a1_2] 36 (0,0)) (by (with_reducible repeat (first|refine zB ?_ _|refine zD ?_|refine zA ?_ _));exact BK410.out) hb);have n2_:=Zk (zK (g:=gb424) (o:=.cells #[.int .i64 t420,.int .i64 t421,.bool t422] 36 (0,0)) (by (with_reducible repeat (first|refine zB ?_ _|refine zD ?_|refine zA ?_ _));exact BK424.out) hb);have n3_:=Zk (zK (g:=gb430) (o:=.cells #[.int .i64 t426,.int .i64 t427,.bool t428] 36 (0,0)) (by (with_reducible repeat (first|refine zB ?_ _|refine zD ?_|refine zA ?_ _));exact BK430.out) hb);have n4_:=Zk (zL (by repeat (first|(with_reducible first|exact HB.out|apply zG|apply zC|apply zH|refine zF ?_ GE410.out|refine zF ?_ GE424.out|refine zF ?_ GE430.out)|exact HB.out)) hb);have n5_:=Zk (hbox);have n6_:=Zk ((by rw [hg];exact (zM (by repeat (first|(with_reducible first|exact HB.out|apply zG|apply zC|apply zH|refine zF ?_ GE410.out|refine zF ?_ GE424.out|refine zF ?_ GE430.out)|exact HB.out))):w.heap.size≤gb435));have n7_:=Zk ((by rw [hg];exact (zM (by repeat (first|(with_reducible first|exact HB.out|apply zG|apply zC|apply zH|refine zF ?_ GE410.out|refine zF ?_ GE424.out|refine zF ?_ GE430.out)|exact HB.out))):w.heap.size≤gb435));have n8_:=Zk ((by rw [hg];exact Nat.ne_of_lt (zX (g:=gb410) (o:=.cells #[.int .i64 a1_0,.int .i64 a1_1,.bool a1_2] 36 (0,0)) (by (with_reducible repeat (first|refine zB ?_ _|refine zD ?_|refine zA ?_ _));exact BK410.out)):gb410≠gb435));have n9_:=Zk ((by rw [hg];exact Nat.ne_of_gt (zX (g:=gb410) (o:=.cells #[.int .i64 a1_0,.int .i64 a1_1,.bool a1_2] 36 (0,0)) (by (with_reducible repeat (first|refine zB ?_ _|refine zD ?_|refine zA ?_ _));exact BK410.out)):gb435≠gb410));have n10_:=Zk ((by rw [hg];exact Nat.ne_of_lt (zX (g:=gb424) (o:=.cells #[.int .i64 t420,.int .i64 t421,.bool t422] 36 (0,0)) (by (with_reducible repeat (first|refine zB ?_ _|refine zD ?_|refine zA ?_ _));exact BK424.out)):gb424≠gb435));have n11_:=Zk ((by rw [hg];exact Nat.ne_of_gt (zX (g:=gb424) (o:=.cells #[.int .i64 t420,.int .i64 t421,.bool t422] 36 (0,0)) (by (with_reducible repeat (first|refine zB ?_ _|refine zD ?_|refine zA ?_ _));exact BK424.out)):gb435≠gb424));have n12_:=Zk ((by rw [hg];exact Nat.ne_of_lt (zX (g:=gb430) (o:=.cells #[.int .i64 t426,.int .i64 t427,.bool t428] 36 (0,0)) (by (with_reducible repeat (first|refine zB ?_ _|refine zD ?_|refine zA ?_ _));exact BK430.out)):gb430≠gb435));have n13_:=Zk ((by rw [hg];exact Nat.ne_of_gt (zX (g:=gb430) (o:=.cells #[.int .i64 t426,.int .i64 t427,.bool t428] 36 (0,0)) (by (with_reducible repeat (first|refine zB ?_ _|refine zD ?_|refine zA ?_ _));exact BK430.out)):gb435≠gb430));clear HO_5;clear BK410;clear BK424;clear BK430;clear HB;have HO_5:=n0_;have BK410:=n1_;have BK424:=n2_;have BK430:=n3_;have HB:=n4_;have BK435:=n5_;have GW435:=n6_;have GE435:=n7_;have NB410_435:=n8_;have NB435_410:=n9_;have NB424_435:=n10_;have NB435_424:=n11_;have NB430_435:=n12_;have NB435_430:=n13_;clear n0_ n1_ n2_ n3_ n4_ n5_ n6_ n7_ n8_ n9_ n10_ n11_ n12_ n13_;clear hb hbox hg;have hnb45:=NB435_410.out;have hnc45:=NB410_435.out;have hnb46:=NB435_424.out;have hnc46:=NB424_435.out;have hnb47:=NB435_430.out;have hnc47:=NB430_435.out;have hcz48_0:w44.cell? ⟨gb435,0,none⟩=some (.int .i64 0):=(zJ BK435.out 0).trans rfl;have hcz48_1:w44.cell? ⟨gb435,1,none⟩=some (.int .i64 0):=(zJ BK435.out 1).trans rfl;have hcz48_2:w44.cell? ⟨gb435,2,none⟩=some (.bool false):=(zJ BK435.out 2).trans rfl;have hfz48_0:=zI BK435.out 0;have hfz48_1:=zI BK435.out 1;have hfz48_2:=zI BK435.out 2;have hnb49:=NB410_424.out;have hnc49:=NB424_410.out;have hcz50_0:w44.cell? ⟨gb410,0,none⟩=some (.int .i64 a1_0):=(zJ BK410.out 0).trans rfl;have hcz50_1:w44.cell? ⟨gb410,1,none⟩=some (.int .i64 a1_1):=(zJ BK410.out 1).trans rfl;have hcz50_2:w44.cell? ⟨gb410,2,none⟩=some (.bool a1_2):=(zJ BK410.out 2).trans rfl;have hfz50_0:=zI BK410.out 0;have hfz50_1:=zI BK410.out 1;have hfz50_2:=zI BK410.out 2))
            go_roundg k3
            case measure=>have:=HJ2.out;have:=HJ14.out;have:=HK3.out;omega
            case rel=>exact ⟨(wrap64 (x9_3 + 1)),(by first|rfl|(simp;done)|(simp [*];done)|(generalize ByteArray.toList _=l_;cases l_ <;> rfl)),H',⟨by have:=HJ2.out;have:=HJ14.out;have:=HK3.out;omega⟩,⟨by (with_reducible repeat (first|apply zN|apply zO|apply zQ));exact zU (zV (p:=⟨gb435,2,none⟩) (zV (p:=⟨gb435,1,none⟩) (zV (p:=⟨gb435,0,none⟩) (zU HO_5.out (fun k_ hk=>(⟨hk,hk.2⟩:_∧k_≠gb435))) (fun _ hk=>hk.2) (.int .i64 t431)) (fun _ hk=>hk.2) (.int .i64 t432)) (fun _ hk=>hk.2) (.bool t433)) (fun _ hk=>⟨hk.1.1.1.1,hk.1.1.1.2⟩)⟩,⟨by (with_reducible repeat (first|refine zB ?_ _|refine zD ?_|refine zA ?_ _));refine zP ?_ NB410_435.out _;(with_reducible repeat (first|refine zB ?_ _|refine zD ?_|refine zA ?_ _));refine zP ?_ NB410_435.out _;(with_reducible repeat (first|refine zB ?_ _|refine zD ?_|refine zA ?_ _));refine zP ?_ NB410_435.out _;(with_reducible repeat (first|refine zB ?_ _|refine zD ?_|refine zA ?_ _));exact BK410.out⟩,⟨by (with_reducible repeat (first|refine zB ?_ _|refine zD ?_|refine zA ?_ _));refine zP ?_ NB424_435.out _;(with_reducible repeat (first|refine zB ?_ _|refine zD ?_|refine zA ?_ _));refine zP ?_ NB424_435.out _;(with_reducible repeat (first|refine zB ?_ _|refine zD ?_|refine zA ?_ _));refine zP ?_ NB424_435.out _;(with_reducible repeat (first|refine zB ?_ _|refine zD ?_|refine zA ?_ _));exact BK424.out⟩,⟨by repeat (first|(with_reducible first|exact HB.out|apply zG|apply zC|apply zH|refine zF ?_ GE410.out|refine zF ?_ GE424.out|refine zF ?_ GE430.out|refine zF ?_ GE435.out)|exact HB.out)⟩⟩
           ·rw [if_neg c37] at H
            have c37b0:(x9_3 == a1_0)=false:=beq_eq_false_iff_ne.mpr c37
            have c37b1:(x9_3 != a1_0)=true:=bne_iff_ne.mpr c37
            by_cases c51:(!(t426 == t431) ||(!(t427 == t432) ||(!(t428 == t433))))=true
            ·rw [if_pos c51] at H
             have c51b0:(!(t426 == t431) ||(!(t427 == t432) ||(!(t428 == t433))))=true:=c51
             clear c51
             obtain rfl:=Option.some.inj H
             go_wp2_with (first|((with_reducible refine zW (f:=14) rfl ?_);refine yF (some 69) rfl rfl Try.func14 (by kernel_rfl) rfl #[.slice A0 l0.length c0,.int .i64 x9_3] rfl (by (try simp only [List.map_toArray,List.map_cons,List.map_nil]);first|done|rfl|(simp only [List.length_drop,List.length_take];rfl)) ?_;(with_reducible refine (fdtab_Get.calls _ _ l0 x9_3 t426 t427 t428 t429 _ ?side1 ?side2 A35.out).mono ?_);(case side1=>repeat (first|exact (C_below HR0.out HB.out)|(with_reducible refine yC ?_ _)|(with_reducible refine yD ?_ _)|(with_reducible refine C_drew ?_)));(case side2=>exact HC0.out);rintro e w52 ⟨rfl,hb⟩;refine ⟨_,rfl,?_⟩;have n0_:=Zk (zT (by (with_reducible repeat (first|apply zN|apply zO|apply zQ));exact HO_5.out) hb);have n1_:=Zk (zK (g:=gb410) (o:=.cells #[.int .i64 a1_0,.int .i64 a1_1,.bool a1_2] 36 (0,0)) (by (with_reducible repeat (first|refine zB ?_ _|refine zD ?_|refine zA ?_ _));exact BK410.out) hb);have n2_:=Zk (zK (g:=gb424) (o:=.cells #[.int .i64 t420,.int .i64 t421,.bool t422] 36 (0,0)) (by (with_reducible repeat (first|refine zB ?_ _|refine zD ?_|refine zA ?_ _));exact BK424.out) hb);have n3_:=Zk (zL (by repeat (first|(with_reducible first|exact HB.out|apply zG|apply zC|apply zH|refine zF ?_ GE410.out|refine zF ?_ GE424.out)|exact HB.out)) hb);clear HO_5;clear BK410;clear BK424;clear HB;have HO_5:=n0_;have BK410:=n1_;have BK424:=n2_;have HB:=n3_;clear n0_ n1_ n2_ n3_;(try clear hb);(try clear hb2);(try clear hk);(try clear hi))|((with_reducible refine yE (N:=10) rfl ?_);refine yG ?hg (N:=10) ?hd (cs:=#[.int .i64 0,.int .i64 0,.bool false]) (t:=36) ?hr ?_;(case hd=>rfl);(case hg=>rfl);(case hr=>first|(go_simp;done)|(go_simp;rfl));intro gb430 hg w53 hbox hb;have n0_:=Zk (zT (V_elderB (by (with_reducible repeat (first|apply zN|apply zO|apply zQ));exact HO_5.out) gb430 (Nat.le_of_eq hg.symm)) hb);have n1_:=Zk (zK (g:=gb410) (o:=.cells #[.int .i64 a1_0,.int .i64 a1_1,.bool a1_2] 36 (0,0)) (by (with_reducible repeat (first|refine zB ?_ _|refine zD ?_|refine zA ?_ _));exact BK410.out) hb);have n2_:=Zk (zK (g:=gb424) (o:=.cells #[.int .i64 t420,.int .i64 t421,.bool t422] 36 (0,0)) (by (with_reducible repeat (first|refine zB ?_ _|refine zD ?_|refine zA ?_ _));exact BK424.out) hb);have n3_:=Zk (zL (by repeat (first|(with_reducible first|exact HB.out|apply zG|apply zC|apply zH|refine zF ?_ GE410.out|refine zF ?_ GE424.out)|exact HB.out)) hb);have n4_:=Zk (hbox);have n5_:=Zk ((by rw [hg];exact (zM (by repeat (first|(with_reducible first|exact HB.out|apply zG|apply zC|apply zH|refine zF ?_ GE410.out|refine zF ?_ GE424.out)|exact HB.out))):w.heap.size≤gb430));have n6_:=Zk ((by rw [hg];exact (zM (by repeat (first|(with_reducible first|exact HB.out|apply zG|apply zC|apply zH|refine zF ?_ GE410.out|refine zF ?_ GE424.out)|exact HB.out))):w.heap.size≤gb430));have n7_:=Zk ((by rw [hg];exact Nat.ne_of_lt (zX (g:=gb410) (o:=.cells #[.int .i64 a1_0,.int .i64 a1_1,.bool a1_2] 36 (0,0)) (by (with_reducible repeat (first|refine zB ?_ _|refine zD ?_|refine zA ?_ _));exact BK410.out)):gb410≠gb430));have n8_:=Zk ((by rw [hg];exact Nat.ne_of_gt (zX (g:=gb410) (o:=.cells #[.int .i64 a1_0,.int .i64 a1_1,.bool a1_2] 36 (0,0)) (by (with_reducible repeat (first|refine zB ?_ _|refine zD ?_|refine zA ?_ _));exact BK410.out)):gb430≠gb410));have n9_:=Zk ((by rw [hg];exact Nat.ne_of_lt (zX (g:=gb424) (o:=.cells #[.int .i64 t420,.int .i64 t421,.bool t422] 36 (0,0)) (by (with_reducible repeat (first|refine zB ?_ _|refine zD ?_|refine zA ?_ _));exact BK424.out)):gb424≠gb430));have n10_:=Zk ((by rw [hg];exact Nat.ne_of_gt (zX (g:=gb424) (o:=.cells #[.int .i64 t420,.int .i64 t421,.bool t422] 36 (0,0)) (by (with_reducible repeat (first|refine zB ?_ _|refine zD ?_|refine zA ?_ _));exact BK424.out)):gb430≠gb424));clear HO_5;clear BK410;clear BK424;clear HB;have HO_5:=n0_;have BK410:=n1_;have BK424:=n2_;have HB:=n3_;have BK430:=n4_;have GW430:=n5_;have GE430:=n6_;have NB410_430:=n7_;have NB430_410:=n8_;have NB424_430:=n9_;have NB430_424:=n10_;clear n0_ n1_ n2_ n3_ n4_ n5_ n6_ n7_ n8_ n9_ n10_;clear hb hbox hg;have hnb54:=NB430_410.out;have hnc54:=NB410_430.out;have hnb55:=NB430_424.out;have hnc55:=NB424_430.out;have hcz56_0:w53.cell? ⟨gb430,0,none⟩=some (.int .i64 0):=(zJ BK430.out 0).trans rfl;have hcz56_1:w53.cell? ⟨gb430,1,none⟩=some (.int .i64 0):=(zJ BK430.out 1).trans rfl;have hcz56_2:w53.cell? ⟨gb430,2,none⟩=some (.bool false):=(zJ BK430.out 2).trans rfl;have hfz56_0:=zI BK430.out 0;have hfz56_1:=zI BK430.out 1;have hfz56_2:=zI BK430.out 2)|((with_reducible refine zW (f:=14) rfl ?_);refine yF (some 75) rfl rfl Try.func14 (by kernel_rfl) rfl #[.slice Ao19 t414.length co19,.int .i64 x9_3] rfl (by (try simp only [List.map_toArray,List.map_cons,List.map_nil]);first|done|rfl|(simp only [List.length_drop,List.length_take];rfl)) ?_;(with_reducible refine (fdtab_Get.calls _ _ t414 x9_3 t431 t432 t433 t434 _ ?side1 ?side2 A36.out).mono ?_);(case side1=>refine (zY (e:=36) (base:=w.heap.size) (ok:=fun k_=>((k_≠gb410∧k_≠gb424)∧k_≠gb430)) (n:=t414.length) (c:=co19) ?_).2.2;exact (by (with_reducible repeat (first|apply zN|apply zO|apply zQ));exact (zU (zV (p:=⟨gb430,2,none⟩) (zV (p:=⟨gb430,1,none⟩) (zV (p:=⟨gb430,0,none⟩) (zU HO_5.out (fun k_ hk=>(⟨hk,hk.2⟩:_∧k_≠gb430))) (fun _ hk=>hk.2) (.int .i64 t426)) (fun _ hk=>hk.2) (.int .i64 t427)) (fun _ hk=>hk.2) (.bool t428)) (fun _ h_=>h_.1))));(case side2=>exact (zY HO_5.out).2.1);rintro e w57 ⟨rfl,hb⟩;refine ⟨_,rfl,?_⟩;have n0_:=Zk (zT (by (with_reducible repeat (first|apply zN|apply zO|apply zQ));exact (zU (zV (p:=⟨gb430,2,none⟩) (zV (p:=⟨gb430,1,none⟩) (zV (p:=⟨gb430,0,none⟩) (zU HO_5.out (fun k_ hk=>(⟨hk,hk.2⟩:_∧k_≠gb430))) (fun _ hk=>hk.2) (.int .i64 t426)) (fun _ hk=>hk.2) (.int .i64 t427)) (fun _ hk=>hk.2) (.bool t428)) (fun _ h_=>h_.1))) hb);have n1_:=Zk (zK (g:=gb410) (o:=.cells #[.int .i64 a1_0,.int .i64 a1_1,.bool a1_2] 36 (0,0)) (by (with_reducible repeat (first|refine zB ?_ _|refine zD ?_|refine zA ?_ _));refine zP ?_ NB410_430.out _;(with_reducible repeat (first|refine zB ?_ _|refine zD ?_|refine zA ?_ _));refine zP ?_ NB410_430.out _;(with_reducible repeat (first|refine zB ?_ _|refine zD ?_|refine zA ?_ _));refine zP ?_ NB410_430.out _;(with_reducible repeat (first|refine zB ?_ _|refine zD ?_|refine zA ?_ _));exact BK410.out) hb);have n2_:=Zk (zK (g:=gb424) (o:=.cells #[.int .i64 t420,.int .i64 t421,.bool t422] 36 (0,0)) (by (with_reducible repeat (first|refine zB ?_ _|refine zD ?_|refine zA ?_ _));refine zP ?_ NB424_430.out _;(with_reducible repeat (first|refine zB ?_ _|refine zD ?_|refine zA ?_ _));refine zP ?_ NB424_430.out _;(with_reducible repeat (first|refine zB ?_ _|refine zD ?_|refine zA ?_ _));refine zP ?_ NB424_430.out _;(with_reducible repeat (first|refine zB ?_ _|refine zD ?_|refine zA ?_ _));exact BK424.out) hb);have n3_:=Zk (zK (g:=gb430) (o:=.cells #[.int .i64 t426,.int .i64 t427,.bool t428] 36 (0,0)) (by (with_reducible repeat (first|refine zB ?_ _|refine zD ?_|refine zA ?_ _));refine zS (cs:=#[.int .i64 t426,.int .i64 t427,.bool false]) ?_ 2 _ rfl;(with_reducible repeat (first|refine zB ?_ _|refine zD ?_|refine zA ?_ _));refine zS (cs:=#[.int .i64 t426,.int .i64 0,.bool false]) ?_ 1 _ rfl;(with_reducible repeat (first|refine zB ?_ _|refine zD ?_|refine zA ?_ _));refine zS (cs:=#[.int .i64 0,.int .i64 0,.bool false]) ?_ 0 _ rfl;(with_reducible repeat (first|refine zB ?_ _|refine zD ?_|refine zA ?_ _));exact BK430.out) hb);have n4_:=Zk (zL (by repeat (first|(with_reducible first|exact HB.out|apply zG|apply zC|apply zH|refine zF ?_ GE410.out|refine zF ?_ GE424.out|refine zF ?_ GE430.out)|exact HB.out)) hb);clear HO_5;clear BK410;clear BK424;clear BK430;clear HB;have HO_5:=n0_;have BK410:=n1_;have BK424:=n2_;have BK430:=n3_;have HB:=n4_;clear n0_ n1_ n2_ n3_ n4_;(try clear hb);(try clear hb2);(try clear hk);(try clear hi))|((with_reducible refine yE (N:=12) rfl ?_);refine yG ?hg (N:=12) ?hd (cs:=#[.int .i64 0,.int .i64 0,.bool false]) (t:=36) ?hr ?_;(case hd=>rfl);(case hg=>rfl);(case hr=>first|(go_simp;done)|(go_simp;rfl));intro gb435 hg w58 hbox hb;have n0_:=Zk (zT (V_elderB (by (with_reducible repeat (first|apply zN|apply zO|apply zQ));exact HO_5.out) gb435 (Nat.le_of_eq hg.symm)) hb);have n1_:=Zk (zK (g:=gb410) (o:=.cells #[.int .i64 a1_0,.int .i64 a1_1,.bool a1_2] 36 (0,0)) (by (with_reducible repeat (first|refine zB ?_ _|refine zD ?_|refine zA ?_ _));exact BK410.out) hb);have n2_:=Zk (zK (g:=gb424) (o:=.cells #[.int .i64 t420,.int .i64 t421,.bool t422] 36 (0,0)) (by (with_reducible repeat (first|refine zB ?_ _|refine zD ?_|refine zA ?_ _));exact BK424.out) hb);have n3_:=Zk (zK (g:=gb430) (o:=.cells #[.int .i64 t426,.int .i64 t427,.bool t428] 36 (0,0)) (by (with_reducible repeat (first|refine zB ?_ _|refine zD ?_|refine zA ?_ _));exact BK430.out) hb);have n4_:=Zk (zL (by repeat (first|(with_reducible first|exact HB.out|apply zG|apply zC|apply zH|refine zF ?_ GE410.out|refine zF ?_ GE424.out|refine zF ?_ GE430.out)|exact HB.out)) hb);have n5_:=Zk (hbox);have n6_:=Zk ((by rw [hg];exact (zM (by repeat (first|(with_reducible first|exact HB.out|apply zG|apply zC|apply zH|refine zF ?_ GE410.out|refine zF ?_ GE424.out|refine zF ?_ GE430.out)|exact HB.out))):w.heap.size≤gb435));have n7_:=Zk ((by rw [hg];exact (zM (by repeat (first|(with_reducible first|exact HB.out|apply zG|apply zC|apply zH|refine zF ?_ GE410.out|refine zF ?_ GE424.out|refine zF ?_ GE430.out)|exact HB.out))):w.heap.size≤gb435));have n8_:=Zk ((by rw [hg];exact Nat.ne_of_lt (zX (g:=gb410) (o:=.cells #[.int .i64 a1_0,.int .i64 a1_1,.bool a1_2] 36 (0,0)) (by (with_reducible repeat (first|refine zB ?_ _|refine zD ?_|refine zA ?_ _));exact BK410.out)):gb410≠gb435));have n9_:=Zk ((by rw [hg];exact Nat.ne_of_gt (zX (g:=gb410) (o:=.cells #[.int .i64 a1_0,.int .i64 a1_1,.bool a1_2] 36 (0,0)) (by (with_reducible repeat (first|refine zB ?_ _|refine zD ?_|refine zA ?_ _));exact BK410.out)):gb435≠gb410));have n10_:=Zk ((by rw [hg];exact Nat.ne_of_lt (zX (g:=gb424) (o:=.cells #[.int .i64 t420,.int .i64 t421,.bool t422] 36 (0,0)) (by (with_reducible repeat (first|refine zB ?_ _|refine zD ?_|refine zA ?_ _));exact BK424.out)):gb424≠gb435));have n11_:=Zk ((by rw [hg];exact Nat.ne_of_gt (zX (g:=gb424) (o:=.cells #[.int .i64 t420,.int .i64 t421,.bool t422] 36 (0,0)) (by (with_reducible repeat (first|refine zB ?_ _|refine zD ?_|refine zA ?_ _));exact BK424.out)):gb435≠gb424));have n12_:=Zk ((by rw [hg];exact Nat.ne_of_lt (zX (g:=gb430) (o:=.cells #[.int .i64 t426,.int .i64 t427,.bool t428] 36 (0,0)) (by (with_reducible repeat (first|refine zB ?_ _|refine zD ?_|refine zA ?_ _));exact BK430.out)):gb430≠gb435));have n13_:=Zk ((by rw [hg];exact Nat.ne_of_gt (zX (g:=gb430) (o:=.cells #[.int .i64 t426,.int .i64 t427,.bool t428] 36 (0,0)) (by (with_reducible repeat (first|refine zB ?_ _|refine zD ?_|refine zA ?_ _));exact BK430.out)):gb435≠gb430));clear HO_5;clear BK410;clear BK424;clear BK430;clear HB;have HO_5:=n0_;have BK410:=n1_;have BK424:=n2_;have BK430:=n3_;have HB:=n4_;have BK435:=n5_;have GW435:=n6_;have GE435:=n7_;have NB410_435:=n8_;have NB435_410:=n9_;have NB424_435:=n10_;have NB435_424:=n11_;have NB430_435:=n12_;have NB435_430:=n13_;clear n0_ n1_ n2_ n3_ n4_ n5_ n6_ n7_ n8_ n9_ n10_ n11_ n12_ n13_;clear hb hbox hg;have hnb59:=NB435_410.out;have hnc59:=NB410_435.out;have hnb60:=NB435_424.out;have hnc60:=NB424_435.out;have hnb61:=NB435_430.out;have hnc61:=NB430_435.out;have hcz62_0:w58.cell? ⟨gb435,0,none⟩=some (.int .i64 0):=(zJ BK435.out 0).trans rfl;have hcz62_1:w58.cell? ⟨gb435,1,none⟩=some (.int .i64 0):=(zJ BK435.out 1).trans rfl;have hcz62_2:w58.cell? ⟨gb435,2,none⟩=some (.bool false):=(zJ BK435.out 2).trans rfl;have hfz62_0:=zI BK435.out 0;have hfz62_1:=zI BK435.out 1;have hfz62_2:=zI BK435.out 2;have hnb63:=NB410_424.out;have hnc63:=NB424_410.out;have hcz64_0:w58.cell? ⟨gb410,0,none⟩=some (.int .i64 a1_0):=(zJ BK410.out 0).trans rfl;have hcz64_1:w58.cell? ⟨gb410,1,none⟩=some (.int .i64 a1_1):=(zJ BK410.out 1).trans rfl;have hcz64_2:w58.cell? ⟨gb410,2,none⟩=some (.bool a1_2):=(zJ BK410.out 2).trans rfl;have hfz64_0:=zI BK410.out 0;have hfz64_1:=zI BK410.out 1;have hfz64_2:=zI BK410.out 2;have hcz65_0:w58.cell? ⟨gb430,0,none⟩=some (.int .i64 t426):=(zJ BK430.out 0).trans rfl;have hcz65_1:w58.cell? ⟨gb430,1,none⟩=some (.int .i64 t427):=(zJ BK430.out 1).trans rfl;have hcz65_2:w58.cell? ⟨gb430,2,none⟩=some (.bool t428):=(zJ BK430.out 2).trans rfl;have hfz65_0:=zI BK430.out 0;have hfz65_1:=zI BK430.out 1;have hfz65_2:=zI BK430.out 2))
             go_ret
             exact ⟨by first|rfl|(simp [errW_none,errW_some] <;> rfl)|(simp [*,errW_none,errW_some] <;> rfl),by repeat (first|(with_reducible first|exact HB.out|apply zG|apply zC|apply zH|refine zF ?_ GE410.out|refine zF ?_ GE424.out|refine zF ?_ GE430.out|refine zF ?_ GE435.out)|exact HB.out)⟩
            ·rw [if_neg c51] at H
             have c51b0:(!(t426 == t431) ||(!(t427 == t432) ||(!(t428 == t433))))=false:=by simpa using c51
             clear c51
             by_cases c66:(t429 != t434)=true
             ·rw [if_pos c66] at H
              have c66b0:(t429 != t434)=true:=c66
              (try (have c66b1:decide (t429=t434)=false:=by simpa using c66))
              (try (have c66b2:(t429 == t434)=false:=by simpa using c66))
              (try (have c66b3:¬ (t429=t434):=by simpa using c66))
              clear c66
              obtain rfl:=Option.some.inj H
              go_wp2_with (first|((with_reducible refine zW (f:=14) rfl ?_);refine yF (some 69) rfl rfl Try.func14 (by kernel_rfl) rfl #[.slice A0 l0.length c0,.int .i64 x9_3] rfl (by (try simp only [List.map_toArray,List.map_cons,List.map_nil]);first|done|rfl|(simp only [List.length_drop,List.length_take];rfl)) ?_;(with_reducible refine (fdtab_Get.calls _ _ l0 x9_3 t426 t427 t428 t429 _ ?side1 ?side2 A35.out).mono ?_);(case side1=>repeat (first|exact (C_below HR0.out HB.out)|(with_reducible refine yC ?_ _)|(with_reducible refine yD ?_ _)|(with_reducible refine C_drew ?_)));(case side2=>exact HC0.out);rintro e w67 ⟨rfl,hb⟩;refine ⟨_,rfl,?_⟩;have n0_:=Zk (zT (by (with_reducible repeat (first|apply zN|apply zO|apply zQ));exact HO_5.out) hb);have n1_:=Zk (zK (g:=gb410) (o:=.cells #[.int .i64 a1_0,.int .i64 a1_1,.bool a1_2] 36 (0,0)) (by (with_reducible repeat (first|refine zB ?_ _|refine zD ?_|refine zA ?_ _));exact BK410.out) hb);have n2_:=Zk (zK (g:=gb424) (o:=.cells #[.int .i64 t420,.int .i64 t421,.bool t422] 36 (0,0)) (by (with_reducible repeat (first|refine zB ?_ _|refine zD ?_|refine zA ?_ _));exact BK424.out) hb);have n3_:=Zk (zL (by repeat (first|(with_reducible first|exact HB.out|apply zG|apply zC|apply zH|refine zF ?_ GE410.out|refine zF ?_ GE424.out)|exact HB.out)) hb);clear HO_5;clear BK410;clear BK424;clear HB;have HO_5:=n0_;have BK410:=n1_;have BK424:=n2_;have HB:=n3_;clear n0_ n1_ n2_ n3_;(try clear hb);(try clear hb2);(try clear hk);(try clear hi))|((with_reducible refine yE (N:=10) rfl ?_);refine yG ?hg (N:=10) ?hd (cs:=#[.int .i64 0,.int .i64 0,.bool false]) (t:=36) ?hr ?_;(case hd=>rfl);(case hg=>rfl);(case hr=>first|(go_simp;done)|(go_simp;rfl));intro gb430 hg w68 hbox hb;have n0_:=Zk (zT (V_elderB (by (with_reducible repeat (first|apply zN|apply zO|apply zQ));exact HO_5.out) gb430 (Nat.le_of_eq hg.symm)) hb);have n1_:=Zk (zK (g:=gb410) (o:=.cells #[.int .i64 a1_0,.int .i64 a1_1,.bool a1_2] 36 (0,0)) (by (with_reducible repeat (first|refine zB ?_ _|refine zD ?_|refine zA ?_ _));exact BK410.out) hb);have n2_:=Zk (zK (g:=gb424) (o:=.cells #[.int .i64 t420,.int .i64 t421,.bool t422] 36 (0,0)) (by (with_reducible repeat (first|refine zB ?_ _|refine zD ?_|refine zA ?_ _));exact BK424.out) hb);have n3_:=Zk (zL (by repeat (first|(with_reducible first|exact HB.out|apply zG|apply zC|apply zH|refine zF ?_ GE410.out|refine zF ?_ GE424.out)|exact HB.out)) hb);have n4_:=Zk (hbox);have n5_:=Zk ((by rw [hg];exact (zM (by repeat (first|(with_reducible first|exact HB.out|apply zG|apply zC|apply zH|refine zF ?_ GE410.out|refine zF ?_ GE424.out)|exact HB.out))):w.heap.size≤gb430));have n6_:=Zk ((by rw [hg];exact (zM (by repeat (first|(with_reducible first|exact HB.out|apply zG|apply zC|apply zH|refine zF ?_ GE410.out|refine zF ?_ GE424.out)|exact HB.out))):w.heap.size≤gb430));have n7_:=Zk ((by rw [hg];exact Nat.ne_of_lt (zX (g:=gb410) (o:=.cells #[.int .i64 a1_0,.int .i64 a1_1,.bool a1_2] 36 (0,0)) (by (with_reducible repeat (first|refine zB ?_ _|refine zD ?_|refine zA ?_ _));exact BK410.out)):gb410≠gb430));have n8_:=Zk ((by rw [hg];exact Nat.ne_of_gt (zX (g:=gb410) (o:=.cells #[.int .i64 a1_0,.int .i64 a1_1,.bool a1_2] 36 (0,0)) (by (with_reducible repeat (first|refine zB ?_ _|refine zD ?_|refine zA ?_ _));exact BK410.out)):gb430≠gb410));have n9_:=Zk ((by rw [hg];exact Nat.ne_of_lt (zX (g:=gb424) (o:=.cells #[.int .i64 t420,.int .i64 t421,.bool t422] 36 (0,0)) (by (with_reducible repeat (first|refine zB ?_ _|refine zD ?_|refine zA ?_ _));exact BK424.out)):gb424≠gb430));have n10_:=Zk ((by rw [hg];exact Nat.ne_of_gt (zX (g:=gb424) (o:=.cells #[.int .i64 t420,.int .i64 t421,.bool t422] 36 (0,0)) (by (with_reducible repeat (first|refine zB ?_ _|refine zD ?_|refine zA ?_ _));exact BK424.out)):gb430≠gb424));clear HO_5;clear BK410;clear BK424;clear HB;have HO_5:=n0_;have BK410:=n1_;have BK424:=n2_;have HB:=n3_;have BK430:=n4_;have GW430:=n5_;have GE430:=n6_;have NB410_430:=n7_;have NB430_410:=n8_;have NB424_430:=n9_;have NB430_424:=n10_;clear n0_ n1_ n2_ n3_ n4_ n5_ n6_ n7_ n8_ n9_ n10_;clear hb hbox hg;have hnb69:=NB430_410.out;have hnc69:=NB410_430.out;have hnb70:=NB430_424.out;have hnc70:=NB424_430.out;have hcz71_0:w68.cell? ⟨gb430,0,none⟩=some (.int .i64 0):=(zJ BK430.out 0).trans rfl;have hcz71_1:w68.cell? ⟨gb430,1,none⟩=some (.int .i64 0):=(zJ BK430.out 1).trans rfl;have hcz71_2:w68.cell? ⟨gb430,2,none⟩=some (.bool false):=(zJ BK430.out 2).trans rfl;have hfz71_0:=zI BK430.out 0;have hfz71_1:=zI BK430.out 1;have hfz71_2:=zI BK430.out 2)|((with_reducible refine zW (f:=14) rfl ?_);refine yF (some 75) rfl rfl Try.func14 (by kernel_rfl) rfl #[.slice Ao19 t414.length co19,.int .i64 x9_3] rfl (by (try simp only [List.map_toArray,List.map_cons,List.map_nil]);first|done|rfl|(simp only [List.length_drop,List.length_take];rfl)) ?_;(with_reducible refine (fdtab_Get.calls _ _ t414 x9_3 t431 t432 t433 t434 _ ?side1 ?side2 A36.out).mono ?_);(case side1=>refine (zY (e:=36) (base:=w.heap.size) (ok:=fun k_=>((k_≠gb410∧k_≠gb424)∧k_≠gb430)) (n:=t414.length) (c:=co19) ?_).2.2;exact (by (with_reducible repeat (first|apply zN|apply zO|apply zQ));exact (zU (zV (p:=⟨gb430,2,none⟩) (zV (p:=⟨gb430,1,none⟩) (zV (p:=⟨gb430,0,none⟩) (zU HO_5.out (fun k_ hk=>(⟨hk,hk.2⟩:_∧k_≠gb430))) (fun _ hk=>hk.2) (.int .i64 t426)) (fun _ hk=>hk.2) (.int .i64 t427)) (fun _ hk=>hk.2) (.bool t428)) (fun _ h_=>h_.1))));(case side2=>exact (zY HO_5.out).2.1);rintro e w72 ⟨rfl,hb⟩;refine ⟨_,rfl,?_⟩;have n0_:=Zk (zT (by (with_reducible repeat (first|apply zN|apply zO|apply zQ));exact (zU (zV (p:=⟨gb430,2,none⟩) (zV (p:=⟨gb430,1,none⟩) (zV (p:=⟨gb430,0,none⟩) (zU HO_5.out (fun k_ hk=>(⟨hk,hk.2⟩:_∧k_≠gb430))) (fun _ hk=>hk.2) (.int .i64 t426)) (fun _ hk=>hk.2) (.int .i64 t427)) (fun _ hk=>hk.2) (.bool t428)) (fun _ h_=>h_.1))) hb);have n1_:=Zk (zK (g:=gb410) (o:=.cells #[.int .i64 a1_0,.int .i64 a1_1,.bool a1_2] 36 (0,0)) (by (with_reducible repeat (first|refine zB ?_ _|refine zD ?_|refine zA ?_ _));refine zP ?_ NB410_430.out _;(with_reducible repeat (first|refine zB ?_ _|refine zD ?_|refine zA ?_ _));refine zP ?_ NB410_430.out _;(with_reducible repeat (first|refine zB ?_ _|refine zD ?_|refine zA ?_ _));refine zP ?_ NB410_430.out _;(with_reducible repeat (first|refine zB ?_ _|refine zD ?_|refine zA ?_ _));exact BK410.out) hb);have n2_:=Zk (zK (g:=gb424) (o:=.cells #[.int .i64 t420,.int .i64 t421,.bool t422] 36 (0,0)) (by (with_reducible repeat (first|refine zB ?_ _|refine zD ?_|refine zA ?_ _));refine zP ?_ NB424_430.out _;(with_reducible repeat (first|refine zB ?_ _|refine zD ?_|refine zA ?_ _));refine zP ?_ NB424_430.out _;(with_reducible repeat (first|refine zB ?_ _|refine zD ?_|refine zA ?_ _));refine zP ?_ NB424_430.out _;(with_reducible repeat (first|refine zB ?_ _|refine zD ?_|refine zA ?_ _));exact BK424.out) hb);have n3_:=Zk (zK (g:=gb430) (o:=.cells #[.int .i64 t426,.int .i64 t427,.bool t428] 36 (0,0)) (by (with_reducible repeat (first|refine zB ?_ _|refine zD ?_|refine zA ?_ _));refine zS (cs:=#[.int .i64 t426,.int .i64 t427,.bool false]) ?_ 2 _ rfl;(with_reducible repeat (first|refine zB ?_ _|refine zD ?_|refine zA ?_ _));refine zS (cs:=#[.int .i64 t426,.int .i64 0,.bool false]) ?_ 1 _ rfl;(with_reducible repeat (first|refine zB ?_ _|refine zD ?_|refine zA ?_ _));refine zS (cs:=#[.int .i64 0,.int .i64 0,.bool false]) ?_ 0 _ rfl;(with_reducible repeat (first|refine zB ?_ _|refine zD ?_|refine zA ?_ _));exact BK430.out) hb);have n4_:=Zk (zL (by repeat (first|(with_reducible first|exact HB.out|apply zG|apply zC|apply zH|refine zF ?_ GE410.out|refine zF ?_ GE424.out|refine zF ?_ GE430.out)|exact HB.out)) hb);clear HO_5;clear BK410;clear BK424;clear BK430;clear HB;have HO_5:=n0_;have BK410:=n1_;have BK424:=n2_;have BK430:=n3_;have HB:=n4_;clear n0_ n1_ n2_ n3_ n4_;(try clear hb);(try clear hb2);(try clear hk);(try clear hi))|((with_reducible refine yE (N:=12) rfl ?_);refine yG ?hg (N:=12) ?hd (cs:=#[.int .i64 0,.int .i64 0,.bool false]) (t:=36) ?hr ?_;(case hd=>rfl);(case hg=>rfl);(case hr=>first|(go_simp;done)|(go_simp;rfl));intro gb435 hg w73 hbox hb;have n0_:=Zk (zT (V_elderB (by (with_reducible repeat (first|apply zN|apply zO|apply zQ));exact HO_5.out) gb435 (Nat.le_of_eq hg.symm)) hb);have n1_:=Zk (zK (g:=gb410) (o:=.cells #[.int .i64 a1_0,.int .i64 a1_1,.bool a1_2] 36 (0,0)) (by (with_reducible repeat (first|refine zB ?_ _|refine zD ?_|refine zA ?_ _));exact BK410.out) hb);have n2_:=Zk (zK (g:=gb424) (o:=.cells #[.int .i64 t420,.int .i64 t421,.bool t422] 36 (0,0)) (by (with_reducible repeat (first|refine zB ?_ _|refine zD ?_|refine zA ?_ _));exact BK424.out) hb);have n3_:=Zk (zK (g:=gb430) (o:=.cells #[.int .i64 t426,.int .i64 t427,.bool t428] 36 (0,0)) (by (with_reducible repeat (first|refine zB ?_ _|refine zD ?_|refine zA ?_ _));exact BK430.out) hb);have n4_:=Zk (zL (by repeat (first|(with_reducible first|exact HB.out|apply zG|apply zC|apply zH|refine zF ?_ GE410.out|refine zF ?_ GE424.out|refine zF ?_ GE430.out)|exact HB.out)) hb);have n5_:=Zk (hbox);have n6_:=Zk ((by rw [hg];exact (zM (by repeat (first|(with_reducible first|exact HB.out|apply zG|apply zC|apply zH|refine zF ?_ GE410.out|refine zF ?_ GE424.out|refine zF ?_ GE430.out)|exact HB.out))):w.heap.size≤gb435));have n7_:=Zk ((by rw [hg];exact (zM (by repeat (first|(with_reducible first|exact HB.out|apply zG|apply zC|apply zH|refine zF ?_ GE410.out|refine zF ?_ GE424.out|refine zF ?_ GE430.out)|exact HB.out))):w.heap.size≤gb435));have n8_:=Zk ((by rw [hg];exact Nat.ne_of_lt (zX (g:=gb410) (o:=.cells #[.int .i64 a1_0,.int .i64 a1_1,.bool a1_2] 36 (0,0)) (by (with_reducible repeat (first|refine zB ?_ _|refine zD ?_|refine zA ?_ _));exact BK410.out)):gb410≠gb435));have n9_:=Zk ((by rw [hg];exact Nat.ne_of_gt (zX (g:=gb410) (o:=.cells #[.int .i64 a1_0,.int .i64 a1_1,.bool a1_2] 36 (0,0)) (by (with_reducible repeat (first|refine zB ?_ _|refine zD ?_|refine zA ?_ _));exact BK410.out)):gb435≠gb410));have n10_:=Zk ((by rw [hg];exact Nat.ne_of_lt (zX (g:=gb424) (o:=.cells #[.int .i64 t420,.int .i64 t421,.bool t422] 36 (0,0)) (by (with_reducible repeat (first|refine zB ?_ _|refine zD ?_|refine zA ?_ _));exact BK424.out)):gb424≠gb435));have n11_:=Zk ((by rw [hg];exact Nat.ne_of_gt (zX (g:=gb424) (o:=.cells #[.int .i64 t420,.int .i64 t421,.bool t422] 36 (0,0)) (by (with_reducible repeat (first|refine zB ?_ _|refine zD ?_|refine zA ?_ _));exact BK424.out)):gb435≠gb424));have n12_:=Zk ((by rw [hg];exact Nat.ne_of_lt (zX (g:=gb430) (o:=.cells #[.int .i64 t426,.int .i64 t427,.bool t428] 36 (0,0)) (by (with_reducible repeat (first|refine zB ?_ _|refine zD ?_|refine zA ?_ _));exact BK430.out)):gb430≠gb435));have n13_:=Zk ((by rw [hg];exact Nat.ne_of_gt (zX (g:=gb430) (o:=.cells #[.int .i64 t426,.int .i64 t427,.bool t428] 36 (0,0)) (by (with_reducible repeat (first|refine zB ?_ _|refine zD ?_|refine zA ?_ _));exact BK430.out)):gb435≠gb430));clear HO_5;clear BK410;clear BK424;clear BK430;clear HB;have HO_5:=n0_;have BK410:=n1_;have BK424:=n2_;have BK430:=n3_;have HB:=n4_;have BK435:=n5_;have GW435:=n6_;have GE435:=n7_;have NB410_435:=n8_;have NB435_410:=n9_;have NB424_435:=n10_;have NB435_424:=n11_;have NB430_435:=n12_;have NB435_430:=n13_;clear n0_ n1_ n2_ n3_ n4_ n5_ n6_ n7_ n8_ n9_ n10_ n11_ n12_ n13_;clear hb hbox hg;have hnb74:=NB435_410.out;have hnc74:=NB410_435.out;have hnb75:=NB435_424.out;have hnc75:=NB424_435.out;have hnb76:=NB435_430.out;have hnc76:=NB430_435.out;have hcz77_0:w73.cell? ⟨gb435,0,none⟩=some (.int .i64 0):=(zJ BK435.out 0).trans rfl;have hcz77_1:w73.cell? ⟨gb435,1,none⟩=some (.int .i64 0):=(zJ BK435.out 1).trans rfl;have hcz77_2:w73.cell? ⟨gb435,2,none⟩=some (.bool false):=(zJ BK435.out 2).trans rfl;have hfz77_0:=zI BK435.out 0;have hfz77_1:=zI BK435.out 1;have hfz77_2:=zI BK435.out 2;have hnb78:=NB410_424.out;have hnc78:=NB424_410.out;have hcz79_0:w73.cell? ⟨gb410,0,none⟩=some (.int .i64 a1_0):=(zJ BK410.out 0).trans rfl;have hcz79_1:w73.cell? ⟨gb410,1,none⟩=some (.int .i64 a1_1):=(zJ BK410.out 1).trans rfl;have hcz79_2:w73.cell? ⟨gb410,2,none⟩=some (.bool a1_2):=(zJ BK410.out 2).trans rfl;have hfz79_0:=zI BK410.out 0;have hfz79_1:=zI BK410.out 1;have hfz79_2:=zI BK410.out 2;have hcz80_0:w73.cell? ⟨gb430,0,none⟩=some (.int .i64 t426):=(zJ BK430.out 0).trans rfl;have hcz80_1:w73.cell? ⟨gb430,1,none⟩=some (.int .i64 t427):=(zJ BK430.out 1).trans rfl;have hcz80_2:w73.cell? ⟨gb430,2,none⟩=some (.bool t428):=(zJ BK430.out 2).trans rfl;have hfz80_0:=zI BK430.out 0;have hfz80_1:=zI BK430.out 1;have hfz80_2:=zI BK430.out 2))
              go_ret
              exact ⟨by first|rfl|(simp [errW_none,errW_some] <;> rfl)|(simp [*,errW_none,errW_some] <;> rfl),by repeat (first|(with_reducible first|exact HB.out|apply zG|apply zC|apply zH|refine zF ?_ GE410.out|refine zF ?_ GE424.out|refine zF ?_ GE430.out|refine zF ?_ GE435.out)|exact HB.out)⟩
             ·rw [if_neg c66] at H
              have c66b0:(t429 != t434)=false:=by simpa using c66
              (try (have c66b1:decide (t429=t434)=true:=by simpa using c66))
              (try (have c66b2:(t429 == t434)=true:=by simpa using c66))
              clear c66
              have H':=Zk H
              clear H
              go_wp2_with (first|((with_reducible refine zW (f:=14) rfl ?_);refine yF (some 69) rfl rfl Try.func14 (by kernel_rfl) rfl #[.slice A0 l0.length c0,.int .i64 x9_3] rfl (by (try simp only [List.map_toArray,List.map_cons,List.map_nil]);first|done|rfl|(simp only [List.length_drop,List.length_take];rfl)) ?_;(with_reducible refine (fdtab_Get.calls _ _ l0 x9_3 t426 t427 t428 t429 _ ?side1 ?side2 A35.out).mono ?_);(case side1=>repeat (first|exact (C_below HR0.out HB.out)|(with_reducible refine yC ?_ _)|(with_reducible refine yD ?_ _)|(with_reducible refine C_drew ?_)));(case side2=>exact HC0.out);rintro e w81 ⟨rfl,hb⟩;refine ⟨_,rfl,?_⟩;have n0_:=Zk (zT (by (with_reducible repeat (first|apply zN|apply zO|apply zQ));exact HO_5.out) hb);have n1_:=Zk (zK (g:=gb410) (o:=.cells #[.int .i64 a1_0,.int .i64 a1_1,.bool a1_2] 36 (0,0)) (by (with_reducible repeat (first|refine zB ?_ _|refine zD ?_|refine zA ?_ _));exact BK410.out) hb);have n2_:=Zk (zK (g:=gb424) (o:=.cells #[.int .i64 t420,.int .i64 t421,.bool t422] 36 (0,0)) (by (with_reducible repeat (first|refine zB ?_ _|refine zD ?_|refine zA ?_ _));exact BK424.out) hb);have n3_:=Zk (zL (by repeat (first|(with_reducible first|exact HB.out|apply zG|apply zC|apply zH|refine zF ?_ GE410.out|refine zF ?_ GE424.out)|exact HB.out)) hb);clear HO_5;clear BK410;clear BK424;clear HB;have HO_5:=n0_;have BK410:=n1_;have BK424:=n2_;have HB:=n3_;clear n0_ n1_ n2_ n3_;(try clear hb);(try clear hb2);(try clear hk);(try clear hi))|((with_reducible refine yE (N:=10) rfl ?_);refine yG ?hg (N:=10) ?hd (cs:=#[.int .i64 0,.int .i64 0,.bool false]) (t:=36) ?hr ?_;(case hd=>rfl);(case hg=>rfl);(case hr=>first|(go_simp;done)|(go_simp;rfl));intro gb430 hg w82 hbox hb;have n0_:=Zk (zT (V_elderB (by (with_reducible repeat (first|apply zN|apply zO|apply zQ));exact HO_5.out) gb430 (Nat.le_of_eq hg.symm)) hb);have n1_:=Zk (zK (g:=gb410) (o:=.cells #[.int .i64 a1_0,.int .i64 a1_1,.bool a1_2] 36 (0,0)) (by (with_reducible repeat (first|refine zB ?_ _|refine zD ?_|refine zA ?_ _));exact BK410.out) hb);have n2_:=Zk (zK (g:=gb424) (o:=.cells #[.int .i64 t420,.int .i64 t421,.bool t422] 36 (0,0)) (by (with_reducible repeat (first|refine zB ?_ _|refine zD ?_|refine zA ?_ _));exact BK424.out) hb);have n3_:=Zk (zL (by repeat (first|(with_reducible first|exact HB.out|apply zG|apply zC|apply zH|refine zF ?_ GE410.out|refine zF ?_ GE424.out)|exact HB.out)) hb);have n4_:=Zk (hbox);have n5_:=Zk ((by rw [hg];exact (zM (by repeat (first|(with_reducible first|exact HB.out|apply zG|apply zC|apply zH|refine zF ?_ GE410.out|refine zF ?_ GE424.out)|exact HB.out))):w.heap.size≤gb430));have n6_:=Zk ((by rw [hg];exact (zM (by repeat (first|(with_reducible first|exact HB.out|apply zG|apply zC|apply zH|refine zF ?_ GE410.out|refine zF ?_ GE424.out)|exact HB.out))):w.heap.size≤gb430));have n7_:=Zk ((by rw [hg];exact Nat.ne_of_lt (zX (g:=gb410) (o:=.cells #[.int .i64 a1_0,.int .i64 a1_1,.bool a1_2] 36 (0,0)) (by (with_reducible repeat (first|refine zB ?_ _|refine zD ?_|refine zA ?_ _));exact BK410.out)):gb410≠gb430));have n8_:=Zk ((by rw [hg];exact Nat.ne_of_gt (zX (g:=gb410) (o:=.cells #[.int .i64 a1_0,.int .i64 a1_1,.bool a1_2] 36 (0,0)) (by (with_reducible repeat (first|refine zB ?_ _|refine zD ?_|refine zA ?_ _));exact BK410.out)):gb430≠gb410));have n9_:=Zk ((by rw [hg];exact Nat.ne_of_lt (zX (g:=gb424) (o:=.cells #[.int .i64 t420,.int .i64 t421,.bool t422] 36 (0,0)) (by (with_reducible repeat (first|refine zB ?_ _|refine zD ?_|refine zA ?_ _));exact BK424.out)):gb424≠gb430));have n10_:=Zk ((by rw [hg];exact Nat.ne_of_gt (zX (g:=gb424) (o:=.cells #[.int .i64 t420,.int .i64 t421,.bool t422] 36 (0,0)) (by (with_reducible repeat (first|refine zB ?_ _|refine zD ?_|refine zA ?_ _));exact BK424.out)):gb430≠gb424));clear HO_5;clear BK410;clear BK424;clear HB;have HO_5:=n0_;have BK410:=n1_;have BK424:=n2_;have HB:=n3_;have BK430:=n4_;have GW430:=n5_;have GE430:=n6_;have NB410_430:=n7_;have NB430_410:=n8_;have NB424_430:=n9_;have NB430_424:=n10_;clear n0_ n1_ n2_ n3_ n4_ n5_ n6_ n7_ n8_ n9_ n10_;clear hb hbox hg;have hnb83:=NB430_410.out;have hnc83:=NB410_430.out;have hnb84:=NB430_424.out;have hnc84:=NB424_430.out;have hcz85_0:w82.cell? ⟨gb430,0,none⟩=some (.int .i64 0):=(zJ BK430.out 0).trans rfl;have hcz85_1:w82.cell? ⟨gb430,1,none⟩=some (.int .i64 0):=(zJ BK430.out 1).trans rfl;have hcz85_2:w82.cell? ⟨gb430,2,none⟩=some (.bool false):=(zJ BK430.out 2).trans rfl;have hfz85_0:=zI BK430.out 0;have hfz85_1:=zI BK430.out 1;have hfz85_2:=zI BK430.out 2)|((with_reducible refine zW (f:=14) rfl ?_);refine yF (some 75) rfl rfl Try.func14 (by kernel_rfl) rfl #[.slice Ao19 t414.length co19,.int .i64 x9_3] rfl (by (try simp only [List.map_toArray,List.map_cons,List.map_nil]);first|done|rfl|(simp only [List.length_drop,List.length_take];rfl)) ?_;(with_reducible refine (fdtab_Get.calls _ _ t414 x9_3 t431 t432 t433 t434 _ ?side1 ?side2 A36.out).mono ?_);(case side1=>refine (zY (e:=36) (base:=w.heap.size) (ok:=fun k_=>((k_≠gb410∧k_≠gb424)∧k_≠gb430)) (n:=t414.length) (c:=co19) ?_).2.2;exact (by (with_reducible repeat (first|apply zN|apply zO|apply zQ));exact (zU (zV (p:=⟨gb430,2,none⟩) (zV (p:=⟨gb430,1,none⟩) (zV (p:=⟨gb430,0,none⟩) (zU HO_5.out (fun k_ hk=>(⟨hk,hk.2⟩:_∧k_≠gb430))) (fun _ hk=>hk.2) (.int .i64 t426)) (fun _ hk=>hk.2) (.int .i64 t427)) (fun _ hk=>hk.2) (.bool t428)) (fun _ h_=>h_.1))));(case side2=>exact (zY HO_5.out).2.1);rintro e w86 ⟨rfl,hb⟩;refine ⟨_,rfl,?_⟩;have n0_:=Zk (zT (by (with_reducible repeat (first|apply zN|apply zO|apply zQ));exact (zU (zV (p:=⟨gb430,2,none⟩) (zV (p:=⟨gb430,1,none⟩) (zV (p:=⟨gb430,0,none⟩) (zU HO_5.out (fun k_ hk=>(⟨hk,hk.2⟩:_∧k_≠gb430))) (fun _ hk=>hk.2) (.int .i64 t426)) (fun _ hk=>hk.2) (.int .i64 t427)) (fun _ hk=>hk.2) (.bool t428)) (fun _ h_=>h_.1))) hb);have n1_:=Zk (zK (g:=gb410) (o:=.cells #[.int .i64 a1_0,.int .i64 a1_1,.bool a1_2] 36 (0,0)) (by (with_reducible repeat (first|refine zB ?_ _|refine zD ?_|refine zA ?_ _));refine zP ?_ NB410_430.out _;(with_reducible repeat (first|refine zB ?_ _|refine zD ?_|refine zA ?_ _));refine zP ?_ NB410_430.out _;(with_reducible repeat (first|refine zB ?_ _|refine zD ?_|refine zA ?_ _));refine zP ?_ NB410_430.out _;(with_reducible repeat (first|refine zB ?_ _|refine zD ?_|refine zA ?_ _));exact BK410.out) hb);have n2_:=Zk (zK (g:=gb424) (o:=.cells #[.int .i64 t420,.int .i64 t421,.bool t422] 36 (0,0)) (by (with_reducible repeat (first|refine zB ?_ _|refine zD ?_|refine zA ?_ _));refine zP ?_ NB424_430.out _;(with_reducible repeat (first|refine zB ?_ _|refine zD ?_|refine zA ?_ _));refine zP ?_ NB424_430.out _;(with_reducible repeat (first|refine zB ?_ _|refine zD ?_|refine zA ?_ _));refine zP ?_ NB424_430.out _;(with_reducible repeat (first|refine zB ?_ _|refine zD ?_|refine zA ?_ _));exact BK424.out) hb);have n3_:=Zk (zK (g:=gb430) (o:=.cells #[.int .i64 t426,.int .i64 t427,.bool t428] 36 (0,0)) (by (with_reducible repeat (first|refine zB ?_ _|refine zD ?_|refine zA ?_ _));refine zS (cs:=#[.int .i64 t426,.int .i64 t427,.bool false]) ?_ 2 _ rfl;(with_reducible repeat (first|refine zB ?_ _|refine zD ?_|refine zA ?_ _));refine zS (cs:=#[.int .i64 t426,.int .i64 0,.bool false]) ?_ 1 _ rfl;(with_reducible repeat (first|refine zB ?_ _|refine zD ?_|refine zA ?_ _));refine zS (cs:=#[.int .i64 0,.int .i64 0,.bool false]) ?_ 0 _ rfl;(with_reducible repeat (first|refine zB ?_ _|refine zD ?_|refine zA ?_ _));exact BK430.out) hb);have n4_:=Zk (zL (by repeat (first|(with_reducible first|exact HB.out|apply zG|apply zC|apply zH|refine zF ?_ GE410.out|refine zF ?_ GE424.out|refine zF ?_ GE430.out)|exact HB.out)) hb);clear HO_5;clear BK410;clear BK424;clear BK430;clear HB;have HO_5:=n0_;have BK410:=n1_;have BK424:=n2_;have BK430:=n3_;have HB:=n4_;clear n0_ n1_ n2_ n3_ n4_;(try clear hb);(try clear hb2);(try clear hk);(try clear hi))|((with_reducible refine yE (N:=12) rfl ?_);refine yG ?hg (N:=12) ?hd (cs:=#[.int .i64 0,.int .i64 0,.bool false]) (t:=36) ?hr ?_;(case hd=>rfl);(case hg=>rfl);(case hr=>first|(go_simp;done)|(go_simp;rfl));intro gb435 hg w87 hbox hb;have n0_:=Zk (zT (V_elderB (by (with_reducible repeat (first|apply zN|apply zO|apply zQ));exact HO_5.out) gb435 (Nat.le_of_eq hg.symm)) hb);have n1_:=Zk (zK (g:=gb410) (o:=.cells #[.int .i64 a1_0,.int .i64 a1_1,.bool a1_2] 36 (0,0)) (by (with_reducible repeat (first|refine zB ?_ _|refine zD ?_|refine zA ?_ _));exact BK410.out) hb);have n2_:=Zk (zK (g:=gb424) (o:=.cells #[.int .i64 t420,.int .i64 t421,.bool t422] 36 (0,0)) (by (with_reducible repeat (first|refine zB ?_ _|refine zD ?_|refine zA ?_ _));exact BK424.out) hb);have n3_:=Zk (zK (g:=gb430) (o:=.cells #[.int .i64 t426,.int .i64 t427,.bool t428] 36 (0,0)) (by (with_reducible repeat (first|refine zB ?_ _|refine zD ?_|refine zA ?_ _));exact BK430.out) hb);have n4_:=Zk (zL (by repeat (first|(with_reducible first|exact HB.out|apply zG|apply zC|apply zH|refine zF ?_ GE410.out|refine zF ?_ GE424.out|refine zF ?_ GE430.out)|exact HB.out)) hb);have n5_:=Zk (hbox);have n6_:=Zk ((by rw [hg];exact (zM (by repeat (first|(with_reducible first|exact HB.out|apply zG|apply zC|apply zH|refine zF ?_ GE410.out|refine zF ?_ GE424.out|refine zF ?_ GE430.out)|exact HB.out))):w.heap.size≤gb435));have n7_:=Zk ((by rw [hg];exact (zM (by repeat (first|(with_reducible first|exact HB.out|apply zG|apply zC|apply zH|refine zF ?_ GE410.out|refine zF ?_ GE424.out|refine zF ?_ GE430.out)|exact HB.out))):w.heap.size≤gb435));have n8_:=Zk ((by rw [hg];exact Nat.ne_of_lt (zX (g:=gb410) (o:=.cells #[.int .i64 a1_0,.int .i64 a1_1,.bool a1_2] 36 (0,0)) (by (with_reducible repeat (first|refine zB ?_ _|refine zD ?_|refine zA ?_ _));exact BK410.out)):gb410≠gb435));have n9_:=Zk ((by rw [hg];exact Nat.ne_of_gt (zX (g:=gb410) (o:=.cells #[.int .i64 a1_0,.int .i64 a1_1,.bool a1_2] 36 (0,0)) (by (with_reducible repeat (first|refine zB ?_ _|refine zD ?_|refine zA ?_ _));exact BK410.out)):gb435≠gb410));have n10_:=Zk ((by rw [hg];exact Nat.ne_of_lt (zX (g:=gb424) (o:=.cells #[.int .i64 t420,.int .i64 t421,.bool t422] 36 (0,0)) (by (with_reducible repeat (first|refine zB ?_ _|refine zD ?_|refine zA ?_ _));exact BK424.out)):gb424≠gb435));have n11_:=Zk ((by rw [hg];exact Nat.ne_of_gt (zX (g:=gb424) (o:=.cells #[.int .i64 t420,.int .i64 t421,.bool t422] 36 (0,0)) (by (with_reducible repeat (first|refine zB ?_ _|refine zD ?_|refine zA ?_ _));exact BK424.out)):gb435≠gb424));have n12_:=Zk ((by rw [hg];exact Nat.ne_of_lt (zX (g:=gb430) (o:=.cells #[.int .i64 t426,.int .i64 t427,.bool t428] 36 (0,0)) (by (with_reducible repeat (first|refine zB ?_ _|refine zD ?_|refine zA ?_ _));exact BK430.out)):gb430≠gb435));have n13_:=Zk ((by rw [hg];exact Nat.ne_of_gt (zX (g:=gb430) (o:=.cells #[.int .i64 t426,.int .i64 t427,.bool t428] 36 (0,0)) (by (with_reducible repeat (first|refine zB ?_ _|refine zD ?_|refine zA ?_ _));exact BK430.out)):gb435≠gb430));clear HO_5;clear BK410;clear BK424;clear BK430;clear HB;have HO_5:=n0_;have BK410:=n1_;have BK424:=n2_;have BK430:=n3_;have HB:=n4_;have BK435:=n5_;have GW435:=n6_;have GE435:=n7_;have NB410_435:=n8_;have NB435_410:=n9_;have NB424_435:=n10_;have NB435_424:=n11_;have NB430_435:=n12_;have NB435_430:=n13_;clear n0_ n1_ n2_ n3_ n4_ n5_ n6_ n7_ n8_ n9_ n10_ n11_ n12_ n13_;clear hb hbox hg;have hnb88:=NB435_410.out;have hnc88:=NB410_435.out;have hnb89:=NB435_424.out;have hnc89:=NB424_435.out;have hnb90:=NB435_430.out;have hnc90:=NB430_435.out;have hcz91_0:w87.cell? ⟨gb435,0,none⟩=some (.int .i64 0):=(zJ BK435.out 0).trans rfl;have hcz91_1:w87.cell? ⟨gb435,1,none⟩=some (.int .i64 0):=(zJ BK435.out 1).trans rfl;have hcz91_2:w87.cell? ⟨gb435,2,none⟩=some (.bool false):=(zJ BK435.out 2).trans rfl;have hfz91_0:=zI BK435.out 0;have hfz91_1:=zI BK435.out 1;have hfz91_2:=zI BK435.out 2;have hnb92:=NB410_424.out;have hnc92:=NB424_410.out;have hcz93_0:w87.cell? ⟨gb410,0,none⟩=some (.int .i64 a1_0):=(zJ BK410.out 0).trans rfl;have hcz93_1:w87.cell? ⟨gb410,1,none⟩=some (.int .i64 a1_1):=(zJ BK410.out 1).trans rfl;have hcz93_2:w87.cell? ⟨gb410,2,none⟩=some (.bool a1_2):=(zJ BK410.out 2).trans rfl;have hfz93_0:=zI BK410.out 0;have hfz93_1:=zI BK410.out 1;have hfz93_2:=zI BK410.out 2;have hcz94_0:w87.cell? ⟨gb430,0,none⟩=some (.int .i64 t426):=(zJ BK430.out 0).trans rfl;have hcz94_1:w87.cell? ⟨gb430,1,none⟩=some (.int .i64 t427):=(zJ BK430.out 1).trans rfl;have hcz94_2:w87.cell? ⟨gb430,2,none⟩=some (.bool t428):=(zJ BK430.out 2).trans rfl;have hfz94_0:=zI BK430.out 0;have hfz94_1:=zI BK430.out 1;have hfz94_2:=zI BK430.out 2))
              go_roundg k3
              case measure=>have:=HJ2.out;have:=HJ14.out;have:=HK3.out;omega
              case rel=>exact ⟨(wrap64 (x9_3 + 1)),(by first|rfl|(simp;done)|(simp [*];done)|(generalize ByteArray.toList _=l_;cases l_ <;> rfl)),H',⟨by have:=HJ2.out;have:=HJ14.out;have:=HK3.out;omega⟩,⟨by (with_reducible repeat (first|apply zN|apply zO|apply zQ));exact zU (zV (p:=⟨gb435,2,none⟩) (zV (p:=⟨gb435,1,none⟩) (zV (p:=⟨gb435,0,none⟩) (zU HO_5.out (fun k_ hk=>(⟨hk,hk.2⟩:_∧k_≠gb435))) (fun _ hk=>hk.2) (.int .i64 t431)) (fun _ hk=>hk.2) (.int .i64 t432)) (fun _ hk=>hk.2) (.bool t433)) (fun _ hk=>⟨hk.1.1.1.1,hk.1.1.1.2⟩)⟩,⟨by (with_reducible repeat (first|refine zB ?_ _|refine zD ?_|refine zA ?_ _));refine zP ?_ NB410_435.out _;(with_reducible repeat (first|refine zB ?_ _|refine zD ?_|refine zA ?_ _));refine zP ?_ NB410_435.out _;(with_reducible repeat (first|refine zB ?_ _|refine zD ?_|refine zA ?_ _));refine zP ?_ NB410_435.out _;(with_reducible repeat (first|refine zB ?_ _|refine zD ?_|refine zA ?_ _));exact BK410.out⟩,⟨by (with_reducible repeat (first|refine zB ?_ _|refine zD ?_|refine zA ?_ _));refine zP ?_ NB424_435.out _;(with_reducible repeat (first|refine zB ?_ _|refine zD ?_|refine zA ?_ _));refine zP ?_ NB424_435.out _;(with_reducible repeat (first|refine zB ?_ _|refine zD ?_|refine zA ?_ _));refine zP ?_ NB424_435.out _;(with_reducible repeat (first|refine zB ?_ _|refine zD ?_|refine zA ?_ _));exact BK424.out⟩,⟨by repeat (first|(with_reducible first|exact HB.out|apply zG|apply zC|apply zH|refine zF ?_ GE410.out|refine zF ?_ GE424.out|refine zF ?_ GE430.out|refine zF ?_ GE435.out)|exact HB.out)⟩⟩
          ·rw [if_neg c34] at H
           have c34b0:decide (x9_3≤32)=false:=decide_eq_false c34
           clear c34
           replace H:=Option.bind_eq_some_iff.mp H
           obtain ⟨⟨t436,t439⟩,A950,H⟩:=H
           replace H:((fdtab_Get.f l0 a1_0).bind fun bt440=>((fdtab_Free.f k3 l0 a1_0).bind fun bt445=>(if t439=0 then ((fdtab_Valid.f k3 t436).bind fun t447=>(if t447=0 then (if bt440.2.2.2=true then (if bt445.2=true then (if ((bt445.1 == a1_0) == (!bt440.2.2.2))=true then ((jobshelllaw23_awake.f k3).bind fun t448=>(some t448)) else (some false)) else (if (false == (!bt440.2.2.2))=true then ((jobshelllaw23_awake.f k3).bind fun t449=>(some t449)) else (some false))) else ((jobshellref23_Same.f k3 t436 l0).bind fun t450=>(if t450=true then (if bt445.2=true then (if ((bt445.1 == a1_0) == (!bt440.2.2.2))=true then ((jobshelllaw23_awake.f k3).bind fun t451=>(some t451)) else (some false)) else (if (false == (!bt440.2.2.2))=true then ((jobshelllaw23_awake.f k3).bind fun t452=>(some t452)) else (some false))) else (some false)))) else (some false))) else (some false))))=some r:=H
           have A95:=Zk A950
           clear A950
           replace H:=Option.bind_eq_some_iff.mp H
           obtain ⟨⟨t440,t441,t442,t443⟩,A960,H⟩:=H
           replace H:((fdtab_Free.f k3 l0 a1_0).bind fun bt445=>(if t439=0 then ((fdtab_Valid.f k3 t436).bind fun t447=>(if t447=0 then (if t443=true then (if bt445.2=true then (if ((bt445.1 == a1_0) == (!t443))=true then ((jobshelllaw23_awake.f k3).bind fun t448=>(some t448)) else (some false)) else (if (false == (!t443))=true then ((jobshelllaw23_awake.f k3).bind fun t449=>(some t449)) else (some false))) else ((jobshellref23_Same.f k3 t436 l0).bind fun t450=>(if t450=true then (if bt445.2=true then (if ((bt445.1 == a1_0) == (!t443))=true then ((jobshelllaw23_awake.f k3).bind fun t451=>(some t451)) else (some false)) else (if (false == (!t443))=true then ((jobshelllaw23_awake.f k3).bind fun t452=>(some t452)) else (some false))) else (some false)))) else (some false))) else (some false)))=some r:=H
           have A96:=Zk A960
           clear A960
           replace H:=Option.bind_eq_some_iff.mp H
           obtain ⟨⟨t445,t446⟩,A970,H⟩:=H
           replace H:(if t439=0 then ((fdtab_Valid.f k3 t436).bind fun t447=>(if t447=0 then (if t443=true then (if t446=true then (if ((t445 == a1_0) == (!t443))=true then ((jobshelllaw23_awake.f k3).bind fun t448=>(some t448)) else (some false)) else (if (false == (!t443))=true then ((jobshelllaw23_awake.f k3).bind fun t449=>(some t449)) else (some false))) else ((jobshellref23_Same.f k3 t436 l0).bind fun t450=>(if t450=true then (if t446=true then (if ((t445 == a1_0) == (!t443))=true then ((jobshelllaw23_awake.f k3).bind fun t451=>(some t451)) else (some false)) else (if (false == (!t443))=true then ((jobshelllaw23_awake.f k3).bind fun t452=>(some t452)) else (some false))) else (some false)))) else (some false))) else (some false))=some r:=H
           have A97:=Zk A970
           clear A970
           by_cases c98:t439=0
           ·rw [if_pos c98] at H
            have c98b0:(t439 == 0)=true:=beq_iff_eq.mpr c98
            have c98b1:(t439 != 0)=false:=bne_eq_false_iff_eq.mpr c98
            clear c98
            replace H:=Option.bind_eq_some_iff.mp H
            obtain ⟨t447,A990,H⟩:=H
            replace H:(if t447=0 then (if t443=true then (if t446=true then (if ((t445 == a1_0) == (!t443))=true then ((jobshelllaw23_awake.f k3).bind fun t448=>(some t448)) else (some false)) else (if (false == (!t443))=true then ((jobshelllaw23_awake.f k3).bind fun t449=>(some t449)) else (some false))) else ((jobshellref23_Same.f k3 t436 l0).bind fun t450=>(if t450=true then (if t446=true then (if ((t445 == a1_0) == (!t443))=true then ((jobshelllaw23_awake.f k3).bind fun t451=>(some t451)) else (some false)) else (if (false == (!t443))=true then ((jobshelllaw23_awake.f k3).bind fun t452=>(some t452)) else (some false))) else (some false)))) else (some false))=some r:=H
            have A99:=Zk A990
            clear A990
            by_cases c100:t447=0
            ·rw [if_pos c100] at H
             have c100b0:(t447 == 0)=true:=beq_iff_eq.mpr c100
             have c100b1:(t447 != 0)=false:=bne_eq_false_iff_eq.mpr c100
             clear c100
             by_cases c101:t443=true
             ·subst c101
              have H1:(if t446=true then (if ((t445 == a1_0) == (!true))=true then ((jobshelllaw23_awake.f k3).bind fun t448=>(some t448)) else (some false)) else (if (false == (!true))=true then ((jobshelllaw23_awake.f k3).bind fun t449=>(some t449)) else (some false)))=some r:=by rw [if_pos rfl] at H;exact H
              clear H
              have H:=H1
              clear H1
              by_cases c102:t446=true
              ·subst c102
               have H1:(if ((t445 == a1_0) == (!true))=true then ((jobshelllaw23_awake.f k3).bind fun t448=>(some t448)) else (some false))=some r:=by rw [if_pos rfl] at H;exact H
               clear H
               have H:=H1
               clear H1
               by_cases c103:((t445 == a1_0) == (!true))=true
               ·rw [if_pos c103] at H
                have c103b0:((t445 == a1_0) == (!true))=true:=c103
                have c103q:(t445 == a1_0)=false:=by simpa using c103b0
                (try (have c103b1:decide ((t445 == a1_0)=(!true))=true:=by simpa using c103))
                (try (have c103b2:((t445 == a1_0) == (!true))=true:=by simpa using c103))
                clear c103
                replace H:=Option.bind_eq_some_iff.mp H
                obtain ⟨t448,A1040,H⟩:=H
                replace H:(some t448)=some r:=H
                have A104:=Zk A1040
                clear A1040
                obtain rfl:=Option.some.inj H
                have hnb105:=NB410_424.out
                have hnc105:=NB424_410.out
                have hcz106_0:wr.cell? ⟨gb410,0,none⟩=some (.int .i64 a1_0):=(zJ BK410.out 0).trans rfl
                have hcz106_1:wr.cell? ⟨gb410,1,none⟩=some (.int .i64 a1_1):=(zJ BK410.out 1).trans rfl
                have hcz106_2:wr.cell? ⟨gb410,2,none⟩=some (.bool a1_2):=(zJ BK410.out 2).trans rfl
                have hfz106_0:=zI BK410.out 0
                have hfz106_1:=zI BK410.out 1
                have hfz106_2:=zI BK410.out 2
                go_wp2_with (first|((with_reducible refine zW (f:=26) rfl ?_);refine yF (some 96) rfl rfl Try.func26 (by kernel_rfl) rfl #[.slice Ao19 t414.length co19,.int .i64 a1_0] rfl (by (try simp only [List.map_toArray,List.map_cons,List.map_nil]);first|done|rfl|(simp only [List.length_drop,List.length_take];rfl)) ?_;(with_reducible refine (fdtab_Drop.calls (fun k_=>(k_≠gb410∧k_≠gb424)) _ _ t414 a1_0 t436 t439 _ ?side1 A95.out).mono ?_);(case side1=>exact HO_5.out);rintro e w107 ⟨v437,rfl,ho0,hb⟩;refine ⟨_,rfl,?_⟩;have n0_:=Zk (zT (by (with_reducible repeat (first|apply zN|apply zO|apply zQ));exact HO_5.out) hb);have n1_:=Zk (V_lower (zU (ok':=fun k_=>k_≠gb410∧k_≠gb424) ho0 (fun k_ hk_=>⟨Or.elim hk_ (fun hs_=>hs_.1) (fun hn_=>(Kd.freshB (g:=gb410) (o:=.cells #[.int .i64 a1_0,.int .i64 a1_1,.bool a1_2] 36 (0,0)) (by (with_reducible repeat (first|refine zB ?_ _|refine zD ?_|refine zA ?_ _));exact BK410.out) k_ hn_)),Or.elim hk_ (fun hs_=>hs_.2) (fun hn_=>(Kd.freshB (g:=gb424) (o:=.cells #[.int .i64 t420,.int .i64 t421,.bool t422] 36 (0,0)) (by (with_reducible repeat (first|refine zB ?_ _|refine zD ?_|refine zA ?_ _));exact BK424.out) k_ hn_))⟩)) (zM (by repeat (first|(with_reducible first|exact HB.out|apply zG|apply zC|apply zH|refine zF ?_ GE410.out|refine zF ?_ GE424.out)|exact HB.out))));have n2_:=Zk (zK (g:=gb410) (o:=.cells #[.int .i64 a1_0,.int .i64 a1_1,.bool a1_2] 36 (0,0)) (by (with_reducible repeat (first|refine zB ?_ _|refine zD ?_|refine zA ?_ _));exact BK410.out) hb);have n3_:=Zk (zK (g:=gb424) (o:=.cells #[.int .i64 t420,.int .i64 t421,.bool t422] 36 (0,0)) (by (with_reducible repeat (first|refine zB ?_ _|refine zD ?_|refine zA ?_ _));exact BK424.out) hb);have n4_:=Zk (zL (by repeat (first|(with_reducible first|exact HB.out|apply zG|apply zC|apply zH|refine zF ?_ GE410.out|refine zF ?_ GE424.out)|exact HB.out)) hb);clear HO_5;clear BK410;clear BK424;clear HB;have HO_5:=n0_;have HO438:=n1_;have BK410:=n2_;have BK424:=n3_;have HB:=n4_;clear n0_ n1_ n2_ n3_ n4_;(try clear hb);(try clear hb2);(try clear hk);(try clear hi);(try clear ho0);have hcz108_0:w107.cell? ⟨gb410,0,none⟩=some (.int .i64 a1_0):=(zJ BK410.out 0).trans rfl;have hcz108_1:w107.cell? ⟨gb410,1,none⟩=some (.int .i64 a1_1):=(zJ BK410.out 1).trans rfl;have hcz108_2:w107.cell? ⟨gb410,2,none⟩=some (.bool a1_2):=(zJ BK410.out 2).trans rfl;have hfz108_0:=zI BK410.out 0;have hfz108_1:=zI BK410.out 1;have hfz108_2:=zI BK410.out 2)|((with_reducible refine zW (f:=14) rfl ?_);refine yF (some 103) rfl rfl Try.func14 (by kernel_rfl) rfl #[.slice A0 l0.length c0,.int .i64 a1_0] rfl (by (try simp only [List.map_toArray,List.map_cons,List.map_nil]);first|done|rfl|(simp only [List.length_drop,List.length_take];rfl)) ?_;(with_reducible refine (fdtab_Get.calls _ _ l0 a1_0 t440 t441 t442 true _ ?side1 ?side2 A96.out).mono ?_);(case side1=>repeat (first|exact (C_below HR0.out HB.out)|(with_reducible refine yC ?_ _)|(with_reducible refine yD ?_ _)|(with_reducible refine C_drew ?_)));(case side2=>exact HC0.out);rintro e w109 ⟨rfl,hb⟩;refine ⟨_,rfl,?_⟩;have n0_:=Zk (zT (by (with_reducible repeat (first|apply zN|apply zO|apply zQ));exact HO_5.out) hb);have n1_:=Zk (zT (by (with_reducible repeat (first|apply zN|apply zO|apply zQ));exact HO438.out) hb);have n2_:=Zk (zK (g:=gb410) (o:=.cells #[.int .i64 a1_0,.int .i64 a1_1,.bool a1_2] 36 (0,0)) (by (with_reducible repeat (first|refine zB ?_ _|refine zD ?_|refine zA ?_ _));exact BK410.out) hb);have n3_:=Zk (zK (g:=gb424) (o:=.cells #[.int .i64 t420,.int .i64 t421,.bool t422] 36 (0,0)) (by (with_reducible repeat (first|refine zB ?_ _|refine zD ?_|refine zA ?_ _));exact BK424.out) hb);have n4_:=Zk (zL (by repeat (first|(with_reducible first|exact HB.out|apply zG|apply zC|apply zH|refine zF ?_ GE410.out|refine zF ?_ GE424.out)|exact HB.out)) hb);clear HO_5;clear HO438;clear BK410;clear BK424;clear HB;have HO_5:=n0_;have HO438:=n1_;have BK410:=n2_;have BK424:=n3_;have HB:=n4_;clear n0_ n1_ n2_ n3_ n4_;(try clear hb);(try clear hb2);(try clear hk);(try clear hi))|((with_reducible refine yE (N:=16) rfl ?_);refine yG ?hg (N:=16) ?hd (cs:=#[.int .i64 0,.int .i64 0,.bool false]) (t:=36) ?hr ?_;(case hd=>rfl);(case hg=>rfl);(case hr=>first|(go_simp;done)|(go_simp;rfl));intro gb444 hg w110 hbox hb;have n0_:=Zk (zT (V_elderB (by (with_reducible repeat (first|apply zN|apply zO|apply zQ));exact HO_5.out) gb444 (Nat.le_of_eq hg.symm)) hb);have n1_:=Zk (zT (V_elderB (by (with_reducible repeat (first|apply zN|apply zO|apply zQ));exact HO438.out) gb444 (Nat.le_of_eq hg.symm)) hb);have n2_:=Zk (zK (g:=gb410) (o:=.cells #[.int .i64 a1_0,.int .i64 a1_1,.bool a1_2] 36 (0,0)) (by (with_reducible repeat (first|refine zB ?_ _|refine zD ?_|refine zA ?_ _));exact BK410.out) hb);have n3_:=Zk (zK (g:=gb424) (o:=.cells #[.int .i64 t420,.int .i64 t421,.bool t422] 36 (0,0)) (by (with_reducible repeat (first|refine zB ?_ _|refine zD ?_|refine zA ?_ _));exact BK424.out) hb);have n4_:=Zk (zL (by repeat (first|(with_reducible first|exact HB.out|apply zG|apply zC|apply zH|refine zF ?_ GE410.out|refine zF ?_ GE424.out)|exact HB.out)) hb);have n5_:=Zk (hbox);have n6_:=Zk ((by rw [hg];exact (zM (by repeat (first|(with_reducible first|exact HB.out|apply zG|apply zC|apply zH|refine zF ?_ GE410.out|refine zF ?_ GE424.out)|exact HB.out))):w.heap.size≤gb444));have n7_:=Zk ((by rw [hg];exact (zM (by repeat (first|(with_reducible first|exact HB.out|apply zG|apply zC|apply zH|refine zF ?_ GE410.out|refine zF ?_ GE424.out)|exact HB.out))):w.heap.size≤gb444));have n8_:=Zk ((by rw [hg];exact Nat.ne_of_lt (zX (g:=gb410) (o:=.cells #[.int .i64 a1_0,.int .i64 a1_1,.bool a1_2] 36 (0,0)) (by (with_reducible repeat (first|refine zB ?_ _|refine zD ?_|refine zA ?_ _));exact BK410.out)):gb410≠gb444));have n9_:=Zk ((by rw [hg];exact Nat.ne_of_gt (zX (g:=gb410) (o:=.cells #[.int .i64 a1_0,.int .i64 a1_1,.bool a1_2] 36 (0,0)) (by (with_reducible repeat (first|refine zB ?_ _|refine zD ?_|refine zA ?_ _));exact BK410.out)):gb444≠gb410));have n10_:=Zk ((by rw [hg];exact Nat.ne_of_lt (zX (g:=gb424) (o:=.cells #[.int .i64 t420,.int .i64 t421,.bool t422] 36 (0,0)) (by (with_reducible repeat (first|refine zB ?_ _|refine zD ?_|refine zA ?_ _));exact BK424.out)):gb424≠gb444));have n11_:=Zk ((by rw [hg];exact Nat.ne_of_gt (zX (g:=gb424) (o:=.cells #[.int .i64 t420,.int .i64 t421,.bool t422] 36 (0,0)) (by (with_reducible repeat (first|refine zB ?_ _|refine zD ?_|refine zA ?_ _));exact BK424.out)):gb444≠gb424));clear HO_5;clear HO438;clear BK410;clear BK424;clear HB;have HO_5:=n0_;have HO438:=n1_;have BK410:=n2_;have BK424:=n3_;have HB:=n4_;have BK444:=n5_;have GW444:=n6_;have GE444:=n7_;have NB410_444:=n8_;have NB444_410:=n9_;have NB424_444:=n10_;have NB444_424:=n11_;clear n0_ n1_ n2_ n3_ n4_ n5_ n6_ n7_ n8_ n9_ n10_ n11_;clear hb hbox hg;have hnb111:=NB444_410.out;have hnc111:=NB410_444.out;have hnb112:=NB444_424.out;have hnc112:=NB424_444.out;have hcz113_0:w110.cell? ⟨gb444,0,none⟩=some (.int .i64 0):=(zJ BK444.out 0).trans rfl;have hcz113_1:w110.cell? ⟨gb444,1,none⟩=some (.int .i64 0):=(zJ BK444.out 1).trans rfl;have hcz113_2:w110.cell? ⟨gb444,2,none⟩=some (.bool false):=(zJ BK444.out 2).trans rfl;have hfz113_0:=zI BK444.out 0;have hfz113_1:=zI BK444.out 1;have hfz113_2:=zI BK444.out 2;have hcz114_0:w110.cell? ⟨gb410,0,none⟩=some (.int .i64 a1_0):=(zJ BK410.out 0).trans rfl;have hcz114_1:w110.cell? ⟨gb410,1,none⟩=some (.int .i64 a1_1):=(zJ BK410.out 1).trans rfl;have hcz114_2:w110.cell? ⟨gb410,2,none⟩=some (.bool a1_2):=(zJ BK410.out 2).trans rfl;have hfz114_0:=zI BK410.out 0;have hfz114_1:=zI BK410.out 1;have hfz114_2:=zI BK410.out 2)|((with_reducible refine zW (f:=16) rfl ?_);refine yF (some 110) rfl rfl Try.func16 (by kernel_rfl) rfl #[.slice A0 l0.length c0,.int .i64 a1_0] rfl (by (try simp only [List.map_toArray,List.map_cons,List.map_nil]);first|done|rfl|(simp only [List.length_drop,List.length_take];rfl)) ?_;(with_reducible refine (fdtab_Free.calls k3 _ _ l0 a1_0 t445 true _ ?side1 ?side2 A97.out).mono ?_);(case side1=>exact C_below HR0.out (by repeat (first|(with_reducible first|exact HB.out|apply zG|apply zC|apply zH|refine zF ?_ GE410.out|refine zF ?_ GE424.out|refine zF ?_ GE444.out)|exact HB.out)));(case side2=>exact HC0.out);rintro e w115 ⟨rfl,hb⟩;refine ⟨_,rfl,?_⟩;have n0_:=Zk (zT (by (with_reducible repeat (first|apply zN|apply zO|apply zQ));exact (zU (zV (p:=⟨gb444,2,none⟩) (zV (p:=⟨gb444,1,none⟩) (zV (p:=⟨gb444,0,none⟩) (zU HO_5.out (fun k_ hk=>(⟨hk,hk.2⟩:_∧k_≠gb444))) (fun _ hk=>hk.2) (.int .i64 t440)) (fun _ hk=>hk.2) (.int .i64 t441)) (fun _ hk=>hk.2) (.bool t442)) (fun _ h_=>h_.1))) hb);have n1_:=Zk (zT (by (with_reducible repeat (first|apply zN|apply zO|apply zQ));exact (zU (zV (p:=⟨gb444,2,none⟩) (zV (p:=⟨gb444,1,none⟩) (zV (p:=⟨gb444,0,none⟩) (zU HO438.out (fun k_ hk=>(⟨hk,hk.2⟩:_∧k_≠gb444))) (fun _ hk=>hk.2) (.int .i64 t440)) (fun _ hk=>hk.2) (.int .i64 t441)) (fun _ hk=>hk.2) (.bool t442)) (fun _ h_=>h_.1))) hb);have n2_:=Zk (zK (g:=gb410) (o:=.cells #[.int .i64 a1_0,.int .i64 a1_1,.bool a1_2] 36 (0,0)) (by (with_reducible repeat (first|refine zB ?_ _|refine zD ?_|refine zA ?_ _));refine zP ?_ NB410_444.out _;(with_reducible repeat (first|refine zB ?_ _|refine zD ?_|refine zA ?_ _));refine zP ?_ NB410_444.out _;(with_reducible repeat (first|refine zB ?_ _|refine zD ?_|refine zA ?_ _));refine zP ?_ NB410_444.out _;(with_reducible repeat (first|refine zB ?_ _|refine zD ?_|refine zA ?_ _));exact BK410.out) hb);have n3_:=Zk (zK (g:=gb424) (o:=.cells #[.int .i64 t420,.int .i64 t421,.bool t422] 36 (0,0)) (by (with_reducible repeat (first|refine zB ?_ _|refine zD ?_|refine zA ?_ _));refine zP ?_ NB424_444.out _;(with_reducible repeat (first|refine zB ?_ _|refine zD ?_|refine zA ?_ _));refine zP ?_ NB424_444.out _;(with_reducible repeat (first|refine zB ?_ _|refine zD ?_|refine zA ?_ _));refine zP ?_ NB424_444.out _;(with_reducible repeat (first|refine zB ?_ _|refine zD ?_|refine zA ?_ _));exact BK424.out) hb);have n4_:=Zk (zK (g:=gb444) (o:=.cells #[.int .i64 t440,.int .i64 t441,.bool t442] 36 (0,0)) (by (with_reducible repeat (first|refine zB ?_ _|refine zD ?_|refine zA ?_ _));refine zS (cs:=#[.int .i64 t440,.int .i64 t441,.bool false]) ?_ 2 _ rfl;(with_reducible repeat (first|refine zB ?_ _|refine zD ?_|refine zA ?_ _));refine zS (cs:=#[.int .i64 t440,.int .i64 0,.bool false]) ?_ 1 _ rfl;(with_reducible repeat (first|refine zB ?_ _|refine zD ?_|refine zA ?_ _));refine zS (cs:=#[.int .i64 0,.int .i64 0,.bool false]) ?_ 0 _ rfl;(with_reducible repeat (first|refine zB ?_ _|refine zD ?_|refine zA ?_ _));exact BK444.out) hb);have n5_:=Zk (zL (by repeat (first|(with_reducible first|exact HB.out|apply zG|apply zC|apply zH|refine zF ?_ GE410.out|refine zF ?_ GE424.out|refine zF ?_ GE444.out)|exact HB.out)) hb);clear HO_5;clear HO438;clear BK410;clear BK424;clear BK444;clear HB;have HO_5:=n0_;have HO438:=n1_;have BK410:=n2_;have BK424:=n3_;have BK444:=n4_;have HB:=n5_;clear n0_ n1_ n2_ n3_ n4_ n5_;(try clear hb);(try clear hb2);(try clear hk);(try clear hi);obtain ⟨Ao116,co116,eo116⟩:=V_slice HO438.out;subst eo116)|(go_at_call 18;(with_reducible refine (fdtab_Valid.calls k3 _ _ t436 t447 _ ?side1 ?side2 A99.out).mono ?_);(case side1=>repeat (first|exact (zY HO438.out).2.2|(with_reducible refine yC ?_ _)|(with_reducible refine yD ?_ _)|(with_reducible refine C_drew ?_)));(case side2=>exact (zY HO438.out).2.1);rintro e w117 ⟨rfl,hb⟩;have n0_:=Zk (zT (by (with_reducible repeat (first|apply zN|apply zO|apply zQ));exact HO_5.out) hb);have n1_:=Zk (zT (by (with_reducible repeat (first|apply zN|apply zO|apply zQ));exact HO438.out) hb);have n2_:=Zk (zK (g:=gb410) (o:=.cells #[.int .i64 a1_0,.int .i64 a1_1,.bool a1_2] 36 (0,0)) (by (with_reducible repeat (first|refine zB ?_ _|refine zD ?_|refine zA ?_ _));exact BK410.out) hb);have n3_:=Zk (zK (g:=gb424) (o:=.cells #[.int .i64 t420,.int .i64 t421,.bool t422] 36 (0,0)) (by (with_reducible repeat (first|refine zB ?_ _|refine zD ?_|refine zA ?_ _));exact BK424.out) hb);have n4_:=Zk (zK (g:=gb444) (o:=.cells #[.int .i64 t440,.int .i64 t441,.bool t442] 36 (0,0)) (by (with_reducible repeat (first|refine zB ?_ _|refine zD ?_|refine zA ?_ _));exact BK444.out) hb);have n5_:=Zk (zL (by repeat (first|(with_reducible first|exact HB.out|apply zG|apply zC|apply zH|refine zF ?_ GE410.out|refine zF ?_ GE424.out|refine zF ?_ GE444.out)|exact HB.out)) hb);clear HO_5;clear HO438;clear BK410;clear BK424;clear BK444;clear HB;have HO_5:=n0_;have HO438:=n1_;have BK410:=n2_;have BK424:=n3_;have BK444:=n4_;have HB:=n5_;clear n0_ n1_ n2_ n3_ n4_ n5_;(try clear hb);(try clear hb2);(try clear hk);(try clear hi);have hcz118_0:w117.cell? ⟨gb410,0,none⟩=some (.int .i64 a1_0):=(zJ BK410.out 0).trans rfl;have hcz118_1:w117.cell? ⟨gb410,1,none⟩=some (.int .i64 a1_1):=(zJ BK410.out 1).trans rfl;have hcz118_2:w117.cell? ⟨gb410,2,none⟩=some (.bool a1_2):=(zJ BK410.out 2).trans rfl;have hfz118_0:=zI BK410.out 0;have hfz118_1:=zI BK410.out 1;have hfz118_2:=zI BK410.out 2)|(go_at_call 10;(with_reducible refine (jobshelllaw23_awake.calls k3  t448 _ A104.out).mono ?_);rintro e w119 ⟨rfl,hb⟩;have n0_:=Zk (zT (by (with_reducible repeat (first|apply zN|apply zO|apply zQ));exact HO_5.out) hb);have n1_:=Zk (zT (by (with_reducible repeat (first|apply zN|apply zO|apply zQ));exact HO438.out) hb);have n2_:=Zk (zK (g:=gb410) (o:=.cells #[.int .i64 a1_0,.int .i64 a1_1,.bool a1_2] 36 (0,0)) (by (with_reducible repeat (first|refine zB ?_ _|refine zD ?_|refine zA ?_ _));exact BK410.out) hb);have n3_:=Zk (zK (g:=gb424) (o:=.cells #[.int .i64 t420,.int .i64 t421,.bool t422] 36 (0,0)) (by (with_reducible repeat (first|refine zB ?_ _|refine zD ?_|refine zA ?_ _));exact BK424.out) hb);have n4_:=Zk (zK (g:=gb444) (o:=.cells #[.int .i64 t440,.int .i64 t441,.bool t442] 36 (0,0)) (by (with_reducible repeat (first|refine zB ?_ _|refine zD ?_|refine zA ?_ _));exact BK444.out) hb);have n5_:=Zk (zL (by repeat (first|(with_reducible first|exact HB.out|apply zG|apply zC|apply zH|refine zF ?_ GE410.out|refine zF ?_ GE424.out|refine zF ?_ GE444.out)|exact HB.out)) hb);clear HO_5;clear HO438;clear BK410;clear BK424;clear BK444;clear HB;have HO_5:=n0_;have HO438:=n1_;have BK410:=n2_;have BK424:=n3_;have BK444:=n4_;have HB:=n5_;clear n0_ n1_ n2_ n3_ n4_ n5_;(try clear hb);(try clear hb2);(try clear hk);(try clear hi)))
                go_ret
                exact ⟨by first|rfl|(simp [errW_none,errW_some] <;> rfl)|(simp [*,errW_none,errW_some] <;> rfl),by repeat (first|(with_reducible first|exact HB.out|apply zG|apply zC|apply zH|refine zF ?_ GE410.out|refine zF ?_ GE424.out|refine zF ?_ GE444.out)|exact HB.out)⟩
               ·rw [if_neg c103] at H
                have c103b0:((t445 == a1_0) == (!true))=false:=by simpa using c103
                have c103q:(t445 == a1_0)=true:=by simpa using c103b0
                (try (have c103b1:decide ((t445 == a1_0)=(!true))=false:=by simpa using c103))
                (try (have c103b2:((t445 == a1_0) == (!true))=false:=by simpa using c103))
                (try (have c103b3:¬ ((t445 == a1_0)=(!true)):=by simpa using c103))
                clear c103
                obtain rfl:=Option.some.inj H
                have hnb120:=NB410_424.out
                have hnc120:=NB424_410.out
                have hcz121_0:wr.cell? ⟨gb410,0,none⟩=some (.int .i64 a1_0):=(zJ BK410.out 0).trans rfl
                have hcz121_1:wr.cell? ⟨gb410,1,none⟩=some (.int .i64 a1_1):=(zJ BK410.out 1).trans rfl
                have hcz121_2:wr.cell? ⟨gb410,2,none⟩=some (.bool a1_2):=(zJ BK410.out 2).trans rfl
                have hfz121_0:=zI BK410.out 0
                have hfz121_1:=zI BK410.out 1
                have hfz121_2:=zI BK410.out 2
                go_wp2_with (first|((with_reducible refine zW (f:=26) rfl ?_);refine yF (some 96) rfl rfl Try.func26 (by kernel_rfl) rfl #[.slice Ao19 t414.length co19,.int .i64 a1_0] rfl (by (try simp only [List.map_toArray,List.map_cons,List.map_nil]);first|done|rfl|(simp only [List.length_drop,List.length_take];rfl)) ?_;(with_reducible refine (fdtab_Drop.calls (fun k_=>(k_≠gb410∧k_≠gb424)) _ _ t414 a1_0 t436 t439 _ ?side1 A95.out).mono ?_);(case side1=>exact HO_5.out);rintro e w122 ⟨v437,rfl,ho0,hb⟩;refine ⟨_,rfl,?_⟩;have n0_:=Zk (zT (by (with_reducible repeat (first|apply zN|apply zO|apply zQ));exact HO_5.out) hb);have n1_:=Zk (V_lower (zU (ok':=fun k_=>k_≠gb410∧k_≠gb424) ho0 (fun k_ hk_=>⟨Or.elim hk_ (fun hs_=>hs_.1) (fun hn_=>(Kd.freshB (g:=gb410) (o:=.cells #[.int .i64 a1_0,.int .i64 a1_1,.bool a1_2] 36 (0,0)) (by (with_reducible repeat (first|refine zB ?_ _|refine zD ?_|refine zA ?_ _));exact BK410.out) k_ hn_)),Or.elim hk_ (fun hs_=>hs_.2) (fun hn_=>(Kd.freshB (g:=gb424) (o:=.cells #[.int .i64 t420,.int .i64 t421,.bool t422] 36 (0,0)) (by (with_reducible repeat (first|refine zB ?_ _|refine zD ?_|refine zA ?_ _));exact BK424.out) k_ hn_))⟩)) (zM (by repeat (first|(with_reducible first|exact HB.out|apply zG|apply zC|apply zH|refine zF ?_ GE410.out|refine zF ?_ GE424.out)|exact HB.out))));have n2_:=Zk (zK (g:=gb410) (o:=.cells #[.int .i64 a1_0,.int .i64 a1_1,.bool a1_2] 36 (0,0)) (by (with_reducible repeat (first|refine zB ?_ _|refine zD ?_|refine zA ?_ _));exact BK410.out) hb);have n3_:=Zk (zK (g:=gb424) (o:=.cells #[.int .i64 t420,.int .i64 t421,.bool t422] 36 (0,0)) (by (with_reducible repeat (first|refine zB ?_ _|refine zD ?_|refine zA ?_ _));exact BK424.out) hb);have n4_:=Zk (zL (by repeat (first|(with_reducible first|exact HB.out|apply zG|apply zC|apply zH|refine zF ?_ GE410.out|refine zF ?_ GE424.out)|exact HB.out)) hb);clear HO_5;clear BK410;clear BK424;clear HB;have HO_5:=n0_;have HO438:=n1_;have BK410:=n2_;have BK424:=n3_;have HB:=n4_;clear n0_ n1_ n2_ n3_ n4_;(try clear hb);(try clear hb2);(try clear hk);(try clear hi);(try clear ho0);have hcz123_0:w122.cell? ⟨gb410,0,none⟩=some (.int .i64 a1_0):=(zJ BK410.out 0).trans rfl;have hcz123_1:w122.cell? ⟨gb410,1,none⟩=some (.int .i64 a1_1):=(zJ BK410.out 1).trans rfl;have hcz123_2:w122.cell? ⟨gb410,2,none⟩=some (.bool a1_2):=(zJ BK410.out 2).trans rfl;have hfz123_0:=zI BK410.out 0;have hfz123_1:=zI BK410.out 1;have hfz123_2:=zI BK410.out 2)|((with_reducible refine zW (f:=14) rfl ?_);refine yF (some 103) rfl rfl Try.func14 (by kernel_rfl) rfl #[.slice A0 l0.length c0,.int .i64 a1_0] rfl (by (try simp only [List.map_toArray,List.map_cons,List.map_nil]);first|done|rfl|(simp only [List.length_drop,List.length_take];rfl)) ?_;(with_reducible refine (fdtab_Get.calls _ _ l0 a1_0 t440 t441 t442 true _ ?side1 ?side2 A96.out).mono ?_);(case side1=>repeat (first|exact (C_below HR0.out HB.out)|(with_reducible refine yC ?_ _)|(with_reducible refine yD ?_ _)|(with_reducible refine C_drew ?_)));(case side2=>exact HC0.out);rintro e w124 ⟨rfl,hb⟩;refine ⟨_,rfl,?_⟩;have n0_:=Zk (zT (by (with_reducible repeat (first|apply zN|apply zO|apply zQ));exact HO_5.out) hb);have n1_:=Zk (zT (by (with_reducible repeat (first|apply zN|apply zO|apply zQ));exact HO438.out) hb);have n2_:=Zk (zK (g:=gb410) (o:=.cells #[.int .i64 a1_0,.int .i64 a1_1,.bool a1_2] 36 (0,0)) (by (with_reducible repeat (first|refine zB ?_ _|refine zD ?_|refine zA ?_ _));exact BK410.out) hb);have n3_:=Zk (zK (g:=gb424) (o:=.cells #[.int .i64 t420,.int .i64 t421,.bool t422] 36 (0,0)) (by (with_reducible repeat (first|refine zB ?_ _|refine zD ?_|refine zA ?_ _));exact BK424.out) hb);have n4_:=Zk (zL (by repeat (first|(with_reducible first|exact HB.out|apply zG|apply zC|apply zH|refine zF ?_ GE410.out|refine zF ?_ GE424.out)|exact HB.out)) hb);clear HO_5;clear HO438;clear BK410;clear BK424;clear HB;have HO_5:=n0_;have HO438:=n1_;have BK410:=n2_;have BK424:=n3_;have HB:=n4_;clear n0_ n1_ n2_ n3_ n4_;(try clear hb);(try clear hb2);(try clear hk);(try clear hi))|((with_reducible refine yE (N:=16) rfl ?_);refine yG ?hg (N:=16) ?hd (cs:=#[.int .i64 0,.int .i64 0,.bool false]) (t:=36) ?hr ?_;(case hd=>rfl);(case hg=>rfl);(case hr=>first|(go_simp;done)|(go_simp;rfl));intro gb444 hg w125 hbox hb;have n0_:=Zk (zT (V_elderB (by (with_reducible repeat (first|apply zN|apply zO|apply zQ));exact HO_5.out) gb444 (Nat.le_of_eq hg.symm)) hb);have n1_:=Zk (zT (V_elderB (by (with_reducible repeat (first|apply zN|apply zO|apply zQ));exact HO438.out) gb444 (Nat.le_of_eq hg.symm)) hb);have n2_:=Zk (zK (g:=gb410) (o:=.cells #[.int .i64 a1_0,.int .i64 a1_1,.bool a1_2] 36 (0,0)) (by (with_reducible repeat (first|refine zB ?_ _|refine zD ?_|refine zA ?_ _));exact BK410.out) hb);have n3_:=Zk (zK (g:=gb424) (o:=.cells #[.int .i64 t420,.int .i64 t421,.bool t422] 36 (0,0)) (by (with_reducible repeat (first|refine zB ?_ _|refine zD ?_|refine zA ?_ _));exact BK424.out) hb);have n4_:=Zk (zL (by repeat (first|(with_reducible first|exact HB.out|apply zG|apply zC|apply zH|refine zF ?_ GE410.out|refine zF ?_ GE424.out)|exact HB.out)) hb);have n5_:=Zk (hbox);have n6_:=Zk ((by rw [hg];exact (zM (by repeat (first|(with_reducible first|exact HB.out|apply zG|apply zC|apply zH|refine zF ?_ GE410.out|refine zF ?_ GE424.out)|exact HB.out))):w.heap.size≤gb444));have n7_:=Zk ((by rw [hg];exact (zM (by repeat (first|(with_reducible first|exact HB.out|apply zG|apply zC|apply zH|refine zF ?_ GE410.out|refine zF ?_ GE424.out)|exact HB.out))):w.heap.size≤gb444));have n8_:=Zk ((by rw [hg];exact Nat.ne_of_lt (zX (g:=gb410) (o:=.cells #[.int .i64 a1_0,.int .i64 a1_1,.bool a1_2] 36 (0,0)) (by (with_reducible repeat (first|refine zB ?_ _|refine zD ?_|refine zA ?_ _));exact BK410.out)):gb410≠gb444));have n9_:=Zk ((by rw [hg];exact Nat.ne_of_gt (zX (g:=gb410) (o:=.cells #[.int .i64 a1_0,.int .i64 a1_1,.bool a1_2] 36 (0,0)) (by (with_reducible repeat (first|refine zB ?_ _|refine zD ?_|refine zA ?_ _));exact BK410.out)):gb444≠gb410));have n10_:=Zk ((by rw [hg];exact Nat.ne_of_lt (zX (g:=gb424) (o:=.cells #[.int .i64 t420,.int .i64 t421,.bool t422] 36 (0,0)) (by (with_reducible repeat (first|refine zB ?_ _|refine zD ?_|refine zA ?_ _));exact BK424.out)):gb424≠gb444));have n11_:=Zk ((by rw [hg];exact Nat.ne_of_gt (zX (g:=gb424) (o:=.cells #[.int .i64 t420,.int .i64 t421,.bool t422] 36 (0,0)) (by (with_reducible repeat (first|refine zB ?_ _|refine zD ?_|refine zA ?_ _));exact BK424.out)):gb444≠gb424));clear HO_5;clear HO438;clear BK410;clear BK424;clear HB;have HO_5:=n0_;have HO438:=n1_;have BK410:=n2_;have BK424:=n3_;have HB:=n4_;have BK444:=n5_;have GW444:=n6_;have GE444:=n7_;have NB410_444:=n8_;have NB444_410:=n9_;have NB424_444:=n10_;have NB444_424:=n11_;clear n0_ n1_ n2_ n3_ n4_ n5_ n6_ n7_ n8_ n9_ n10_ n11_;clear hb hbox hg;have hnb126:=NB444_410.out;have hnc126:=NB410_444.out;have hnb127:=NB444_424.out;have hnc127:=NB424_444.out;have hcz128_0:w125.cell? ⟨gb444,0,none⟩=some (.int .i64 0):=(zJ BK444.out 0).trans rfl;have hcz128_1:w125.cell? ⟨gb444,1,none⟩=some (.int .i64 0):=(zJ BK444.out 1).trans rfl;have hcz128_2:w125.cell? ⟨gb444,2,none⟩=some (.bool false):=(zJ BK444.out 2).trans rfl;have hfz128_0:=zI BK444.out 0;have hfz128_1:=zI BK444.out 1;have hfz128_2:=zI BK444.out 2;have hcz129_0:w125.cell? ⟨gb410,0,none⟩=some (.int .i64 a1_0):=(zJ BK410.out 0).trans rfl;have hcz129_1:w125.cell? ⟨gb410,1,none⟩=some (.int .i64 a1_1):=(zJ BK410.out 1).trans rfl;have hcz129_2:w125.cell? ⟨gb410,2,none⟩=some (.bool a1_2):=(zJ BK410.out 2).trans rfl;have hfz129_0:=zI BK410.out 0;have hfz129_1:=zI BK410.out 1;have hfz129_2:=zI BK410.out 2)|((with_reducible refine zW (f:=16) rfl ?_);refine yF (some 110) rfl rfl Try.func16 (by kernel_rfl) rfl #[.slice A0 l0.length c0,.int .i64 a1_0] rfl (by (try simp only [List.map_toArray,List.map_cons,List.map_nil]);first|done|rfl|(simp only [List.length_drop,List.length_take];rfl)) ?_;(with_reducible refine (fdtab_Free.calls k3 _ _ l0 a1_0 t445 true _ ?side1 ?side2 A97.out).mono ?_);(case side1=>exact C_below HR0.out (by repeat (first|(with_reducible first|exact HB.out|apply zG|apply zC|apply zH|refine zF ?_ GE410.out|refine zF ?_ GE424.out|refine zF ?_ GE444.out)|exact HB.out)));(case side2=>exact HC0.out);rintro e w130 ⟨rfl,hb⟩;refine ⟨_,rfl,?_⟩;have n0_:=Zk (zT (by (with_reducible repeat (first|apply zN|apply zO|apply zQ));exact (zU (zV (p:=⟨gb444,2,none⟩) (zV (p:=⟨gb444,1,none⟩) (zV (p:=⟨gb444,0,none⟩) (zU HO_5.out (fun k_ hk=>(⟨hk,hk.2⟩:_∧k_≠gb444))) (fun _ hk=>hk.2) (.int .i64 t440)) (fun _ hk=>hk.2) (.int .i64 t441)) (fun _ hk=>hk.2) (.bool t442)) (fun _ h_=>h_.1))) hb);have n1_:=Zk (zT (by (with_reducible repeat (first|apply zN|apply zO|apply zQ));exact (zU (zV (p:=⟨gb444,2,none⟩) (zV (p:=⟨gb444,1,none⟩) (zV (p:=⟨gb444,0,none⟩) (zU HO438.out (fun k_ hk=>(⟨hk,hk.2⟩:_∧k_≠gb444))) (fun _ hk=>hk.2) (.int .i64 t440)) (fun _ hk=>hk.2) (.int .i64 t441)) (fun _ hk=>hk.2) (.bool t442)) (fun _ h_=>h_.1))) hb);have n2_:=Zk (zK (g:=gb410) (o:=.cells #[.int .i64 a1_0,.int .i64 a1_1,.bool a1_2] 36 (0,0)) (by (with_reducible repeat (first|refine zB ?_ _|refine zD ?_|refine zA ?_ _));refine zP ?_ NB410_444.out _;(with_reducible repeat (first|refine zB ?_ _|refine zD ?_|refine zA ?_ _));refine zP ?_ NB410_444.out _;(with_reducible repeat (first|refine zB ?_ _|refine zD ?_|refine zA ?_ _));refine zP ?_ NB410_444.out _;(with_reducible repeat (first|refine zB ?_ _|refine zD ?_|refine zA ?_ _));exact BK410.out) hb);have n3_:=Zk (zK (g:=gb424) (o:=.cells #[.int .i64 t420,.int .i64 t421,.bool t422] 36 (0,0)) (by (with_reducible repeat (first|refine zB ?_ _|refine zD ?_|refine zA ?_ _));refine zP ?_ NB424_444.out _;(with_reducible repeat (first|refine zB ?_ _|refine zD ?_|refine zA ?_ _));refine zP ?_ NB424_444.out _;(with_reducible repeat (first|refine zB ?_ _|refine zD ?_|refine zA ?_ _));refine zP ?_ NB424_444.out _;(with_reducible repeat (first|refine zB ?_ _|refine zD ?_|refine zA ?_ _));exact BK424.out) hb);have n4_:=Zk (zK (g:=gb444) (o:=.cells #[.int .i64 t440,.int .i64 t441,.bool t442] 36 (0,0)) (by (with_reducible repeat (first|refine zB ?_ _|refine zD ?_|refine zA ?_ _));refine zS (cs:=#[.int .i64 t440,.int .i64 t441,.bool false]) ?_ 2 _ rfl;(with_reducible repeat (first|refine zB ?_ _|refine zD ?_|refine zA ?_ _));refine zS (cs:=#[.int .i64 t440,.int .i64 0,.bool false]) ?_ 1 _ rfl;(with_reducible repeat (first|refine zB ?_ _|refine zD ?_|refine zA ?_ _));refine zS (cs:=#[.int .i64 0,.int .i64 0,.bool false]) ?_ 0 _ rfl;(with_reducible repeat (first|refine zB ?_ _|refine zD ?_|refine zA ?_ _));exact BK444.out) hb);have n5_:=Zk (zL (by repeat (first|(with_reducible first|exact HB.out|apply zG|apply zC|apply zH|refine zF ?_ GE410.out|refine zF ?_ GE424.out|refine zF ?_ GE444.out)|exact HB.out)) hb);clear HO_5;clear HO438;clear BK410;clear BK424;clear BK444;clear HB;have HO_5:=n0_;have HO438:=n1_;have BK410:=n2_;have BK424:=n3_;have BK444:=n4_;have HB:=n5_;clear n0_ n1_ n2_ n3_ n4_ n5_;(try clear hb);(try clear hb2);(try clear hk);(try clear hi);obtain ⟨Ao131,co131,eo131⟩:=V_slice HO438.out;subst eo131)|(go_at_call 18;(with_reducible refine (fdtab_Valid.calls k3 _ _ t436 t447 _ ?side1 ?side2 A99.out).mono ?_);(case side1=>repeat (first|exact (zY HO438.out).2.2|(with_reducible refine yC ?_ _)|(with_reducible refine yD ?_ _)|(with_reducible refine C_drew ?_)));(case side2=>exact (zY HO438.out).2.1);rintro e w132 ⟨rfl,hb⟩;have n0_:=Zk (zT (by (with_reducible repeat (first|apply zN|apply zO|apply zQ));exact HO_5.out) hb);have n1_:=Zk (zT (by (with_reducible repeat (first|apply zN|apply zO|apply zQ));exact HO438.out) hb);have n2_:=Zk (zK (g:=gb410) (o:=.cells #[.int .i64 a1_0,.int .i64 a1_1,.bool a1_2] 36 (0,0)) (by (with_reducible repeat (first|refine zB ?_ _|refine zD ?_|refine zA ?_ _));exact BK410.out) hb);have n3_:=Zk (zK (g:=gb424) (o:=.cells #[.int .i64 t420,.int .i64 t421,.bool t422] 36 (0,0)) (by (with_reducible repeat (first|refine zB ?_ _|refine zD ?_|refine zA ?_ _));exact BK424.out) hb);have n4_:=Zk (zK (g:=gb444) (o:=.cells #[.int .i64 t440,.int .i64 t441,.bool t442] 36 (0,0)) (by (with_reducible repeat (first|refine zB ?_ _|refine zD ?_|refine zA ?_ _));exact BK444.out) hb);have n5_:=Zk (zL (by repeat (first|(with_reducible first|exact HB.out|apply zG|apply zC|apply zH|refine zF ?_ GE410.out|refine zF ?_ GE424.out|refine zF ?_ GE444.out)|exact HB.out)) hb);clear HO_5;clear HO438;clear BK410;clear BK424;clear BK444;clear HB;have HO_5:=n0_;have HO438:=n1_;have BK410:=n2_;have BK424:=n3_;have BK444:=n4_;have HB:=n5_;clear n0_ n1_ n2_ n3_ n4_ n5_;(try clear hb);(try clear hb2);(try clear hk);(try clear hi);have hcz133_0:w132.cell? ⟨gb410,0,none⟩=some (.int .i64 a1_0):=(zJ BK410.out 0).trans rfl;have hcz133_1:w132.cell? ⟨gb410,1,none⟩=some (.int .i64 a1_1):=(zJ BK410.out 1).trans rfl;have hcz133_2:w132.cell? ⟨gb410,2,none⟩=some (.bool a1_2):=(zJ BK410.out 2).trans rfl;have hfz133_0:=zI BK410.out 0;have hfz133_1:=zI BK410.out 1;have hfz133_2:=zI BK410.out 2))
                go_ret
                exact ⟨by first|rfl|(simp [errW_none,errW_some] <;> rfl)|(simp [*,errW_none,errW_some] <;> rfl),by repeat (first|(with_reducible first|exact HB.out|apply zG|apply zC|apply zH|refine zF ?_ GE410.out|refine zF ?_ GE424.out|refine zF ?_ GE444.out)|exact HB.out)⟩
              ·replace c102:=Bool.eq_false_iff.mpr c102
               subst c102
               have H1:(if (false == (!true))=true then ((jobshelllaw23_awake.f k3).bind fun t449=>(some t449)) else (some false))=some r:=by rw [if_neg (show ¬ (false=true) by decide)] at H;exact H
               clear H
               have H:=H1
               clear H1
               by_cases c134:(false == (!true))=true
               ·rw [if_pos c134] at H
                have c134b0:(false == (!true))=true:=c134
                clear c134
                replace H:=Option.bind_eq_some_iff.mp H
                obtain ⟨t449,A1350,H⟩:=H
                replace H:(some t449)=some r:=H
                have A135:=Zk A1350
                clear A1350
                obtain rfl:=Option.some.inj H
                have hnb136:=NB410_424.out
                have hnc136:=NB424_410.out
                have hcz137_0:wr.cell? ⟨gb410,0,none⟩=some (.int .i64 a1_0):=(zJ BK410.out 0).trans rfl
                have hcz137_1:wr.cell? ⟨gb410,1,none⟩=some (.int .i64 a1_1):=(zJ BK410.out 1).trans rfl
                have hcz137_2:wr.cell? ⟨gb410,2,none⟩=some (.bool a1_2):=(zJ BK410.out 2).trans rfl
                have hfz137_0:=zI BK410.out 0
                have hfz137_1:=zI BK410.out 1
                have hfz137_2:=zI BK410.out 2
                go_wp2_with (first|((with_reducible refine zW (f:=26) rfl ?_);refine yF (some 96) rfl rfl Try.func26 (by kernel_rfl) rfl #[.slice Ao19 t414.length co19,.int .i64 a1_0] rfl (by (try simp only [List.map_toArray,List.map_cons,List.map_nil]);first|done|rfl|(simp only [List.length_drop,List.length_take];rfl)) ?_;(with_reducible refine (fdtab_Drop.calls (fun k_=>(k_≠gb410∧k_≠gb424)) _ _ t414 a1_0 t436 t439 _ ?side1 A95.out).mono ?_);(case side1=>exact HO_5.out);rintro e w138 ⟨v437,rfl,ho0,hb⟩;refine ⟨_,rfl,?_⟩;have n0_:=Zk (zT (by (with_reducible repeat (first|apply zN|apply zO|apply zQ));exact HO_5.out) hb);have n1_:=Zk (V_lower (zU (ok':=fun k_=>k_≠gb410∧k_≠gb424) ho0 (fun k_ hk_=>⟨Or.elim hk_ (fun hs_=>hs_.1) (fun hn_=>(Kd.freshB (g:=gb410) (o:=.cells #[.int .i64 a1_0,.int .i64 a1_1,.bool a1_2] 36 (0,0)) (by (with_reducible repeat (first|refine zB ?_ _|refine zD ?_|refine zA ?_ _));exact BK410.out) k_ hn_)),Or.elim hk_ (fun hs_=>hs_.2) (fun hn_=>(Kd.freshB (g:=gb424) (o:=.cells #[.int .i64 t420,.int .i64 t421,.bool t422] 36 (0,0)) (by (with_reducible repeat (first|refine zB ?_ _|refine zD ?_|refine zA ?_ _));exact BK424.out) k_ hn_))⟩)) (zM (by repeat (first|(with_reducible first|exact HB.out|apply zG|apply zC|apply zH|refine zF ?_ GE410.out|refine zF ?_ GE424.out)|exact HB.out))));have n2_:=Zk (zK (g:=gb410) (o:=.cells #[.int .i64 a1_0,.int .i64 a1_1,.bool a1_2] 36 (0,0)) (by (with_reducible repeat (first|refine zB ?_ _|refine zD ?_|refine zA ?_ _));exact BK410.out) hb);have n3_:=Zk (zK (g:=gb424) (o:=.cells #[.int .i64 t420,.int .i64 t421,.bool t422] 36 (0,0)) (by (with_reducible repeat (first|refine zB ?_ _|refine zD ?_|refine zA ?_ _));exact BK424.out) hb);have n4_:=Zk (zL (by repeat (first|(with_reducible first|exact HB.out|apply zG|apply zC|apply zH|refine zF ?_ GE410.out|refine zF ?_ GE424.out)|exact HB.out)) hb);clear HO_5;clear BK410;clear BK424;clear HB;have HO_5:=n0_;have HO438:=n1_;have BK410:=n2_;have BK424:=n3_;have HB:=n4_;clear n0_ n1_ n2_ n3_ n4_;(try clear hb);(try clear hb2);(try clear hk);(try clear hi);(try clear ho0);have hcz139_0:w138.cell? ⟨gb410,0,none⟩=some (.int .i64 a1_0):=(zJ BK410.out 0).trans rfl;have hcz139_1:w138.cell? ⟨gb410,1,none⟩=some (.int .i64 a1_1):=(zJ BK410.out 1).trans rfl;have hcz139_2:w138.cell? ⟨gb410,2,none⟩=some (.bool a1_2):=(zJ BK410.out 2).trans rfl;have hfz139_0:=zI BK410.out 0;have hfz139_1:=zI BK410.out 1;have hfz139_2:=zI BK410.out 2)|((with_reducible refine zW (f:=14) rfl ?_);refine yF (some 103) rfl rfl Try.func14 (by kernel_rfl) rfl #[.slice A0 l0.length c0,.int .i64 a1_0] rfl (by (try simp only [List.map_toArray,List.map_cons,List.map_nil]);first|done|rfl|(simp only [List.length_drop,List.length_take];rfl)) ?_;(with_reducible refine (fdtab_Get.calls _ _ l0 a1_0 t440 t441 t442 true _ ?side1 ?side2 A96.out).mono ?_);(case side1=>repeat (first|exact (C_below HR0.out HB.out)|(with_reducible refine yC ?_ _)|(with_reducible refine yD ?_ _)|(with_reducible refine C_drew ?_)));(case side2=>exact HC0.out);rintro e w140 ⟨rfl,hb⟩;refine ⟨_,rfl,?_⟩;have n0_:=Zk (zT (by (with_reducible repeat (first|apply zN|apply zO|apply zQ));exact HO_5.out) hb);have n1_:=Zk (zT (by (with_reducible repeat (first|apply zN|apply zO|apply zQ));exact HO438.out) hb);have n2_:=Zk (zK (g:=gb410) (o:=.cells #[.int .i64 a1_0,.int .i64 a1_1,.bool a1_2] 36 (0,0)) (by (with_reducible repeat (first|refine zB ?_ _|refine zD ?_|refine zA ?_ _));exact BK410.out) hb);have n3_:=Zk (zK (g:=gb424) (o:=.cells #[.int .i64 t420,.int .i64 t421,.bool t422] 36 (0,0)) (by (with_reducible repeat (first|refine zB ?_ _|refine zD ?_|refine zA ?_ _));exact BK424.out) hb);have n4_:=Zk (zL (by repeat (first|(with_reducible first|exact HB.out|apply zG|apply zC|apply zH|refine zF ?_ GE410.out|refine zF ?_ GE424.out)|exact HB.out)) hb);clear HO_5;clear HO438;clear BK410;clear BK424;clear HB;have HO_5:=n0_;have HO438:=n1_;have BK410:=n2_;have BK424:=n3_;have HB:=n4_;clear n0_ n1_ n2_ n3_ n4_;(try clear hb);(try clear hb2);(try clear hk);(try clear hi))|((with_reducible refine yE (N:=16) rfl ?_);refine yG ?hg (N:=16) ?hd (cs:=#[.int .i64 0,.int .i64 0,.bool false]) (t:=36) ?hr ?_;(case hd=>rfl);(case hg=>rfl);(case hr=>first|(go_simp;done)|(go_simp;rfl));intro gb444 hg w141 hbox hb;have n0_:=Zk (zT (V_elderB (by (with_reducible repeat (first|apply zN|apply zO|apply zQ));exact HO_5.out) gb444 (Nat.le_of_eq hg.symm)) hb);have n1_:=Zk (zT (V_elderB (by (with_reducible repeat (first|apply zN|apply zO|apply zQ));exact HO438.out) gb444 (Nat.le_of_eq hg.symm)) hb);have n2_:=Zk (zK (g:=gb410) (o:=.cells #[.int .i64 a1_0,.int .i64 a1_1,.bool a1_2] 36 (0,0)) (by (with_reducible repeat (first|refine zB ?_ _|refine zD ?_|refine zA ?_ _));exact BK410.out) hb);have n3_:=Zk (zK (g:=gb424) (o:=.cells #[.int .i64 t420,.int .i64 t421,.bool t422] 36 (0,0)) (by (with_reducible repeat (first|refine zB ?_ _|refine zD ?_|refine zA ?_ _));exact BK424.out) hb);have n4_:=Zk (zL (by repeat (first|(with_reducible first|exact HB.out|apply zG|apply zC|apply zH|refine zF ?_ GE410.out|refine zF ?_ GE424.out)|exact HB.out)) hb);have n5_:=Zk (hbox);have n6_:=Zk ((by rw [hg];exact (zM (by repeat (first|(with_reducible first|exact HB.out|apply zG|apply zC|apply zH|refine zF ?_ GE410.out|refine zF ?_ GE424.out)|exact HB.out))):w.heap.size≤gb444));have n7_:=Zk ((by rw [hg];exact (zM (by repeat (first|(with_reducible first|exact HB.out|apply zG|apply zC|apply zH|refine zF ?_ GE410.out|refine zF ?_ GE424.out)|exact HB.out))):w.heap.size≤gb444));have n8_:=Zk ((by rw [hg];exact Nat.ne_of_lt (zX (g:=gb410) (o:=.cells #[.int .i64 a1_0,.int .i64 a1_1,.bool a1_2] 36 (0,0)) (by (with_reducible repeat (first|refine zB ?_ _|refine zD ?_|refine zA ?_ _));exact BK410.out)):gb410≠gb444));have n9_:=Zk ((by rw [hg];exact Nat.ne_of_gt (zX (g:=gb410) (o:=.cells #[.int .i64 a1_0,.int .i64 a1_1,.bool a1_2] 36 (0,0)) (by (with_reducible repeat (first|refine zB ?_ _|refine zD ?_|refine zA ?_ _));exact BK410.out)):gb444≠gb410));have n10_:=Zk ((by rw [hg];exact Nat.ne_of_lt (zX (g:=gb424) (o:=.cells #[.int .i64 t420,.int .i64 t421,.bool t422] 36 (0,0)) (by (with_reducible repeat (first|refine zB ?_ _|refine zD ?_|refine zA ?_ _));exact BK424.out)):gb424≠gb444));have n11_:=Zk ((by rw [hg];exact Nat.ne_of_gt (zX (g:=gb424) (o:=.cells #[.int .i64 t420,.int .i64 t421,.bool t422] 36 (0,0)) (by (with_reducible repeat (first|refine zB ?_ _|refine zD ?_|refine zA ?_ _));exact BK424.out)):gb444≠gb424));clear HO_5;clear HO438;clear BK410;clear BK424;clear HB;have HO_5:=n0_;have HO438:=n1_;have BK410:=n2_;have BK424:=n3_;have HB:=n4_;have BK444:=n5_;have GW444:=n6_;have GE444:=n7_;have NB410_444:=n8_;have NB444_410:=n9_;have NB424_444:=n10_;have NB444_424:=n11_;clear n0_ n1_ n2_ n3_ n4_ n5_ n6_ n7_ n8_ n9_ n10_ n11_;clear hb hbox hg;have hnb142:=NB444_410.out;have hnc142:=NB410_444.out;have hnb143:=NB444_424.out;have hnc143:=NB424_444.out;have hcz144_0:w141.cell? ⟨gb444,0,none⟩=some (.int .i64 0):=(zJ BK444.out 0).trans rfl;have hcz144_1:w141.cell? ⟨gb444,1,none⟩=some (.int .i64 0):=(zJ BK444.out 1).trans rfl;have hcz144_2:w141.cell? ⟨gb444,2,none⟩=some (.bool false):=(zJ BK444.out 2).trans rfl;have hfz144_0:=zI BK444.out 0;have hfz144_1:=zI BK444.out 1;have hfz144_2:=zI BK444.out 2;have hcz145_0:w141.cell? ⟨gb410,0,none⟩=some (.int .i64 a1_0):=(zJ BK410.out 0).trans rfl;have hcz145_1:w141.cell? ⟨gb410,1,none⟩=some (.int .i64 a1_1):=(zJ BK410.out 1).trans rfl;have hcz145_2:w141.cell? ⟨gb410,2,none⟩=some (.bool a1_2):=(zJ BK410.out 2).trans rfl;have hfz145_0:=zI BK410.out 0;have hfz145_1:=zI BK410.out 1;have hfz145_2:=zI BK410.out 2)|((with_reducible refine zW (f:=16) rfl ?_);refine yF (some 110) rfl rfl Try.func16 (by kernel_rfl) rfl #[.slice A0 l0.length c0,.int .i64 a1_0] rfl (by (try simp only [List.map_toArray,List.map_cons,List.map_nil]);first|done|rfl|(simp only [List.length_drop,List.length_take];rfl)) ?_;(with_reducible refine (fdtab_Free.calls k3 _ _ l0 a1_0 t445 false _ ?side1 ?side2 A97.out).mono ?_);(case side1=>exact C_below HR0.out (by repeat (first|(with_reducible first|exact HB.out|apply zG|apply zC|apply zH|refine zF ?_ GE410.out|refine zF ?_ GE424.out|refine zF ?_ GE444.out)|exact HB.out)));(case side2=>exact HC0.out);rintro e w146 ⟨rfl,hb⟩;refine ⟨_,rfl,?_⟩;have n0_:=Zk (zT (by (with_reducible repeat (first|apply zN|apply zO|apply zQ));exact (zU (zV (p:=⟨gb444,2,none⟩) (zV (p:=⟨gb444,1,none⟩) (zV (p:=⟨gb444,0,none⟩) (zU HO_5.out (fun k_ hk=>(⟨hk,hk.2⟩:_∧k_≠gb444))) (fun _ hk=>hk.2) (.int .i64 t440)) (fun _ hk=>hk.2) (.int .i64 t441)) (fun _ hk=>hk.2) (.bool t442)) (fun _ h_=>h_.1))) hb);have n1_:=Zk (zT (by (with_reducible repeat (first|apply zN|apply zO|apply zQ));exact (zU (zV (p:=⟨gb444,2,none⟩) (zV (p:=⟨gb444,1,none⟩) (zV (p:=⟨gb444,0,none⟩) (zU HO438.out (fun k_ hk=>(⟨hk,hk.2⟩:_∧k_≠gb444))) (fun _ hk=>hk.2) (.int .i64 t440)) (fun _ hk=>hk.2) (.int .i64 t441)) (fun _ hk=>hk.2) (.bool t442)) (fun _ h_=>h_.1))) hb);have n2_:=Zk (zK (g:=gb410) (o:=.cells #[.int .i64 a1_0,.int .i64 a1_1,.bool a1_2] 36 (0,0)) (by (with_reducible repeat (first|refine zB ?_ _|refine zD ?_|refine zA ?_ _));refine zP ?_ NB410_444.out _;(with_reducible repeat (first|refine zB ?_ _|refine zD ?_|refine zA ?_ _));refine zP ?_ NB410_444.out _;(with_reducible repeat (first|refine zB ?_ _|refine zD ?_|refine zA ?_ _));refine zP ?_ NB410_444.out _;(with_reducible repeat (first|refine zB ?_ _|refine zD ?_|refine zA ?_ _));exact BK410.out) hb);have n3_:=Zk (zK (g:=gb424) (o:=.cells #[.int .i64 t420,.int .i64 t421,.bool t422] 36 (0,0)) (by (with_reducible repeat (first|refine zB ?_ _|refine zD ?_|refine zA ?_ _));refine zP ?_ NB424_444.out _;(with_reducible repeat (first|refine zB ?_ _|refine zD ?_|refine zA ?_ _));refine zP ?_ NB424_444.out _;(with_reducible repeat (first|refine zB ?_ _|refine zD ?_|refine zA ?_ _));refine zP ?_ NB424_444.out _;(with_reducible repeat (first|refine zB ?_ _|refine zD ?_|refine zA ?_ _));exact BK424.out) hb);have n4_:=Zk (zK (g:=gb444) (o:=.cells #[.int .i64 t440,.int .i64 t441,.bool t442] 36 (0,0)) (by (with_reducible repeat (first|refine zB ?_ _|refine zD ?_|refine zA ?_ _));refine zS (cs:=#[.int .i64 t440,.int .i64 t441,.bool false]) ?_ 2 _ rfl;(with_reducible repeat (first|refine zB ?_ _|refine zD ?_|refine zA ?_ _));refine zS (cs:=#[.int .i64 t440,.int .i64 0,.bool false]) ?_ 1 _ rfl;(with_reducible repeat (first|refine zB ?_ _|refine zD ?_|refine zA ?_ _));refine zS (cs:=#[.int .i64 0,.int .i64 0,.bool false]) ?_ 0 _ rfl;(with_reducible repeat (first|refine zB ?_ _|refine zD ?_|refine zA ?_ _));exact BK444.out) hb);have n5_:=Zk (zL (by repeat (first|(with_reducible first|exact HB.out|apply zG|apply zC|apply zH|refine zF ?_ GE410.out|refine zF ?_ GE424.out|refine zF ?_ GE444.out)|exact HB.out)) hb);clear HO_5;clear HO438;clear BK410;clear BK424;clear BK444;clear HB;have HO_5:=n0_;have HO438:=n1_;have BK410:=n2_;have BK424:=n3_;have BK444:=n4_;have HB:=n5_;clear n0_ n1_ n2_ n3_ n4_ n5_;(try clear hb);(try clear hb2);(try clear hk);(try clear hi);obtain ⟨Ao147,co147,eo147⟩:=V_slice HO438.out;subst eo147)|(go_at_call 18;(with_reducible refine (fdtab_Valid.calls k3 _ _ t436 t447 _ ?side1 ?side2 A99.out).mono ?_);(case side1=>repeat (first|exact (zY HO438.out).2.2|(with_reducible refine yC ?_ _)|(with_reducible refine yD ?_ _)|(with_reducible refine C_drew ?_)));(case side2=>exact (zY HO438.out).2.1);rintro e w148 ⟨rfl,hb⟩;have n0_:=Zk (zT (by (with_reducible repeat (first|apply zN|apply zO|apply zQ));exact HO_5.out) hb);have n1_:=Zk (zT (by (with_reducible repeat (first|apply zN|apply zO|apply zQ));exact HO438.out) hb);have n2_:=Zk (zK (g:=gb410) (o:=.cells #[.int .i64 a1_0,.int .i64 a1_1,.bool a1_2] 36 (0,0)) (by (with_reducible repeat (first|refine zB ?_ _|refine zD ?_|refine zA ?_ _));exact BK410.out) hb);have n3_:=Zk (zK (g:=gb424) (o:=.cells #[.int .i64 t420,.int .i64 t421,.bool t422] 36 (0,0)) (by (with_reducible repeat (first|refine zB ?_ _|refine zD ?_|refine zA ?_ _));exact BK424.out) hb);have n4_:=Zk (zK (g:=gb444) (o:=.cells #[.int .i64 t440,.int .i64 t441,.bool t442] 36 (0,0)) (by (with_reducible repeat (first|refine zB ?_ _|refine zD ?_|refine zA ?_ _));exact BK444.out) hb);have n5_:=Zk (zL (by repeat (first|(with_reducible first|exact HB.out|apply zG|apply zC|apply zH|refine zF ?_ GE410.out|refine zF ?_ GE424.out|refine zF ?_ GE444.out)|exact HB.out)) hb);clear HO_5;clear HO438;clear BK410;clear BK424;clear BK444;clear HB;have HO_5:=n0_;have HO438:=n1_;have BK410:=n2_;have BK424:=n3_;have BK444:=n4_;have HB:=n5_;clear n0_ n1_ n2_ n3_ n4_ n5_;(try clear hb);(try clear hb2);(try clear hk);(try clear hi))|(go_at_call 10;(with_reducible refine (jobshelllaw23_awake.calls k3  t449 _ A135.out).mono ?_);rintro e w149 ⟨rfl,hb⟩;have n0_:=Zk (zT (by (with_reducible repeat (first|apply zN|apply zO|apply zQ));exact HO_5.out) hb);have n1_:=Zk (zT (by (with_reducible repeat (first|apply zN|apply zO|apply zQ));exact HO438.out) hb);have n2_:=Zk (zK (g:=gb410) (o:=.cells #[.int .i64 a1_0,.int .i64 a1_1,.bool a1_2] 36 (0,0)) (by (with_reducible repeat (first|refine zB ?_ _|refine zD ?_|refine zA ?_ _));exact BK410.out) hb);have n3_:=Zk (zK (g:=gb424) (o:=.cells #[.int .i64 t420,.int .i64 t421,.bool t422] 36 (0,0)) (by (with_reducible repeat (first|refine zB ?_ _|refine zD ?_|refine zA ?_ _));exact BK424.out) hb);have n4_:=Zk (zK (g:=gb444) (o:=.cells #[.int .i64 t440,.int .i64 t441,.bool t442] 36 (0,0)) (by (with_reducible repeat (first|refine zB ?_ _|refine zD ?_|refine zA ?_ _));exact BK444.out) hb);have n5_:=Zk (zL (by repeat (first|(with_reducible first|exact HB.out|apply zG|apply zC|apply zH|refine zF ?_ GE410.out|refine zF ?_ GE424.out|refine zF ?_ GE444.out)|exact HB.out)) hb);clear HO_5;clear HO438;clear BK410;clear BK424;clear BK444;clear HB;have HO_5:=n0_;have HO438:=n1_;have BK410:=n2_;have BK424:=n3_;have BK444:=n4_;have HB:=n5_;clear n0_ n1_ n2_ n3_ n4_ n5_;(try clear hb);(try clear hb2);(try clear hk);(try clear hi)))
                go_ret
                exact ⟨by first|rfl|(simp [errW_none,errW_some] <;> rfl)|(simp [*,errW_none,errW_some] <;> rfl),by repeat (first|(with_reducible first|exact HB.out|apply zG|apply zC|apply zH|refine zF ?_ GE410.out|refine zF ?_ GE424.out|refine zF ?_ GE444.out)|exact HB.out)⟩
               ·exact absurd rfl c134
             ·replace c101:=Bool.eq_false_iff.mpr c101
              subst c101
              have H1:((jobshellref23_Same.f k3 t436 l0).bind fun t450=>(if t450=true then (if t446=true then (if ((t445 == a1_0) == (!false))=true then ((jobshelllaw23_awake.f k3).bind fun t451=>(some t451)) else (some false)) else (if (false == (!false))=true then ((jobshelllaw23_awake.f k3).bind fun t452=>(some t452)) else (some false))) else (some false)))=some r:=by rw [if_neg (show ¬ (false=true) by decide)] at H;exact H
              clear H
              have H:=H1
              clear H1
              replace H:=Option.bind_eq_some_iff.mp H
              obtain ⟨t450,A1630,H⟩:=H
              replace H:(if t450=true then (if t446=true then (if ((t445 == a1_0) == (!false))=true then ((jobshelllaw23_awake.f k3).bind fun t451=>(some t451)) else (some false)) else (if (false == (!false))=true then ((jobshelllaw23_awake.f k3).bind fun t452=>(some t452)) else (some false))) else (some false))=some r:=H
              have A163:=Zk A1630
              clear A1630
              by_cases c164:t450=true
              ·subst c164
               have H1:(if t446=true then (if ((t445 == a1_0) == (!false))=true then ((jobshelllaw23_awake.f k3).bind fun t451=>(some t451)) else (some false)) else (if (false == (!false))=true then ((jobshelllaw23_awake.f k3).bind fun t452=>(some t452)) else (some false)))=some r:=by rw [if_pos rfl] at H;exact H
               clear H
               have H:=H1
               clear H1
               by_cases c165:t446=true
               ·subst c165
                have H1:(if ((t445 == a1_0) == (!false))=true then ((jobshelllaw23_awake.f k3).bind fun t451=>(some t451)) else (some false))=some r:=by rw [if_pos rfl] at H;exact H
                clear H
                have H:=H1
                clear H1
                by_cases c166:((t445 == a1_0) == (!false))=true
                ·rw [if_pos c166] at H
                 have c166b0:((t445 == a1_0) == (!false))=true:=c166
                 have c166q:(t445 == a1_0)=true:=by simpa using c166b0
                 (try (have c166b1:decide ((t445 == a1_0)=(!false))=true:=by simpa using c166))
                 (try (have c166b2:((t445 == a1_0) == (!false))=true:=by simpa using c166))
                 clear c166
                 replace H:=Option.bind_eq_some_iff.mp H
                 obtain ⟨t451,A1670,H⟩:=H
                 replace H:(some t451)=some r:=H
                 have A167:=Zk A1670
                 clear A1670
                 obtain rfl:=Option.some.inj H
                 have hnb168:=NB410_424.out
                 have hnc168:=NB424_410.out
                 have hcz169_0:wr.cell? ⟨gb410,0,none⟩=some (.int .i64 a1_0):=(zJ BK410.out 0).trans rfl
                 have hcz169_1:wr.cell? ⟨gb410,1,none⟩=some (.int .i64 a1_1):=(zJ BK410.out 1).trans rfl
                 have hcz169_2:wr.cell? ⟨gb410,2,none⟩=some (.bool a1_2):=(zJ BK410.out 2).trans rfl
                 have hfz169_0:=zI BK410.out 0
                 have hfz169_1:=zI BK410.out 1
                 have hfz169_2:=zI BK410.out 2
                 go_wp2_with (first|((with_reducible refine zW (f:=26) rfl ?_);refine yF (some 96) rfl rfl Try.func26 (by kernel_rfl) rfl #[.slice Ao19 t414.length co19,.int .i64 a1_0] rfl (by (try simp only [List.map_toArray,List.map_cons,List.map_nil]);first|done|rfl|(simp only [List.length_drop,List.length_take];rfl)) ?_;(with_reducible refine (fdtab_Drop.calls (fun k_=>(k_≠gb410∧k_≠gb424)) _ _ t414 a1_0 t436 t439 _ ?side1 A95.out).mono ?_);(case side1=>exact HO_5.out);rintro e w170 ⟨v437,rfl,ho0,hb⟩;refine ⟨_,rfl,?_⟩;have n0_:=Zk (zT (by (with_reducible repeat (first|apply zN|apply zO|apply zQ));exact HO_5.out) hb);have n1_:=Zk (V_lower (zU (ok':=fun k_=>k_≠gb410∧k_≠gb424) ho0 (fun k_ hk_=>⟨Or.elim hk_ (fun hs_=>hs_.1) (fun hn_=>(Kd.freshB (g:=gb410) (o:=.cells #[.int .i64 a1_0,.int .i64 a1_1,.bool a1_2] 36 (0,0)) (by (with_reducible repeat (first|refine zB ?_ _|refine zD ?_|refine zA ?_ _));exact BK410.out) k_ hn_)),Or.elim hk_ (fun hs_=>hs_.2) (fun hn_=>(Kd.freshB (g:=gb424) (o:=.cells #[.int .i64 t420,.int .i64 t421,.bool t422] 36 (0,0)) (by (with_reducible repeat (first|refine zB ?_ _|refine zD ?_|refine zA ?_ _));exact BK424.out) k_ hn_))⟩)) (zM (by repeat (first|(with_reducible first|exact HB.out|apply zG|apply zC|apply zH|refine zF ?_ GE410.out|refine zF ?_ GE424.out)|exact HB.out))));have n2_:=Zk (zK (g:=gb410) (o:=.cells #[.int .i64 a1_0,.int .i64 a1_1,.bool a1_2] 36 (0,0)) (by (with_reducible repeat (first|refine zB ?_ _|refine zD ?_|refine zA ?_ _));exact BK410.out) hb);have n3_:=Zk (zK (g:=gb424) (o:=.cells #[.int .i64 t420,.int .i64 t421,.bool t422] 36 (0,0)) (by (with_reducible repeat (first|refine zB ?_ _|refine zD ?_|refine zA ?_ _));exact BK424.out) hb);have n4_:=Zk (zL (by repeat (first|(with_reducible first|exact HB.out|apply zG|apply zC|apply zH|refine zF ?_ GE410.out|refine zF ?_ GE424.out)|exact HB.out)) hb);clear HO_5;clear BK410;clear BK424;clear HB;have HO_5:=n0_;have HO438:=n1_;have BK410:=n2_;have BK424:=n3_;have HB:=n4_;clear n0_ n1_ n2_ n3_ n4_;(try clear hb);(try clear hb2);(try clear hk);(try clear hi);(try clear ho0);have hcz171_0:w170.cell? ⟨gb410,0,none⟩=some (.int .i64 a1_0):=(zJ BK410.out 0).trans rfl;have hcz171_1:w170.cell? ⟨gb410,1,none⟩=some (.int .i64 a1_1):=(zJ BK410.out 1).trans rfl;have hcz171_2:w170.cell? ⟨gb410,2,none⟩=some (.bool a1_2):=(zJ BK410.out 2).trans rfl;have hfz171_0:=zI BK410.out 0;have hfz171_1:=zI BK410.out 1;have hfz171_2:=zI BK410.out 2)|((with_reducible refine zW (f:=14) rfl ?_);refine yF (some 103) rfl rfl Try.func14 (by kernel_rfl) rfl #[.slice A0 l0.length c0,.int .i64 a1_0] rfl (by (try simp only [List.map_toArray,List.map_cons,List.map_nil]);first|done|rfl|(simp only [List.length_drop,List.length_take];rfl)) ?_;(with_reducible refine (fdtab_Get.calls _ _ l0 a1_0 t440 t441 t442 false _ ?side1 ?side2 A96.out).mono ?_);(case side1=>repeat (first|exact (C_below HR0.out HB.out)|(with_reducible refine yC ?_ _)|(with_reducible refine yD ?_ _)|(with_reducible refine C_drew ?_)));(case side2=>exact HC0.out);rintro e w172 ⟨rfl,hb⟩;refine ⟨_,rfl,?_⟩;have n0_:=Zk (zT (by (with_reducible repeat (first|apply zN|apply zO|apply zQ));exact HO_5.out) hb);have n1_:=Zk (zT (by (with_reducible repeat (first|apply zN|apply zO|apply zQ));exact HO438.out) hb);have n2_:=Zk (zK (g:=gb410) (o:=.cells #[.int .i64 a1_0,.int .i64 a1_1,.bool a1_2] 36 (0,0)) (by (with_reducible repeat (first|refine zB ?_ _|refine zD ?_|refine zA ?_ _));exact BK410.out) hb);have n3_:=Zk (zK (g:=gb424) (o:=.cells #[.int .i64 t420,.int .i64 t421,.bool t422] 36 (0,0)) (by (with_reducible repeat (first|refine zB ?_ _|refine zD ?_|refine zA ?_ _));exact BK424.out) hb);have n4_:=Zk (zL (by repeat (first|(with_reducible first|exact HB.out|apply zG|apply zC|apply zH|refine zF ?_ GE410.out|refine zF ?_ GE424.out)|exact HB.out)) hb);clear HO_5;clear HO438;clear BK410;clear BK424;clear HB;have HO_5:=n0_;have HO438:=n1_;have BK410:=n2_;have BK424:=n3_;have HB:=n4_;clear n0_ n1_ n2_ n3_ n4_;(try clear hb);(try clear hb2);(try clear hk);(try clear hi))|((with_reducible refine yE (N:=16) rfl ?_);refine yG ?hg (N:=16) ?hd (cs:=#[.int .i64 0,.int .i64 0,.bool false]) (t:=36) ?hr ?_;(case hd=>rfl);(case hg=>rfl);(case hr=>first|(go_simp;done)|(go_simp;rfl));intro gb444 hg w173 hbox hb;have n0_:=Zk (zT (V_elderB (by (with_reducible repeat (first|apply zN|apply zO|apply zQ));exact HO_5.out) gb444 (Nat.le_of_eq hg.symm)) hb);have n1_:=Zk (zT (V_elderB (by (with_reducible repeat (first|apply zN|apply zO|apply zQ));exact HO438.out) gb444 (Nat.le_of_eq hg.symm)) hb);have n2_:=Zk (zK (g:=gb410) (o:=.cells #[.int .i64 a1_0,.int .i64 a1_1,.bool a1_2] 36 (0,0)) (by (with_reducible repeat (first|refine zB ?_ _|refine zD ?_|refine zA ?_ _));exact BK410.out) hb);have n3_:=Zk (zK (g:=gb424) (o:=.cells #[.int .i64 t420,.int .i64 t421,.bool t422] 36 (0,0)) (by (with_reducible repeat (first|refine zB ?_ _|refine zD ?_|refine zA ?_ _));exact BK424.out) hb);have n4_:=Zk (zL (by repeat (first|(with_reducible first|exact HB.out|apply zG|apply zC|apply zH|refine zF ?_ GE410.out|refine zF ?_ GE424.out)|exact HB.out)) hb);have n5_:=Zk (hbox);have n6_:=Zk ((by rw [hg];exact (zM (by repeat (first|(with_reducible first|exact HB.out|apply zG|apply zC|apply zH|refine zF ?_ GE410.out|refine zF ?_ GE424.out)|exact HB.out))):w.heap.size≤gb444));have n7_:=Zk ((by rw [hg];exact (zM (by repeat (first|(with_reducible first|exact HB.out|apply zG|apply zC|apply zH|refine zF ?_ GE410.out|refine zF ?_ GE424.out)|exact HB.out))):w.heap.size≤gb444));have n8_:=Zk ((by rw [hg];exact Nat.ne_of_lt (zX (g:=gb410) (o:=.cells #[.int .i64 a1_0,.int .i64 a1_1,.bool a1_2] 36 (0,0)) (by (with_reducible repeat (first|refine zB ?_ _|refine zD ?_|refine zA ?_ _));exact BK410.out)):gb410≠gb444));have n9_:=Zk ((by rw [hg];exact Nat.ne_of_gt (zX (g:=gb410) (o:=.cells #[.int .i64 a1_0,.int .i64 a1_1,.bool a1_2] 36 (0,0)) (by (with_reducible repeat (first|refine zB ?_ _|refine zD ?_|refine zA ?_ _));exact BK410.out)):gb444≠gb410));have n10_:=Zk ((by rw [hg];exact Nat.ne_of_lt (zX (g:=gb424) (o:=.cells #[.int .i64 t420,.int .i64 t421,.bool t422] 36 (0,0)) (by (with_reducible repeat (first|refine zB ?_ _|refine zD ?_|refine zA ?_ _));exact BK424.out)):gb424≠gb444));have n11_:=Zk ((by rw [hg];exact Nat.ne_of_gt (zX (g:=gb424) (o:=.cells #[.int .i64 t420,.int .i64 t421,.bool t422] 36 (0,0)) (by (with_reducible repeat (first|refine zB ?_ _|refine zD ?_|refine zA ?_ _));exact BK424.out)):gb444≠gb424));clear HO_5;clear HO438;clear BK410;clear BK424;clear HB;have HO_5:=n0_;have HO438:=n1_;have BK410:=n2_;have BK424:=n3_;have HB:=n4_;have BK444:=n5_;have GW444:=n6_;have GE444:=n7_;have NB410_444:=n8_;have NB444_410:=n9_;have NB424_444:=n10_;have NB444_424:=n11_;clear n0_ n1_ n2_ n3_ n4_ n5_ n6_ n7_ n8_ n9_ n10_ n11_;clear hb hbox hg;have hnb174:=NB444_410.out;have hnc174:=NB410_444.out;have hnb175:=NB444_424.out;have hnc175:=NB424_444.out;have hcz176_0:w173.cell? ⟨gb444,0,none⟩=some (.int .i64 0):=(zJ BK444.out 0).trans rfl;have hcz176_1:w173.cell? ⟨gb444,1,none⟩=some (.int .i64 0):=(zJ BK444.out 1).trans rfl;have hcz176_2:w173.cell? ⟨gb444,2,none⟩=some (.bool false):=(zJ BK444.out 2).trans rfl;have hfz176_0:=zI BK444.out 0;have hfz176_1:=zI BK444.out 1;have hfz176_2:=zI BK444.out 2;have hcz177_0:w173.cell? ⟨gb410,0,none⟩=some (.int .i64 a1_0):=(zJ BK410.out 0).trans rfl;have hcz177_1:w173.cell? ⟨gb410,1,none⟩=some (.int .i64 a1_1):=(zJ BK410.out 1).trans rfl;have hcz177_2:w173.cell? ⟨gb410,2,none⟩=some (.bool a1_2):=(zJ BK410.out 2).trans rfl;have hfz177_0:=zI BK410.out 0;have hfz177_1:=zI BK410.out 1;have hfz177_2:=zI BK410.out 2)|((with_reducible refine zW (f:=16) rfl ?_);refine yF (some 110) rfl rfl Try.func16 (by kernel_rfl) rfl #[.slice A0 l0.length c0,.int .i64 a1_0] rfl (by (try simp only [List.map_toArray,List.map_cons,List.map_nil]);first|done|rfl|(simp only [List.length_drop,List.length_take];rfl)) ?_;(with_reducible refine (fdtab_Free.calls k3 _ _ l0 a1_0 t445 true _ ?side1 ?side2 A97.out).mono ?_);(case side1=>exact C_below HR0.out (by repeat (first|(with_reducible first|exact HB.out|apply zG|apply zC|apply zH|refine zF ?_ GE410.out|refine zF ?_ GE424.out|refine zF ?_ GE444.out)|exact HB.out)));(case side2=>exact HC0.out);rintro e w178 ⟨rfl,hb⟩;refine ⟨_,rfl,?_⟩;have n0_:=Zk (zT (by (with_reducible repeat (first|apply zN|apply zO|apply zQ));exact (zU (zV (p:=⟨gb444,2,none⟩) (zV (p:=⟨gb444,1,none⟩) (zV (p:=⟨gb444,0,none⟩) (zU HO_5.out (fun k_ hk=>(⟨hk,hk.2⟩:_∧k_≠gb444))) (fun _ hk=>hk.2) (.int .i64 t440)) (fun _ hk=>hk.2) (.int .i64 t441)) (fun _ hk=>hk.2) (.bool t442)) (fun _ h_=>h_.1))) hb);have n1_:=Zk (zT (by (with_reducible repeat (first|apply zN|apply zO|apply zQ));exact (zU (zV (p:=⟨gb444,2,none⟩) (zV (p:=⟨gb444,1,none⟩) (zV (p:=⟨gb444,0,none⟩) (zU HO438.out (fun k_ hk=>(⟨hk,hk.2⟩:_∧k_≠gb444))) (fun _ hk=>hk.2) (.int .i64 t440)) (fun _ hk=>hk.2) (.int .i64 t441)) (fun _ hk=>hk.2) (.bool t442)) (fun _ h_=>h_.1))) hb);have n2_:=Zk (zK (g:=gb410) (o:=.cells #[.int .i64 a1_0,.int .i64 a1_1,.bool a1_2] 36 (0,0)) (by (with_reducible repeat (first|refine zB ?_ _|refine zD ?_|refine zA ?_ _));refine zP ?_ NB410_444.out _;(with_reducible repeat (first|refine zB ?_ _|refine zD ?_|refine zA ?_ _));refine zP ?_ NB410_444.out _;(with_reducible repeat (first|refine zB ?_ _|refine zD ?_|refine zA ?_ _));refine zP ?_ NB410_444.out _;(with_reducible repeat (first|refine zB ?_ _|refine zD ?_|refine zA ?_ _));exact BK410.out) hb);have n3_:=Zk (zK (g:=gb424) (o:=.cells #[.int .i64 t420,.int .i64 t421,.bool t422] 36 (0,0)) (by (with_reducible repeat (first|refine zB ?_ _|refine zD ?_|refine zA ?_ _));refine zP ?_ NB424_444.out _;(with_reducible repeat (first|refine zB ?_ _|refine zD ?_|refine zA ?_ _));refine zP ?_ NB424_444.out _;(with_reducible repeat (first|refine zB ?_ _|refine zD ?_|refine zA ?_ _));refine zP ?_ NB424_444.out _;(with_reducible repeat (first|refine zB ?_ _|refine zD ?_|refine zA ?_ _));exact BK424.out) hb);have n4_:=Zk (zK (g:=gb444) (o:=.cells #[.int .i64 t440,.int .i64 t441,.bool t442] 36 (0,0)) (by (with_reducible repeat (first|refine zB ?_ _|refine zD ?_|refine zA ?_ _));refine zS (cs:=#[.int .i64 t440,.int .i64 t441,.bool false]) ?_ 2 _ rfl;(with_reducible repeat (first|refine zB ?_ _|refine zD ?_|refine zA ?_ _));refine zS (cs:=#[.int .i64 t440,.int .i64 0,.bool false]) ?_ 1 _ rfl;(with_reducible repeat (first|refine zB ?_ _|refine zD ?_|refine zA ?_ _));refine zS (cs:=#[.int .i64 0,.int .i64 0,.bool false]) ?_ 0 _ rfl;(with_reducible repeat (first|refine zB ?_ _|refine zD ?_|refine zA ?_ _));exact BK444.out) hb);have n5_:=Zk (zL (by repeat (first|(with_reducible first|exact HB.out|apply zG|apply zC|apply zH|refine zF ?_ GE410.out|refine zF ?_ GE424.out|refine zF ?_ GE444.out)|exact HB.out)) hb);clear HO_5;clear HO438;clear BK410;clear BK424;clear BK444;clear HB;have HO_5:=n0_;have HO438:=n1_;have BK410:=n2_;have BK424:=n3_;have BK444:=n4_;have HB:=n5_;clear n0_ n1_ n2_ n3_ n4_ n5_;(try clear hb);(try clear hb2);(try clear hk);(try clear hi);obtain ⟨Ao179,co179,eo179⟩:=V_slice HO438.out;subst eo179)|(go_at_call 18;(with_reducible refine (fdtab_Valid.calls k3 _ _ t436 t447 _ ?side1 ?side2 A99.out).mono ?_);(case side1=>repeat (first|exact (zY HO438.out).2.2|(with_reducible refine yC ?_ _)|(with_reducible refine yD ?_ _)|(with_reducible refine C_drew ?_)));(case side2=>exact (zY HO438.out).2.1);rintro e w180 ⟨rfl,hb⟩;have n0_:=Zk (zT (by (with_reducible repeat (first|apply zN|apply zO|apply zQ));exact HO_5.out) hb);have n1_:=Zk (zT (by (with_reducible repeat (first|apply zN|apply zO|apply zQ));exact HO438.out) hb);have n2_:=Zk (zK (g:=gb410) (o:=.cells #[.int .i64 a1_0,.int .i64 a1_1,.bool a1_2] 36 (0,0)) (by (with_reducible repeat (first|refine zB ?_ _|refine zD ?_|refine zA ?_ _));exact BK410.out) hb);have n3_:=Zk (zK (g:=gb424) (o:=.cells #[.int .i64 t420,.int .i64 t421,.bool t422] 36 (0,0)) (by (with_reducible repeat (first|refine zB ?_ _|refine zD ?_|refine zA ?_ _));exact BK424.out) hb);have n4_:=Zk (zK (g:=gb444) (o:=.cells #[.int .i64 t440,.int .i64 t441,.bool t442] 36 (0,0)) (by (with_reducible repeat (first|refine zB ?_ _|refine zD ?_|refine zA ?_ _));exact BK444.out) hb);have n5_:=Zk (zL (by repeat (first|(with_reducible first|exact HB.out|apply zG|apply zC|apply zH|refine zF ?_ GE410.out|refine zF ?_ GE424.out|refine zF ?_ GE444.out)|exact HB.out)) hb);clear HO_5;clear HO438;clear BK410;clear BK424;clear BK444;clear HB;have HO_5:=n0_;have HO438:=n1_;have BK410:=n2_;have BK424:=n3_;have BK444:=n4_;have HB:=n5_;clear n0_ n1_ n2_ n3_ n4_ n5_;(try clear hb);(try clear hb2);(try clear hk);(try clear hi))|(go_at_call 30;(with_reducible refine (jobshellref23_Same.calls k3 _ _ t436 _ _ l0 true _ ?side1 ?side2 ?side3 ?side4 A163.out).mono ?_);(case side1=>repeat (first|exact (zY HO438.out).2.2|(with_reducible refine yC ?_ _)|(with_reducible refine yD ?_ _)|(with_reducible refine C_drew ?_)));(case side2=>exact (zY HO438.out).2.1);(case side3=>repeat (first|exact (C_below HR0.out HB.out)|(with_reducible refine yC ?_ _)|(with_reducible refine yD ?_ _)|(with_reducible refine C_drew ?_)));(case side4=>exact HC0.out);rintro e w' ⟨rfl,⟨nd,rfl⟩⟩;have hcz181_0:w180.cell? ⟨gb410,0,none⟩=some (.int .i64 a1_0):=(zJ BK410.out 0).trans rfl;have hcz181_1:w180.cell? ⟨gb410,1,none⟩=some (.int .i64 a1_1):=(zJ BK410.out 1).trans rfl;have hcz181_2:w180.cell? ⟨gb410,2,none⟩=some (.bool a1_2):=(zJ BK410.out 2).trans rfl;have hfz181_0:=zI BK410.out 0;have hfz181_1:=zI BK410.out 1;have hfz181_2:=zI BK410.out 2)|(go_at_call 10;(with_reducible refine (jobshelllaw23_awake.calls k3  t451 _ A167.out).mono ?_);rintro e w182 ⟨rfl,hb⟩;have n0_:=Zk (zT (by (with_reducible repeat (first|apply zN|apply zO|apply zQ));exact HO_5.out) hb);have n1_:=Zk (zT (by (with_reducible repeat (first|apply zN|apply zO|apply zQ));exact HO438.out) hb);have n2_:=Zk (zK (g:=gb410) (o:=.cells #[.int .i64 a1_0,.int .i64 a1_1,.bool a1_2] 36 (0,0)) (by (with_reducible repeat (first|refine zB ?_ _|refine zD ?_|refine zA ?_ _));exact BK410.out) hb);have n3_:=Zk (zK (g:=gb424) (o:=.cells #[.int .i64 t420,.int .i64 t421,.bool t422] 36 (0,0)) (by (with_reducible repeat (first|refine zB ?_ _|refine zD ?_|refine zA ?_ _));exact BK424.out) hb);have n4_:=Zk (zK (g:=gb444) (o:=.cells #[.int .i64 t440,.int .i64 t441,.bool t442] 36 (0,0)) (by (with_reducible repeat (first|refine zB ?_ _|refine zD ?_|refine zA ?_ _));exact BK444.out) hb);have n5_:=Zk (zL (by repeat (first|(with_reducible first|exact HB.out|apply zG|apply zC|apply zH|refine zF ?_ GE410.out|refine zF ?_ GE424.out|refine zF ?_ GE444.out)|exact HB.out)) hb);clear HO_5;clear HO438;clear BK410;clear BK424;clear BK444;clear HB;have HO_5:=n0_;have HO438:=n1_;have BK410:=n2_;have BK424:=n3_;have BK444:=n4_;have HB:=n5_;clear n0_ n1_ n2_ n3_ n4_ n5_;(try clear hb);(try clear hb2);(try clear hk);(try clear hi)))
                 go_ret
                 exact ⟨by first|rfl|(simp [errW_none,errW_some] <;> rfl)|(simp [*,errW_none,errW_some] <;> rfl),by repeat (first|(with_reducible first|exact HB.out|apply zG|apply zC|apply zH|refine zF ?_ GE410.out|refine zF ?_ GE424.out|refine zF ?_ GE444.out)|exact HB.out)⟩
                ·rw [if_neg c166] at H
                 have c166b0:((t445 == a1_0) == (!false))=false:=by simpa using c166
                 have c166q:(t445 == a1_0)=false:=by simpa using c166b0
                 (try (have c166b1:decide ((t445 == a1_0)=(!false))=false:=by simpa using c166))
                 (try (have c166b2:((t445 == a1_0) == (!false))=false:=by simpa using c166))
                 (try (have c166b3:¬ ((t445 == a1_0)=(!false)):=by simpa using c166))
                 clear c166
                 obtain rfl:=Option.some.inj H
                 have hnb183:=NB410_424.out
                 have hnc183:=NB424_410.out
                 have hcz184_0:wr.cell? ⟨gb410,0,none⟩=some (.int .i64 a1_0):=(zJ BK410.out 0).trans rfl
                 have hcz184_1:wr.cell? ⟨gb410,1,none⟩=some (.int .i64 a1_1):=(zJ BK410.out 1).trans rfl
                 have hcz184_2:wr.cell? ⟨gb410,2,none⟩=some (.bool a1_2):=(zJ BK410.out 2).trans rfl
                 have hfz184_0:=zI BK410.out 0
                 have hfz184_1:=zI BK410.out 1
                 have hfz184_2:=zI BK410.out 2
                 go_wp2_with (first|((with_reducible refine zW (f:=26) rfl ?_);refine yF (some 96) rfl rfl Try.func26 (by kernel_rfl) rfl #[.slice Ao19 t414.length co19,.int .i64 a1_0] rfl (by (try simp only [List.map_toArray,List.map_cons,List.map_nil]);first|done|rfl|(simp only [List.length_drop,List.length_take];rfl)) ?_;(with_reducible refine (fdtab_Drop.calls (fun k_=>(k_≠gb410∧k_≠gb424)) _ _ t414 a1_0 t436 t439 _ ?side1 A95.out).mono ?_);(case side1=>exact HO_5.out);rintro e w185 ⟨v437,rfl,ho0,hb⟩;refine ⟨_,rfl,?_⟩;have n0_:=Zk (zT (by (with_reducible repeat (first|apply zN|apply zO|apply zQ));exact HO_5.out) hb);have n1_:=Zk (V_lower (zU (ok':=fun k_=>k_≠gb410∧k_≠gb424) ho0 (fun k_ hk_=>⟨Or.elim hk_ (fun hs_=>hs_.1) (fun hn_=>(Kd.freshB (g:=gb410) (o:=.cells #[.int .i64 a1_0,.int .i64 a1_1,.bool a1_2] 36 (0,0)) (by (with_reducible repeat (first|refine zB ?_ _|refine zD ?_|refine zA ?_ _));exact BK410.out) k_ hn_)),Or.elim hk_ (fun hs_=>hs_.2) (fun hn_=>(Kd.freshB (g:=gb424) (o:=.cells #[.int .i64 t420,.int .i64 t421,.bool t422] 36 (0,0)) (by (with_reducible repeat (first|refine zB ?_ _|refine zD ?_|refine zA ?_ _));exact BK424.out) k_ hn_))⟩)) (zM (by repeat (first|(with_reducible first|exact HB.out|apply zG|apply zC|apply zH|refine zF ?_ GE410.out|refine zF ?_ GE424.out)|exact HB.out))));have n2_:=Zk (zK (g:=gb410) (o:=.cells #[.int .i64 a1_0,.int .i64 a1_1,.bool a1_2] 36 (0,0)) (by (with_reducible repeat (first|refine zB ?_ _|refine zD ?_|refine zA ?_ _));exact BK410.out) hb);have n3_:=Zk (zK (g:=gb424) (o:=.cells #[.int .i64 t420,.int .i64 t421,.bool t422] 36 (0,0)) (by (with_reducible repeat (first|refine zB ?_ _|refine zD ?_|refine zA ?_ _));exact BK424.out) hb);have n4_:=Zk (zL (by repeat (first|(with_reducible first|exact HB.out|apply zG|apply zC|apply zH|refine zF ?_ GE410.out|refine zF ?_ GE424.out)|exact HB.out)) hb);clear HO_5;clear BK410;clear BK424;clear HB;have HO_5:=n0_;have HO438:=n1_;have BK410:=n2_;have BK424:=n3_;have HB:=n4_;clear n0_ n1_ n2_ n3_ n4_;(try clear hb);(try clear hb2);(try clear hk);(try clear hi);(try clear ho0);have hcz186_0:w185.cell? ⟨gb410,0,none⟩=some (.int .i64 a1_0):=(zJ BK410.out 0).trans rfl;have hcz186_1:w185.cell? ⟨gb410,1,none⟩=some (.int .i64 a1_1):=(zJ BK410.out 1).trans rfl;have hcz186_2:w185.cell? ⟨gb410,2,none⟩=some (.bool a1_2):=(zJ BK410.out 2).trans rfl;have hfz186_0:=zI BK410.out 0;have hfz186_1:=zI BK410.out 1;have hfz186_2:=zI BK410.out 2)|((with_reducible refine zW (f:=14) rfl ?_);refine yF (some 103) rfl rfl Try.func14 (by kernel_rfl) rfl #[.slice A0 l0.length c0,.int .i64 a1_0] rfl (by (try simp only [List.map_toArray,List.map_cons,List.map_nil]);first|done|rfl|(simp only [List.length_drop,List.length_take];rfl)) ?_;(with_reducible refine (fdtab_Get.calls _ _ l0 a1_0 t440 t441 t442 false _ ?side1 ?side2 A96.out).mono ?_);(case side1=>repeat (first|exact (C_below HR0.out HB.out)|(with_reducible refine yC ?_ _)|(with_reducible refine yD ?_ _)|(with_reducible refine C_drew ?_)));(case side2=>exact HC0.out);rintro e w187 ⟨rfl,hb⟩;refine ⟨_,rfl,?_⟩;have n0_:=Zk (zT (by (with_reducible repeat (first|apply zN|apply zO|apply zQ));exact HO_5.out) hb);have n1_:=Zk (zT (by (with_reducible repeat (first|apply zN|apply zO|apply zQ));exact HO438.out) hb);have n2_:=Zk (zK (g:=gb410) (o:=.cells #[.int .i64 a1_0,.int .i64 a1_1,.bool a1_2] 36 (0,0)) (by (with_reducible repeat (first|refine zB ?_ _|refine zD ?_|refine zA ?_ _));exact BK410.out) hb);have n3_:=Zk (zK (g:=gb424) (o:=.cells #[.int .i64 t420,.int .i64 t421,.bool t422] 36 (0,0)) (by (with_reducible repeat (first|refine zB ?_ _|refine zD ?_|refine zA ?_ _));exact BK424.out) hb);have n4_:=Zk (zL (by repeat (first|(with_reducible first|exact HB.out|apply zG|apply zC|apply zH|refine zF ?_ GE410.out|refine zF ?_ GE424.out)|exact HB.out)) hb);clear HO_5;clear HO438;clear BK410;clear BK424;clear HB;have HO_5:=n0_;have HO438:=n1_;have BK410:=n2_;have BK424:=n3_;have HB:=n4_;clear n0_ n1_ n2_ n3_ n4_;(try clear hb);(try clear hb2);(try clear hk);(try clear hi))|((with_reducible refine yE (N:=16) rfl ?_);refine yG ?hg (N:=16) ?hd (cs:=#[.int .i64 0,.int .i64 0,.bool false]) (t:=36) ?hr ?_;(case hd=>rfl);(case hg=>rfl);(case hr=>first|(go_simp;done)|(go_simp;rfl));intro gb444 hg w188 hbox hb;have n0_:=Zk (zT (V_elderB (by (with_reducible repeat (first|apply zN|apply zO|apply zQ));exact HO_5.out) gb444 (Nat.le_of_eq hg.symm)) hb);have n1_:=Zk (zT (V_elderB (by (with_reducible repeat (first|apply zN|apply zO|apply zQ));exact HO438.out) gb444 (Nat.le_of_eq hg.symm)) hb);have n2_:=Zk (zK (g:=gb410) (o:=.cells #[.int .i64 a1_0,.int .i64 a1_1,.bool a1_2] 36 (0,0)) (by (with_reducible repeat (first|refine zB ?_ _|refine zD ?_|refine zA ?_ _));exact BK410.out) hb);have n3_:=Zk (zK (g:=gb424) (o:=.cells #[.int .i64 t420,.int .i64 t421,.bool t422] 36 (0,0)) (by (with_reducible repeat (first|refine zB ?_ _|refine zD ?_|refine zA ?_ _));exact BK424.out) hb);have n4_:=Zk (zL (by repeat (first|(with_reducible first|exact HB.out|apply zG|apply zC|apply zH|refine zF ?_ GE410.out|refine zF ?_ GE424.out)|exact HB.out)) hb);have n5_:=Zk (hbox);have n6_:=Zk ((by rw [hg];exact (zM (by repeat (first|(with_reducible first|exact HB.out|apply zG|apply zC|apply zH|refine zF ?_ GE410.out|refine zF ?_ GE424.out)|exact HB.out))):w.heap.size≤gb444));have n7_:=Zk ((by rw [hg];exact (zM (by repeat (first|(with_reducible first|exact HB.out|apply zG|apply zC|apply zH|refine zF ?_ GE410.out|refine zF ?_ GE424.out)|exact HB.out))):w.heap.size≤gb444));have n8_:=Zk ((by rw [hg];exact Nat.ne_of_lt (zX (g:=gb410) (o:=.cells #[.int .i64 a1_0,.int .i64 a1_1,.bool a1_2] 36 (0,0)) (by (with_reducible repeat (first|refine zB ?_ _|refine zD ?_|refine zA ?_ _));exact BK410.out)):gb410≠gb444));have n9_:=Zk ((by rw [hg];exact Nat.ne_of_gt (zX (g:=gb410) (o:=.cells #[.int .i64 a1_0,.int .i64 a1_1,.bool a1_2] 36 (0,0)) (by (with_reducible repeat (first|refine zB ?_ _|refine zD ?_|refine zA ?_ _));exact BK410.out)):gb444≠gb410));have n10_:=Zk ((by rw [hg];exact Nat.ne_of_lt (zX (g:=gb424) (o:=.cells #[.int .i64 t420,.int .i64 t421,.bool t422] 36 (0,0)) (by (with_reducible repeat (first|refine zB ?_ _|refine zD ?_|refine zA ?_ _));exact BK424.out)):gb424≠gb444));have n11_:=Zk ((by rw [hg];exact Nat.ne_of_gt (zX (g:=gb424) (o:=.cells #[.int .i64 t420,.int .i64 t421,.bool t422] 36 (0,0)) (by (with_reducible repeat (first|refine zB ?_ _|refine zD ?_|refine zA ?_ _));exact BK424.out)):gb444≠gb424));clear HO_5;clear HO438;clear BK410;clear BK424;clear HB;have HO_5:=n0_;have HO438:=n1_;have BK410:=n2_;have BK424:=n3_;have HB:=n4_;have BK444:=n5_;have GW444:=n6_;have GE444:=n7_;have NB410_444:=n8_;have NB444_410:=n9_;have NB424_444:=n10_;have NB444_424:=n11_;clear n0_ n1_ n2_ n3_ n4_ n5_ n6_ n7_ n8_ n9_ n10_ n11_;clear hb hbox hg;have hnb189:=NB444_410.out;have hnc189:=NB410_444.out;have hnb190:=NB444_424.out;have hnc190:=NB424_444.out;have hcz191_0:w188.cell? ⟨gb444,0,none⟩=some (.int .i64 0):=(zJ BK444.out 0).trans rfl;have hcz191_1:w188.cell? ⟨gb444,1,none⟩=some (.int .i64 0):=(zJ BK444.out 1).trans rfl;have hcz191_2:w188.cell? ⟨gb444,2,none⟩=some (.bool false):=(zJ BK444.out 2).trans rfl;have hfz191_0:=zI BK444.out 0;have hfz191_1:=zI BK444.out 1;have hfz191_2:=zI BK444.out 2;have hcz192_0:w188.cell? ⟨gb410,0,none⟩=some (.int .i64 a1_0):=(zJ BK410.out 0).trans rfl;have hcz192_1:w188.cell? ⟨gb410,1,none⟩=some (.int .i64 a1_1):=(zJ BK410.out 1).trans rfl;have hcz192_2:w188.cell? ⟨gb410,2,none⟩=some (.bool a1_2):=(zJ BK410.out 2).trans rfl;have hfz192_0:=zI BK410.out 0;have hfz192_1:=zI BK410.out 1;have hfz192_2:=zI BK410.out 2)|((with_reducible refine zW (f:=16) rfl ?_);refine yF (some 110) rfl rfl Try.func16 (by kernel_rfl) rfl #[.slice A0 l0.length c0,.int .i64 a1_0] rfl (by (try simp only [List.map_toArray,List.map_cons,List.map_nil]);first|done|rfl|(simp only [List.length_drop,List.length_take];rfl)) ?_;(with_reducible refine (fdtab_Free.calls k3 _ _ l0 a1_0 t445 true _ ?side1 ?side2 A97.out).mono ?_);(case side1=>exact C_below HR0.out (by repeat (first|(with_reducible first|exact HB.out|apply zG|apply zC|apply zH|refine zF ?_ GE410.out|refine zF ?_ GE424.out|refine zF ?_ GE444.out)|exact HB.out)));(case side2=>exact HC0.out);rintro e w193 ⟨rfl,hb⟩;refine ⟨_,rfl,?_⟩;have n0_:=Zk (zT (by (with_reducible repeat (first|apply zN|apply zO|apply zQ));exact (zU (zV (p:=⟨gb444,2,none⟩) (zV (p:=⟨gb444,1,none⟩) (zV (p:=⟨gb444,0,none⟩) (zU HO_5.out (fun k_ hk=>(⟨hk,hk.2⟩:_∧k_≠gb444))) (fun _ hk=>hk.2) (.int .i64 t440)) (fun _ hk=>hk.2) (.int .i64 t441)) (fun _ hk=>hk.2) (.bool t442)) (fun _ h_=>h_.1))) hb);have n1_:=Zk (zT (by (with_reducible repeat (first|apply zN|apply zO|apply zQ));exact (zU (zV (p:=⟨gb444,2,none⟩) (zV (p:=⟨gb444,1,none⟩) (zV (p:=⟨gb444,0,none⟩) (zU HO438.out (fun k_ hk=>(⟨hk,hk.2⟩:_∧k_≠gb444))) (fun _ hk=>hk.2) (.int .i64 t440)) (fun _ hk=>hk.2) (.int .i64 t441)) (fun _ hk=>hk.2) (.bool t442)) (fun _ h_=>h_.1))) hb);have n2_:=Zk (zK (g:=gb410) (o:=.cells #[.int .i64 a1_0,.int .i64 a1_1,.bool a1_2] 36 (0,0)) (by (with_reducible repeat (first|refine zB ?_ _|refine zD ?_|refine zA ?_ _));refine zP ?_ NB410_444.out _;(with_reducible repeat (first|refine zB ?_ _|refine zD ?_|refine zA ?_ _));refine zP ?_ NB410_444.out _;(with_reducible repeat (first|refine zB ?_ _|refine zD ?_|refine zA ?_ _));refine zP ?_ NB410_444.out _;(with_reducible repeat (first|refine zB ?_ _|refine zD ?_|refine zA ?_ _));exact BK410.out) hb);have n3_:=Zk (zK (g:=gb424) (o:=.cells #[.int .i64 t420,.int .i64 t421,.bool t422] 36 (0,0)) (by (with_reducible repeat (first|refine zB ?_ _|refine zD ?_|refine zA ?_ _));refine zP ?_ NB424_444.out _;(with_reducible repeat (first|refine zB ?_ _|refine zD ?_|refine zA ?_ _));refine zP ?_ NB424_444.out _;(with_reducible repeat (first|refine zB ?_ _|refine zD ?_|refine zA ?_ _));refine zP ?_ NB424_444.out _;(with_reducible repeat (first|refine zB ?_ _|refine zD ?_|refine zA ?_ _));exact BK424.out) hb);have n4_:=Zk (zK (g:=gb444) (o:=.cells #[.int .i64 t440,.int .i64 t441,.bool t442] 36 (0,0)) (by (with_reducible repeat (first|refine zB ?_ _|refine zD ?_|refine zA ?_ _));refine zS (cs:=#[.int .i64 t440,.int .i64 t441,.bool false]) ?_ 2 _ rfl;(with_reducible repeat (first|refine zB ?_ _|refine zD ?_|refine zA ?_ _));refine zS (cs:=#[.int .i64 t440,.int .i64 0,.bool false]) ?_ 1 _ rfl;(with_reducible repeat (first|refine zB ?_ _|refine zD ?_|refine zA ?_ _));refine zS (cs:=#[.int .i64 0,.int .i64 0,.bool false]) ?_ 0 _ rfl;(with_reducible repeat (first|refine zB ?_ _|refine zD ?_|refine zA ?_ _));exact BK444.out) hb);have n5_:=Zk (zL (by repeat (first|(with_reducible first|exact HB.out|apply zG|apply zC|apply zH|refine zF ?_ GE410.out|refine zF ?_ GE424.out|refine zF ?_ GE444.out)|exact HB.out)) hb);clear HO_5;clear HO438;clear BK410;clear BK424;clear BK444;clear HB;have HO_5:=n0_;have HO438:=n1_;have BK410:=n2_;have BK424:=n3_;have BK444:=n4_;have HB:=n5_;clear n0_ n1_ n2_ n3_ n4_ n5_;(try clear hb);(try clear hb2);(try clear hk);(try clear hi);obtain ⟨Ao194,co194,eo194⟩:=V_slice HO438.out;subst eo194)|(go_at_call 18;(with_reducible refine (fdtab_Valid.calls k3 _ _ t436 t447 _ ?side1 ?side2 A99.out).mono ?_);(case side1=>repeat (first|exact (zY HO438.out).2.2|(with_reducible refine yC ?_ _)|(with_reducible refine yD ?_ _)|(with_reducible refine C_drew ?_)));(case side2=>exact (zY HO438.out).2.1);rintro e w195 ⟨rfl,hb⟩;have n0_:=Zk (zT (by (with_reducible repeat (first|apply zN|apply zO|apply zQ));exact HO_5.out) hb);have n1_:=Zk (zT (by (with_reducible repeat (first|apply zN|apply zO|apply zQ));exact HO438.out) hb);have n2_:=Zk (zK (g:=gb410) (o:=.cells #[.int .i64 a1_0,.int .i64 a1_1,.bool a1_2] 36 (0,0)) (by (with_reducible repeat (first|refine zB ?_ _|refine zD ?_|refine zA ?_ _));exact BK410.out) hb);have n3_:=Zk (zK (g:=gb424) (o:=.cells #[.int .i64 t420,.int .i64 t421,.bool t422] 36 (0,0)) (by (with_reducible repeat (first|refine zB ?_ _|refine zD ?_|refine zA ?_ _));exact BK424.out) hb);have n4_:=Zk (zK (g:=gb444) (o:=.cells #[.int .i64 t440,.int .i64 t441,.bool t442] 36 (0,0)) (by (with_reducible repeat (first|refine zB ?_ _|refine zD ?_|refine zA ?_ _));exact BK444.out) hb);have n5_:=Zk (zL (by repeat (first|(with_reducible first|exact HB.out|apply zG|apply zC|apply zH|refine zF ?_ GE410.out|refine zF ?_ GE424.out|refine zF ?_ GE444.out)|exact HB.out)) hb);clear HO_5;clear HO438;clear BK410;clear BK424;clear BK444;clear HB;have HO_5:=n0_;have HO438:=n1_;have BK410:=n2_;have BK424:=n3_;have BK444:=n4_;have HB:=n5_;clear n0_ n1_ n2_ n3_ n4_ n5_;(try clear hb);(try clear hb2);(try clear hk);(try clear hi))|(go_at_call 30;(with_reducible refine (jobshellref23_Same.calls k3 _ _ t436 _ _ l0 true _ ?side1 ?side2 ?side3 ?side4 A163.out).mono ?_);(case side1=>repeat (first|exact (zY HO438.out).2.2|(with_reducible refine yC ?_ _)|(with_reducible refine yD ?_ _)|(with_reducible refine C_drew ?_)));(case side2=>exact (zY HO438.out).2.1);(case side3=>repeat (first|exact (C_below HR0.out HB.out)|(with_reducible refine yC ?_ _)|(with_reducible refine yD ?_ _)|(with_reducible refine C_drew ?_)));(case side4=>exact HC0.out);rintro e w' ⟨rfl,⟨nd,rfl⟩⟩;have hcz196_0:w195.cell? ⟨gb410,0,none⟩=some (.int .i64 a1_0):=(zJ BK410.out 0).trans rfl;have hcz196_1:w195.cell? ⟨gb410,1,none⟩=some (.int .i64 a1_1):=(zJ BK410.out 1).trans rfl;have hcz196_2:w195.cell? ⟨gb410,2,none⟩=some (.bool a1_2):=(zJ BK410.out 2).trans rfl;have hfz196_0:=zI BK410.out 0;have hfz196_1:=zI BK410.out 1;have hfz196_2:=zI BK410.out 2))
                 go_ret
                 exact ⟨by first|rfl|(simp [errW_none,errW_some] <;> rfl)|(simp [*,errW_none,errW_some] <;> rfl),by repeat (first|(with_reducible first|exact HB.out|apply zG|apply zC|apply zH|refine zF ?_ GE410.out|refine zF ?_ GE424.out|refine zF ?_ GE444.out)|exact HB.out)⟩
               ·replace c165:=Bool.eq_false_iff.mpr c165
                subst c165
                have H1:(if (false == (!false))=true then ((jobshelllaw23_awake.f k3).bind fun t452=>(some t452)) else (some false))=some r:=by rw [if_neg (show ¬ (false=true) by decide)] at H;exact H
                clear H
                have H:=H1
                clear H1
                by_cases c197:(false == (!false))=true
                ·exact absurd c197 (by decide)
                ·rw [if_neg c197] at H
                 have c197b0:(false == (!false))=false:=by decide
                 clear c197
                 obtain rfl:=Option.some.inj H
                 have hnb213:=NB410_424.out
                 have hnc213:=NB424_410.out
                 have hcz214_0:wr.cell? ⟨gb410,0,none⟩=some (.int .i64 a1_0):=(zJ BK410.out 0).trans rfl
                 have hcz214_1:wr.cell? ⟨gb410,1,none⟩=some (.int .i64 a1_1):=(zJ BK410.out 1).trans rfl
                 have hcz214_2:wr.cell? ⟨gb410,2,none⟩=some (.bool a1_2):=(zJ BK410.out 2).trans rfl
                 have hfz214_0:=zI BK410.out 0
                 have hfz214_1:=zI BK410.out 1
                 have hfz214_2:=zI BK410.out 2
                 go_wp2_with (first|((with_reducible refine zW (f:=26) rfl ?_);refine yF (some 96) rfl rfl Try.func26 (by kernel_rfl) rfl #[.slice Ao19 t414.length co19,.int .i64 a1_0] rfl (by (try simp only [List.map_toArray,List.map_cons,List.map_nil]);first|done|rfl|(simp only [List.length_drop,List.length_take];rfl)) ?_;(with_reducible refine (fdtab_Drop.calls (fun k_=>(k_≠gb410∧k_≠gb424)) _ _ t414 a1_0 t436 t439 _ ?side1 A95.out).mono ?_);(case side1=>exact HO_5.out);rintro e w215 ⟨v437,rfl,ho0,hb⟩;refine ⟨_,rfl,?_⟩;have n0_:=Zk (zT (by (with_reducible repeat (first|apply zN|apply zO|apply zQ));exact HO_5.out) hb);have n1_:=Zk (V_lower (zU (ok':=fun k_=>k_≠gb410∧k_≠gb424) ho0 (fun k_ hk_=>⟨Or.elim hk_ (fun hs_=>hs_.1) (fun hn_=>(Kd.freshB (g:=gb410) (o:=.cells #[.int .i64 a1_0,.int .i64 a1_1,.bool a1_2] 36 (0,0)) (by (with_reducible repeat (first|refine zB ?_ _|refine zD ?_|refine zA ?_ _));exact BK410.out) k_ hn_)),Or.elim hk_ (fun hs_=>hs_.2) (fun hn_=>(Kd.freshB (g:=gb424) (o:=.cells #[.int .i64 t420,.int .i64 t421,.bool t422] 36 (0,0)) (by (with_reducible repeat (first|refine zB ?_ _|refine zD ?_|refine zA ?_ _));exact BK424.out) k_ hn_))⟩)) (zM (by repeat (first|(with_reducible first|exact HB.out|apply zG|apply zC|apply zH|refine zF ?_ GE410.out|refine zF ?_ GE424.out)|exact HB.out))));have n2_:=Zk (zK (g:=gb410) (o:=.cells #[.int .i64 a1_0,.int .i64 a1_1,.bool a1_2] 36 (0,0)) (by (with_reducible repeat (first|refine zB ?_ _|refine zD ?_|refine zA ?_ _));exact BK410.out) hb);have n3_:=Zk (zK (g:=gb424) (o:=.cells #[.int .i64 t420,.int .i64 t421,.bool t422] 36 (0,0)) (by (with_reducible repeat (first|refine zB ?_ _|refine zD ?_|refine zA ?_ _));exact BK424.out) hb);have n4_:=Zk (zL (by repeat (first|(with_reducible first|exact HB.out|apply zG|apply zC|apply zH|refine zF ?_ GE410.out|refine zF ?_ GE424.out)|exact HB.out)) hb);clear HO_5;clear BK410;clear BK424;clear HB;have HO_5:=n0_;have HO438:=n1_;have BK410:=n2_;have BK424:=n3_;have HB:=n4_;clear n0_ n1_ n2_ n3_ n4_;(try clear hb);(try clear hb2);(try clear hk);(try clear hi);(try clear ho0);have hcz216_0:w215.cell? ⟨gb410,0,none⟩=some (.int .i64 a1_0):=(zJ BK410.out 0).trans rfl;have hcz216_1:w215.cell? ⟨gb410,1,none⟩=some (.int .i64 a1_1):=(zJ BK410.out 1).trans rfl;have hcz216_2:w215.cell? ⟨gb410,2,none⟩=some (.bool a1_2):=(zJ BK410.out 2).trans rfl;have hfz216_0:=zI BK410.out 0;have hfz216_1:=zI BK410.out 1;have hfz216_2:=zI BK410.out 2)|((with_reducible refine zW (f:=14) rfl ?_);refine yF (some 103) rfl rfl Try.func14 (by kernel_rfl) rfl #[.slice A0 l0.length c0,.int .i64 a1_0] rfl (by (try simp only [List.map_toArray,List.map_cons,List.map_nil]);first|done|rfl|(simp only [List.length_drop,List.length_take];rfl)) ?_;(with_reducible refine (fdtab_Get.calls _ _ l0 a1_0 t440 t441 t442 false _ ?side1 ?side2 A96.out).mono ?_);(case side1=>repeat (first|exact (C_below HR0.out HB.out)|(with_reducible refine yC ?_ _)|(with_reducible refine yD ?_ _)|(with_reducible refine C_drew ?_)));(case side2=>exact HC0.out);rintro e w217 ⟨rfl,hb⟩;refine ⟨_,rfl,?_⟩;have n0_:=Zk (zT (by (with_reducible repeat (first|apply zN|apply zO|apply zQ));exact HO_5.out) hb);have n1_:=Zk (zT (by (with_reducible repeat (first|apply zN|apply zO|apply zQ));exact HO438.out) hb);have n2_:=Zk (zK (g:=gb410) (o:=.cells #[.int .i64 a1_0,.int .i64 a1_1,.bool a1_2] 36 (0,0)) (by (with_reducible repeat (first|refine zB ?_ _|refine zD ?_|refine zA ?_ _));exact BK410.out) hb);have n3_:=Zk (zK (g:=gb424) (o:=.cells #[.int .i64 t420,.int .i64 t421,.bool t422] 36 (0,0)) (by (with_reducible repeat (first|refine zB ?_ _|refine zD ?_|refine zA ?_ _));exact BK424.out) hb);have n4_:=Zk (zL (by repeat (first|(with_reducible first|exact HB.out|apply zG|apply zC|apply zH|refine zF ?_ GE410.out|refine zF ?_ GE424.out)|exact HB.out)) hb);clear HO_5;clear HO438;clear BK410;clear BK424;clear HB;have HO_5:=n0_;have HO438:=n1_;have BK410:=n2_;have BK424:=n3_;have HB:=n4_;clear n0_ n1_ n2_ n3_ n4_;(try clear hb);(try clear hb2);(try clear hk);(try clear hi))|((with_reducible refine yE (N:=16) rfl ?_);refine yG ?hg (N:=16) ?hd (cs:=#[.int .i64 0,.int .i64 0,.bool false]) (t:=36) ?hr ?_;(case hd=>rfl);(case hg=>rfl);(case hr=>first|(go_simp;done)|(go_simp;rfl));intro gb444 hg w218 hbox hb;have n0_:=Zk (zT (V_elderB (by (with_reducible repeat (first|apply zN|apply zO|apply zQ));exact HO_5.out) gb444 (Nat.le_of_eq hg.symm)) hb);have n1_:=Zk (zT (V_elderB (by (with_reducible repeat (first|apply zN|apply zO|apply zQ));exact HO438.out) gb444 (Nat.le_of_eq hg.symm)) hb);have n2_:=Zk (zK (g:=gb410) (o:=.cells #[.int .i64 a1_0,.int .i64 a1_1,.bool a1_2] 36 (0,0)) (by (with_reducible repeat (first|refine zB ?_ _|refine zD ?_|refine zA ?_ _));exact BK410.out) hb);have n3_:=Zk (zK (g:=gb424) (o:=.cells #[.int .i64 t420,.int .i64 t421,.bool t422] 36 (0,0)) (by (with_reducible repeat (first|refine zB ?_ _|refine zD ?_|refine zA ?_ _));exact BK424.out) hb);have n4_:=Zk (zL (by repeat (first|(with_reducible first|exact HB.out|apply zG|apply zC|apply zH|refine zF ?_ GE410.out|refine zF ?_ GE424.out)|exact HB.out)) hb);have n5_:=Zk (hbox);have n6_:=Zk ((by rw [hg];exact (zM (by repeat (first|(with_reducible first|exact HB.out|apply zG|apply zC|apply zH|refine zF ?_ GE410.out|refine zF ?_ GE424.out)|exact HB.out))):w.heap.size≤gb444));have n7_:=Zk ((by rw [hg];exact (zM (by repeat (first|(with_reducible first|exact HB.out|apply zG|apply zC|apply zH|refine zF ?_ GE410.out|refine zF ?_ GE424.out)|exact HB.out))):w.heap.size≤gb444));have n8_:=Zk ((by rw [hg];exact Nat.ne_of_lt (zX (g:=gb410) (o:=.cells #[.int .i64 a1_0,.int .i64 a1_1,.bool a1_2] 36 (0,0)) (by (with_reducible repeat (first|refine zB ?_ _|refine zD ?_|refine zA ?_ _));exact BK410.out)):gb410≠gb444));have n9_:=Zk ((by rw [hg];exact Nat.ne_of_gt (zX (g:=gb410) (o:=.cells #[.int .i64 a1_0,.int .i64 a1_1,.bool a1_2] 36 (0,0)) (by (with_reducible repeat (first|refine zB ?_ _|refine zD ?_|refine zA ?_ _));exact BK410.out)):gb444≠gb410));have n10_:=Zk ((by rw [hg];exact Nat.ne_of_lt (zX (g:=gb424) (o:=.cells #[.int .i64 t420,.int .i64 t421,.bool t422] 36 (0,0)) (by (with_reducible repeat (first|refine zB ?_ _|refine zD ?_|refine zA ?_ _));exact BK424.out)):gb424≠gb444));have n11_:=Zk ((by rw [hg];exact Nat.ne_of_gt (zX (g:=gb424) (o:=.cells #[.int .i64 t420,.int .i64 t421,.bool t422] 36 (0,0)) (by (with_reducible repeat (first|refine zB ?_ _|refine zD ?_|refine zA ?_ _));exact BK424.out)):gb444≠gb424));clear HO_5;clear HO438;clear BK410;clear BK424;clear HB;have HO_5:=n0_;have HO438:=n1_;have BK410:=n2_;have BK424:=n3_;have HB:=n4_;have BK444:=n5_;have GW444:=n6_;have GE444:=n7_;have NB410_444:=n8_;have NB444_410:=n9_;have NB424_444:=n10_;have NB444_424:=n11_;clear n0_ n1_ n2_ n3_ n4_ n5_ n6_ n7_ n8_ n9_ n10_ n11_;clear hb hbox hg;have hnb219:=NB444_410.out;have hnc219:=NB410_444.out;have hnb220:=NB444_424.out;have hnc220:=NB424_444.out;have hcz221_0:w218.cell? ⟨gb444,0,none⟩=some (.int .i64 0):=(zJ BK444.out 0).trans rfl;have hcz221_1:w218.cell? ⟨gb444,1,none⟩=some (.int .i64 0):=(zJ BK444.out 1).trans rfl;have hcz221_2:w218.cell? ⟨gb444,2,none⟩=some (.bool false):=(zJ BK444.out 2).trans rfl;have hfz221_0:=zI BK444.out 0;have hfz221_1:=zI BK444.out 1;have hfz221_2:=zI BK444.out 2;have hcz222_0:w218.cell? ⟨gb410,0,none⟩=some (.int .i64 a1_0):=(zJ BK410.out 0).trans rfl;have hcz222_1:w218.cell? ⟨gb410,1,none⟩=some (.int .i64 a1_1):=(zJ BK410.out 1).trans rfl;have hcz222_2:w218.cell? ⟨gb410,2,none⟩=some (.bool a1_2):=(zJ BK410.out 2).trans rfl;have hfz222_0:=zI BK410.out 0;have hfz222_1:=zI BK410.out 1;have hfz222_2:=zI BK410.out 2)|((with_reducible refine zW (f:=16) rfl ?_);refine yF (some 110) rfl rfl Try.func16 (by kernel_rfl) rfl #[.slice A0 l0.length c0,.int .i64 a1_0] rfl (by (try simp only [List.map_toArray,List.map_cons,List.map_nil]);first|done|rfl|(simp only [List.length_drop,List.length_take];rfl)) ?_;(with_reducible refine (fdtab_Free.calls k3 _ _ l0 a1_0 t445 false _ ?side1 ?side2 A97.out).mono ?_);(case side1=>exact C_below HR0.out (by repeat (first|(with_reducible first|exact HB.out|apply zG|apply zC|apply zH|refine zF ?_ GE410.out|refine zF ?_ GE424.out|refine zF ?_ GE444.out)|exact HB.out)));(case side2=>exact HC0.out);rintro e w223 ⟨rfl,hb⟩;refine ⟨_,rfl,?_⟩;have n0_:=Zk (zT (by (with_reducible repeat (first|apply zN|apply zO|apply zQ));exact (zU (zV (p:=⟨gb444,2,none⟩) (zV (p:=⟨gb444,1,none⟩) (zV (p:=⟨gb444,0,none⟩) (zU HO_5.out (fun k_ hk=>(⟨hk,hk.2⟩:_∧k_≠gb444))) (fun _ hk=>hk.2) (.int .i64 t440)) (fun _ hk=>hk.2) (.int .i64 t441)) (fun _ hk=>hk.2) (.bool t442)) (fun _ h_=>h_.1))) hb);have n1_:=Zk (zT (by (with_reducible repeat (first|apply zN|apply zO|apply zQ));exact (zU (zV (p:=⟨gb444,2,none⟩) (zV (p:=⟨gb444,1,none⟩) (zV (p:=⟨gb444,0,none⟩) (zU HO438.out (fun k_ hk=>(⟨hk,hk.2⟩:_∧k_≠gb444))) (fun _ hk=>hk.2) (.int .i64 t440)) (fun _ hk=>hk.2) (.int .i64 t441)) (fun _ hk=>hk.2) (.bool t442)) (fun _ h_=>h_.1))) hb);have n2_:=Zk (zK (g:=gb410) (o:=.cells #[.int .i64 a1_0,.int .i64 a1_1,.bool a1_2] 36 (0,0)) (by (with_reducible repeat (first|refine zB ?_ _|refine zD ?_|refine zA ?_ _));refine zP ?_ NB410_444.out _;(with_reducible repeat (first|refine zB ?_ _|refine zD ?_|refine zA ?_ _));refine zP ?_ NB410_444.out _;(with_reducible repeat (first|refine zB ?_ _|refine zD ?_|refine zA ?_ _));refine zP ?_ NB410_444.out _;(with_reducible repeat (first|refine zB ?_ _|refine zD ?_|refine zA ?_ _));exact BK410.out) hb);have n3_:=Zk (zK (g:=gb424) (o:=.cells #[.int .i64 t420,.int .i64 t421,.bool t422] 36 (0,0)) (by (with_reducible repeat (first|refine zB ?_ _|refine zD ?_|refine zA ?_ _));refine zP ?_ NB424_444.out _;(with_reducible repeat (first|refine zB ?_ _|refine zD ?_|refine zA ?_ _));refine zP ?_ NB424_444.out _;(with_reducible repeat (first|refine zB ?_ _|refine zD ?_|refine zA ?_ _));refine zP ?_ NB424_444.out _;(with_reducible repeat (first|refine zB ?_ _|refine zD ?_|refine zA ?_ _));exact BK424.out) hb);have n4_:=Zk (zK (g:=gb444) (o:=.cells #[.int .i64 t440,.int .i64 t441,.bool t442] 36 (0,0)) (by (with_reducible repeat (first|refine zB ?_ _|refine zD ?_|refine zA ?_ _));refine zS (cs:=#[.int .i64 t440,.int .i64 t441,.bool false]) ?_ 2 _ rfl;(with_reducible repeat (first|refine zB ?_ _|refine zD ?_|refine zA ?_ _));refine zS (cs:=#[.int .i64 t440,.int .i64 0,.bool false]) ?_ 1 _ rfl;(with_reducible repeat (first|refine zB ?_ _|refine zD ?_|refine zA ?_ _));refine zS (cs:=#[.int .i64 0,.int .i64 0,.bool false]) ?_ 0 _ rfl;(with_reducible repeat (first|refine zB ?_ _|refine zD ?_|refine zA ?_ _));exact BK444.out) hb);have n5_:=Zk (zL (by repeat (first|(with_reducible first|exact HB.out|apply zG|apply zC|apply zH|refine zF ?_ GE410.out|refine zF ?_ GE424.out|refine zF ?_ GE444.out)|exact HB.out)) hb);clear HO_5;clear HO438;clear BK410;clear BK424;clear BK444;clear HB;have HO_5:=n0_;have HO438:=n1_;have BK410:=n2_;have BK424:=n3_;have BK444:=n4_;have HB:=n5_;clear n0_ n1_ n2_ n3_ n4_ n5_;(try clear hb);(try clear hb2);(try clear hk);(try clear hi);obtain ⟨Ao224,co224,eo224⟩:=V_slice HO438.out;subst eo224)|(go_at_call 18;(with_reducible refine (fdtab_Valid.calls k3 _ _ t436 t447 _ ?side1 ?side2 A99.out).mono ?_);(case side1=>repeat (first|exact (zY HO438.out).2.2|(with_reducible refine yC ?_ _)|(with_reducible refine yD ?_ _)|(with_reducible refine C_drew ?_)));(case side2=>exact (zY HO438.out).2.1);rintro e w225 ⟨rfl,hb⟩;have n0_:=Zk (zT (by (with_reducible repeat (first|apply zN|apply zO|apply zQ));exact HO_5.out) hb);have n1_:=Zk (zT (by (with_reducible repeat (first|apply zN|apply zO|apply zQ));exact HO438.out) hb);have n2_:=Zk (zK (g:=gb410) (o:=.cells #[.int .i64 a1_0,.int .i64 a1_1,.bool a1_2] 36 (0,0)) (by (with_reducible repeat (first|refine zB ?_ _|refine zD ?_|refine zA ?_ _));exact BK410.out) hb);have n3_:=Zk (zK (g:=gb424) (o:=.cells #[.int .i64 t420,.int .i64 t421,.bool t422] 36 (0,0)) (by (with_reducible repeat (first|refine zB ?_ _|refine zD ?_|refine zA ?_ _));exact BK424.out) hb);have n4_:=Zk (zK (g:=gb444) (o:=.cells #[.int .i64 t440,.int .i64 t441,.bool t442] 36 (0,0)) (by (with_reducible repeat (first|refine zB ?_ _|refine zD ?_|refine zA ?_ _));exact BK444.out) hb);have n5_:=Zk (zL (by repeat (first|(with_reducible first|exact HB.out|apply zG|apply zC|apply zH|refine zF ?_ GE410.out|refine zF ?_ GE424.out|refine zF ?_ GE444.out)|exact HB.out)) hb);clear HO_5;clear HO438;clear BK410;clear BK424;clear BK444;clear HB;have HO_5:=n0_;have HO438:=n1_;have BK410:=n2_;have BK424:=n3_;have BK444:=n4_;have HB:=n5_;clear n0_ n1_ n2_ n3_ n4_ n5_;(try clear hb);(try clear hb2);(try clear hk);(try clear hi))|(go_at_call 30;(with_reducible refine (jobshellref23_Same.calls k3 _ _ t436 _ _ l0 true _ ?side1 ?side2 ?side3 ?side4 A163.out).mono ?_);(case side1=>repeat (first|exact (zY HO438.out).2.2|(with_reducible refine yC ?_ _)|(with_reducible refine yD ?_ _)|(with_reducible refine C_drew ?_)));(case side2=>exact (zY HO438.out).2.1);(case side3=>repeat (first|exact (C_below HR0.out HB.out)|(with_reducible refine yC ?_ _)|(with_reducible refine yD ?_ _)|(with_reducible refine C_drew ?_)));(case side4=>exact HC0.out);rintro e w' ⟨rfl,⟨nd,rfl⟩⟩))
                 go_ret
                 exact ⟨by first|rfl|(simp [errW_none,errW_some] <;> rfl)|(simp [*,errW_none,errW_some] <;> rfl),by repeat (first|(with_reducible first|exact HB.out|apply zG|apply zC|apply zH|refine zF ?_ GE410.out|refine zF ?_ GE424.out|refine zF ?_ GE444.out)|exact HB.out)⟩
              ·replace c164:=Bool.eq_false_iff.mpr c164
               subst c164
               have H1:(some false)=some r:=by rw [if_neg (show ¬ (false=true) by decide)] at H;exact H
               clear H
               have H:=H1
               clear H1
               obtain rfl:=Option.some.inj H
               have hnb226:=NB410_424.out
               have hnc226:=NB424_410.out
               have hcz227_0:wr.cell? ⟨gb410,0,none⟩=some (.int .i64 a1_0):=(zJ BK410.out 0).trans rfl
               have hcz227_1:wr.cell? ⟨gb410,1,none⟩=some (.int .i64 a1_1):=(zJ BK410.out 1).trans rfl
               have hcz227_2:wr.cell? ⟨gb410,2,none⟩=some (.bool a1_2):=(zJ BK410.out 2).trans rfl
               have hfz227_0:=zI BK410.out 0
               have hfz227_1:=zI BK410.out 1
               have hfz227_2:=zI BK410.out 2
               go_wp2_with (first|((with_reducible refine zW (f:=26) rfl ?_);refine yF (some 96) rfl rfl Try.func26 (by kernel_rfl) rfl #[.slice Ao19 t414.length co19,.int .i64 a1_0] rfl (by (try simp only [List.map_toArray,List.map_cons,List.map_nil]);first|done|rfl|(simp only [List.length_drop,List.length_take];rfl)) ?_;(with_reducible refine (fdtab_Drop.calls (fun k_=>(k_≠gb410∧k_≠gb424)) _ _ t414 a1_0 t436 t439 _ ?side1 A95.out).mono ?_);(case side1=>exact HO_5.out);rintro e w228 ⟨v437,rfl,ho0,hb⟩;refine ⟨_,rfl,?_⟩;have n0_:=Zk (zT (by (with_reducible repeat (first|apply zN|apply zO|apply zQ));exact HO_5.out) hb);have n1_:=Zk (V_lower (zU (ok':=fun k_=>k_≠gb410∧k_≠gb424) ho0 (fun k_ hk_=>⟨Or.elim hk_ (fun hs_=>hs_.1) (fun hn_=>(Kd.freshB (g:=gb410) (o:=.cells #[.int .i64 a1_0,.int .i64 a1_1,.bool a1_2] 36 (0,0)) (by (with_reducible repeat (first|refine zB ?_ _|refine zD ?_|refine zA ?_ _));exact BK410.out) k_ hn_)),Or.elim hk_ (fun hs_=>hs_.2) (fun hn_=>(Kd.freshB (g:=gb424) (o:=.cells #[.int .i64 t420,.int .i64 t421,.bool t422] 36 (0,0)) (by (with_reducible repeat (first|refine zB ?_ _|refine zD ?_|refine zA ?_ _));exact BK424.out) k_ hn_))⟩)) (zM (by repeat (first|(with_reducible first|exact HB.out|apply zG|apply zC|apply zH|refine zF ?_ GE410.out|refine zF ?_ GE424.out)|exact HB.out))));have n2_:=Zk (zK (g:=gb410) (o:=.cells #[.int .i64 a1_0,.int .i64 a1_1,.bool a1_2] 36 (0,0)) (by (with_reducible repeat (first|refine zB ?_ _|refine zD ?_|refine zA ?_ _));exact BK410.out) hb);have n3_:=Zk (zK (g:=gb424) (o:=.cells #[.int .i64 t420,.int .i64 t421,.bool t422] 36 (0,0)) (by (with_reducible repeat (first|refine zB ?_ _|refine zD ?_|refine zA ?_ _));exact BK424.out) hb);have n4_:=Zk (zL (by repeat (first|(with_reducible first|exact HB.out|apply zG|apply zC|apply zH|refine zF ?_ GE410.out|refine zF ?_ GE424.out)|exact HB.out)) hb);clear HO_5;clear BK410;clear BK424;clear HB;have HO_5:=n0_;have HO438:=n1_;have BK410:=n2_;have BK424:=n3_;have HB:=n4_;clear n0_ n1_ n2_ n3_ n4_;(try clear hb);(try clear hb2);(try clear hk);(try clear hi);(try clear ho0);have hcz229_0:w228.cell? ⟨gb410,0,none⟩=some (.int .i64 a1_0):=(zJ BK410.out 0).trans rfl;have hcz229_1:w228.cell? ⟨gb410,1,none⟩=some (.int .i64 a1_1):=(zJ BK410.out 1).trans rfl;have hcz229_2:w228.cell? ⟨gb410,2,none⟩=some (.bool a1_2):=(zJ BK410.out 2).trans rfl;have hfz229_0:=zI BK410.out 0;have hfz229_1:=zI BK410.out 1;have hfz229_2:=zI BK410.out 2)|((with_reducible refine zW (f:=14) rfl ?_);refine yF (some 103) rfl rfl Try.func14 (by kernel_rfl) rfl #[.slice A0 l0.length c0,.int .i64 a1_0] rfl (by (try simp only [List.map_toArray,List.map_cons,List.map_nil]);first|done|rfl|(simp only [List.length_drop,List.length_take];rfl)) ?_;(with_reducible refine (fdtab_Get.calls _ _ l0 a1_0 t440 t441 t442 false _ ?side1 ?side2 A96.out).mono ?_);(case side1=>repeat (first|exact (C_below HR0.out HB.out)|(with_reducible refine yC ?_ _)|(with_reducible refine yD ?_ _)|(with_reducible refine C_drew ?_)));(case side2=>exact HC0.out);rintro e w230 ⟨rfl,hb⟩;refine ⟨_,rfl,?_⟩;have n0_:=Zk (zT (by (with_reducible repeat (first|apply zN|apply zO|apply zQ));exact HO_5.out) hb);have n1_:=Zk (zT (by (with_reducible repeat (first|apply zN|apply zO|apply zQ));exact HO438.out) hb);have n2_:=Zk (zK (g:=gb410) (o:=.cells #[.int .i64 a1_0,.int .i64 a1_1,.bool a1_2] 36 (0,0)) (by (with_reducible repeat (first|refine zB ?_ _|refine zD ?_|refine zA ?_ _));exact BK410.out) hb);have n3_:=Zk (zK (g:=gb424) (o:=.cells #[.int .i64 t420,.int .i64 t421,.bool t422] 36 (0,0)) (by (with_reducible repeat (first|refine zB ?_ _|refine zD ?_|refine zA ?_ _));exact BK424.out) hb);have n4_:=Zk (zL (by repeat (first|(with_reducible first|exact HB.out|apply zG|apply zC|apply zH|refine zF ?_ GE410.out|refine zF ?_ GE424.out)|exact HB.out)) hb);clear HO_5;clear HO438;clear BK410;clear BK424;clear HB;have HO_5:=n0_;have HO438:=n1_;have BK410:=n2_;have BK424:=n3_;have HB:=n4_;clear n0_ n1_ n2_ n3_ n4_;(try clear hb);(try clear hb2);(try clear hk);(try clear hi))|((with_reducible refine yE (N:=16) rfl ?_);refine yG ?hg (N:=16) ?hd (cs:=#[.int .i64 0,.int .i64 0,.bool false]) (t:=36) ?hr ?_;(case hd=>rfl);(case hg=>rfl);(case hr=>first|(go_simp;done)|(go_simp;rfl));intro gb444 hg w231 hbox hb;have n0_:=Zk (zT (V_elderB (by (with_reducible repeat (first|apply zN|apply zO|apply zQ));exact HO_5.out) gb444 (Nat.le_of_eq hg.symm)) hb);have n1_:=Zk (zT (V_elderB (by (with_reducible repeat (first|apply zN|apply zO|apply zQ));exact HO438.out) gb444 (Nat.le_of_eq hg.symm)) hb);have n2_:=Zk (zK (g:=gb410) (o:=.cells #[.int .i64 a1_0,.int .i64 a1_1,.bool a1_2] 36 (0,0)) (by (with_reducible repeat (first|refine zB ?_ _|refine zD ?_|refine zA ?_ _));exact BK410.out) hb);have n3_:=Zk (zK (g:=gb424) (o:=.cells #[.int .i64 t420,.int .i64 t421,.bool t422] 36 (0,0)) (by (with_reducible repeat (first|refine zB ?_ _|refine zD ?_|refine zA ?_ _));exact BK424.out) hb);have n4_:=Zk (zL (by repeat (first|(with_reducible first|exact HB.out|apply zG|apply zC|apply zH|refine zF ?_ GE410.out|refine zF ?_ GE424.out)|exact HB.out)) hb);have n5_:=Zk (hbox);have n6_:=Zk ((by rw [hg];exact (zM (by repeat (first|(with_reducible first|exact HB.out|apply zG|apply zC|apply zH|refine zF ?_ GE410.out|refine zF ?_ GE424.out)|exact HB.out))):w.heap.size≤gb444));have n7_:=Zk ((by rw [hg];exact (zM (by repeat (first|(with_reducible first|exact HB.out|apply zG|apply zC|apply zH|refine zF ?_ GE410.out|refine zF ?_ GE424.out)|exact HB.out))):w.heap.size≤gb444));have n8_:=Zk ((by rw [hg];exact Nat.ne_of_lt (zX (g:=gb410) (o:=.cells #[.int .i64 a1_0,.int .i64 a1_1,.bool a1_2] 36 (0,0)) (by (with_reducible repeat (first|refine zB ?_ _|refine zD ?_|refine zA ?_ _));exact BK410.out)):gb410≠gb444));have n9_:=Zk ((by rw [hg];exact Nat.ne_of_gt (zX (g:=gb410) (o:=.cells #[.int .i64 a1_0,.int .i64 a1_1,.bool a1_2] 36 (0,0)) (by (with_reducible repeat (first|refine zB ?_ _|refine zD ?_|refine zA ?_ _));exact BK410.out)):gb444≠gb410));have n10_:=Zk ((by rw [hg];exact Nat.ne_of_lt (zX (g:=gb424) (o:=.cells #[.int .i64 t420,.int .i64 t421,.bool t422] 36 (0,0)) (by (with_reducible repeat (first|refine zB ?_ _|refine zD ?_|refine zA ?_ _));exact BK424.out)):gb424≠gb444));have n11_:=Zk ((by rw [hg];exact Nat.ne_of_gt (zX (g:=gb424) (o:=.cells #[.int .i64 t420,.int .i64 t421,.bool t422] 36 (0,0)) (by (with_reducible repeat (first|refine zB ?_ _|refine zD ?_|refine zA ?_ _));exact BK424.out)):gb444≠gb424));clear HO_5;clear HO438;clear BK410;clear BK424;clear HB;have HO_5:=n0_;have HO438:=n1_;have BK410:=n2_;have BK424:=n3_;have HB:=n4_;have BK444:=n5_;have GW444:=n6_;have GE444:=n7_;have NB410_444:=n8_;have NB444_410:=n9_;have NB424_444:=n10_;have NB444_424:=n11_;clear n0_ n1_ n2_ n3_ n4_ n5_ n6_ n7_ n8_ n9_ n10_ n11_;clear hb hbox hg;have hnb232:=NB444_410.out;have hnc232:=NB410_444.out;have hnb233:=NB444_424.out;have hnc233:=NB424_444.out;have hcz234_0:w231.cell? ⟨gb444,0,none⟩=some (.int .i64 0):=(zJ BK444.out 0).trans rfl;have hcz234_1:w231.cell? ⟨gb444,1,none⟩=some (.int .i64 0):=(zJ BK444.out 1).trans rfl;have hcz234_2:w231.cell? ⟨gb444,2,none⟩=some (.bool false):=(zJ BK444.out 2).trans rfl;have hfz234_0:=zI BK444.out 0;have hfz234_1:=zI BK444.out 1;have hfz234_2:=zI BK444.out 2;have hcz235_0:w231.cell? ⟨gb410,0,none⟩=some (.int .i64 a1_0):=(zJ BK410.out 0).trans rfl;have hcz235_1:w231.cell? ⟨gb410,1,none⟩=some (.int .i64 a1_1):=(zJ BK410.out 1).trans rfl;have hcz235_2:w231.cell? ⟨gb410,2,none⟩=some (.bool a1_2):=(zJ BK410.out 2).trans rfl;have hfz235_0:=zI BK410.out 0;have hfz235_1:=zI BK410.out 1;have hfz235_2:=zI BK410.out 2)|((with_reducible refine zW (f:=16) rfl ?_);refine yF (some 110) rfl rfl Try.func16 (by kernel_rfl) rfl #[.slice A0 l0.length c0,.int .i64 a1_0] rfl (by (try simp only [List.map_toArray,List.map_cons,List.map_nil]);first|done|rfl|(simp only [List.length_drop,List.length_take];rfl)) ?_;(with_reducible refine (fdtab_Free.calls k3 _ _ l0 a1_0 t445 t446 _ ?side1 ?side2 A97.out).mono ?_);(case side1=>exact C_below HR0.out (by repeat (first|(with_reducible first|exact HB.out|apply zG|apply zC|apply zH|refine zF ?_ GE410.out|refine zF ?_ GE424.out|refine zF ?_ GE444.out)|exact HB.out)));(case side2=>exact HC0.out);rintro e w236 ⟨rfl,hb⟩;refine ⟨_,rfl,?_⟩;have n0_:=Zk (zT (by (with_reducible repeat (first|apply zN|apply zO|apply zQ));exact (zU (zV (p:=⟨gb444,2,none⟩) (zV (p:=⟨gb444,1,none⟩) (zV (p:=⟨gb444,0,none⟩) (zU HO_5.out (fun k_ hk=>(⟨hk,hk.2⟩:_∧k_≠gb444))) (fun _ hk=>hk.2) (.int .i64 t440)) (fun _ hk=>hk.2) (.int .i64 t441)) (fun _ hk=>hk.2) (.bool t442)) (fun _ h_=>h_.1))) hb);have n1_:=Zk (zT (by (with_reducible repeat (first|apply zN|apply zO|apply zQ));exact (zU (zV (p:=⟨gb444,2,none⟩) (zV (p:=⟨gb444,1,none⟩) (zV (p:=⟨gb444,0,none⟩) (zU HO438.out (fun k_ hk=>(⟨hk,hk.2⟩:_∧k_≠gb444))) (fun _ hk=>hk.2) (.int .i64 t440)) (fun _ hk=>hk.2) (.int .i64 t441)) (fun _ hk=>hk.2) (.bool t442)) (fun _ h_=>h_.1))) hb);have n2_:=Zk (zK (g:=gb410) (o:=.cells #[.int .i64 a1_0,.int .i64 a1_1,.bool a1_2] 36 (0,0)) (by (with_reducible repeat (first|refine zB ?_ _|refine zD ?_|refine zA ?_ _));refine zP ?_ NB410_444.out _;(with_reducible repeat (first|refine zB ?_ _|refine zD ?_|refine zA ?_ _));refine zP ?_ NB410_444.out _;(with_reducible repeat (first|refine zB ?_ _|refine zD ?_|refine zA ?_ _));refine zP ?_ NB410_444.out _;(with_reducible repeat (first|refine zB ?_ _|refine zD ?_|refine zA ?_ _));exact BK410.out) hb);have n3_:=Zk (zK (g:=gb424) (o:=.cells #[.int .i64 t420,.int .i64 t421,.bool t422] 36 (0,0)) (by (with_reducible repeat (first|refine zB ?_ _|refine zD ?_|refine zA ?_ _));refine zP ?_ NB424_444.out _;(with_reducible repeat (first|refine zB ?_ _|refine zD ?_|refine zA ?_ _));refine zP ?_ NB424_444.out _;(with_reducible repeat (first|refine zB ?_ _|refine zD ?_|refine zA ?_ _));refine zP ?_ NB424_444.out _;(with_reducible repeat (first|refine zB ?_ _|refine zD ?_|refine zA ?_ _));exact BK424.out) hb);have n4_:=Zk (zK (g:=gb444) (o:=.cells #[.int .i64 t440,.int .i64 t441,.bool t442] 36 (0,0)) (by (with_reducible repeat (first|refine zB ?_ _|refine zD ?_|refine zA ?_ _));refine zS (cs:=#[.int .i64 t440,.int .i64 t441,.bool false]) ?_ 2 _ rfl;(with_reducible repeat (first|refine zB ?_ _|refine zD ?_|refine zA ?_ _));refine zS (cs:=#[.int .i64 t440,.int .i64 0,.bool false]) ?_ 1 _ rfl;(with_reducible repeat (first|refine zB ?_ _|refine zD ?_|refine zA ?_ _));refine zS (cs:=#[.int .i64 0,.int .i64 0,.bool false]) ?_ 0 _ rfl;(with_reducible repeat (first|refine zB ?_ _|refine zD ?_|refine zA ?_ _));exact BK444.out) hb);have n5_:=Zk (zL (by repeat (first|(with_reducible first|exact HB.out|apply zG|apply zC|apply zH|refine zF ?_ GE410.out|refine zF ?_ GE424.out|refine zF ?_ GE444.out)|exact HB.out)) hb);clear HO_5;clear HO438;clear BK410;clear BK424;clear BK444;clear HB;have HO_5:=n0_;have HO438:=n1_;have BK410:=n2_;have BK424:=n3_;have BK444:=n4_;have HB:=n5_;clear n0_ n1_ n2_ n3_ n4_ n5_;(try clear hb);(try clear hb2);(try clear hk);(try clear hi);obtain ⟨Ao237,co237,eo237⟩:=V_slice HO438.out;subst eo237)|(go_at_call 18;(with_reducible refine (fdtab_Valid.calls k3 _ _ t436 t447 _ ?side1 ?side2 A99.out).mono ?_);(case side1=>repeat (first|exact (zY HO438.out).2.2|(with_reducible refine yC ?_ _)|(with_reducible refine yD ?_ _)|(with_reducible refine C_drew ?_)));(case side2=>exact (zY HO438.out).2.1);rintro e w238 ⟨rfl,hb⟩;have n0_:=Zk (zT (by (with_reducible repeat (first|apply zN|apply zO|apply zQ));exact HO_5.out) hb);have n1_:=Zk (zT (by (with_reducible repeat (first|apply zN|apply zO|apply zQ));exact HO438.out) hb);have n2_:=Zk (zK (g:=gb410) (o:=.cells #[.int .i64 a1_0,.int .i64 a1_1,.bool a1_2] 36 (0,0)) (by (with_reducible repeat (first|refine zB ?_ _|refine zD ?_|refine zA ?_ _));exact BK410.out) hb);have n3_:=Zk (zK (g:=gb424) (o:=.cells #[.int .i64 t420,.int .i64 t421,.bool t422] 36 (0,0)) (by (with_reducible repeat (first|refine zB ?_ _|refine zD ?_|refine zA ?_ _));exact BK424.out) hb);have n4_:=Zk (zK (g:=gb444) (o:=.cells #[.int .i64 t440,.int .i64 t441,.bool t442] 36 (0,0)) (by (with_reducible repeat (first|refine zB ?_ _|refine zD ?_|refine zA ?_ _));exact BK444.out) hb);have n5_:=Zk (zL (by repeat (first|(with_reducible first|exact HB.out|apply zG|apply zC|apply zH|refine zF ?_ GE410.out|refine zF ?_ GE424.out|refine zF ?_ GE444.out)|exact HB.out)) hb);clear HO_5;clear HO438;clear BK410;clear BK424;clear BK444;clear HB;have HO_5:=n0_;have HO438:=n1_;have BK410:=n2_;have BK424:=n3_;have BK444:=n4_;have HB:=n5_;clear n0_ n1_ n2_ n3_ n4_ n5_;(try clear hb);(try clear hb2);(try clear hk);(try clear hi))|(go_at_call 30;(with_reducible refine (jobshellref23_Same.calls k3 _ _ t436 _ _ l0 false _ ?side1 ?side2 ?side3 ?side4 A163.out).mono ?_);(case side1=>repeat (first|exact (zY HO438.out).2.2|(with_reducible refine yC ?_ _)|(with_reducible refine yD ?_ _)|(with_reducible refine C_drew ?_)));(case side2=>exact (zY HO438.out).2.1);(case side3=>repeat (first|exact (C_below HR0.out HB.out)|(with_reducible refine yC ?_ _)|(with_reducible refine yD ?_ _)|(with_reducible refine C_drew ?_)));(case side4=>exact HC0.out);rintro e w' ⟨rfl,⟨nd,rfl⟩⟩))
               go_ret
               exact ⟨by first|rfl|(simp [errW_none,errW_some] <;> rfl)|(simp [*,errW_none,errW_some] <;> rfl),by repeat (first|(with_reducible first|exact HB.out|apply zG|apply zC|apply zH|refine zF ?_ GE410.out|refine zF ?_ GE424.out|refine zF ?_ GE444.out)|exact HB.out)⟩
            ·rw [if_neg c100] at H
             have c100b0:(t447 == 0)=false:=beq_eq_false_iff_ne.mpr c100
             have c100b1:(t447 != 0)=true:=bne_iff_ne.mpr c100
             obtain rfl:=Option.some.inj H
             have hnb239:=NB410_424.out
             have hnc239:=NB424_410.out
             have hcz240_0:wr.cell? ⟨gb410,0,none⟩=some (.int .i64 a1_0):=(zJ BK410.out 0).trans rfl
             have hcz240_1:wr.cell? ⟨gb410,1,none⟩=some (.int .i64 a1_1):=(zJ BK410.out 1).trans rfl
             have hcz240_2:wr.cell? ⟨gb410,2,none⟩=some (.bool a1_2):=(zJ BK410.out 2).trans rfl
             have hfz240_0:=zI BK410.out 0
             have hfz240_1:=zI BK410.out 1
             have hfz240_2:=zI BK410.out 2
             go_wp2_with (first|((with_reducible refine zW (f:=26) rfl ?_);refine yF (some 96) rfl rfl Try.func26 (by kernel_rfl) rfl #[.slice Ao19 t414.length co19,.int .i64 a1_0] rfl (by (try simp only [List.map_toArray,List.map_cons,List.map_nil]);first|done|rfl|(simp only [List.length_drop,List.length_take];rfl)) ?_;(with_reducible refine (fdtab_Drop.calls (fun k_=>(k_≠gb410∧k_≠gb424)) _ _ t414 a1_0 t436 t439 _ ?side1 A95.out).mono ?_);(case side1=>exact HO_5.out);rintro e w241 ⟨v437,rfl,ho0,hb⟩;refine ⟨_,rfl,?_⟩;have n0_:=Zk (zT (by (with_reducible repeat (first|apply zN|apply zO|apply zQ));exact HO_5.out) hb);have n1_:=Zk (V_lower (zU (ok':=fun k_=>k_≠gb410∧k_≠gb424) ho0 (fun k_ hk_=>⟨Or.elim hk_ (fun hs_=>hs_.1) (fun hn_=>(Kd.freshB (g:=gb410) (o:=.cells #[.int .i64 a1_0,.int .i64 a1_1,.bool a1_2] 36 (0,0)) (by (with_reducible repeat (first|refine zB ?_ _|refine zD ?_|refine zA ?_ _));exact BK410.out) k_ hn_)),Or.elim hk_ (fun hs_=>hs_.2) (fun hn_=>(Kd.freshB (g:=gb424) (o:=.cells #[.int .i64 t420,.int .i64 t421,.bool t422] 36 (0,0)) (by (with_reducible repeat (first|refine zB ?_ _|refine zD ?_|refine zA ?_ _));exact BK424.out) k_ hn_))⟩)) (zM (by repeat (first|(with_reducible first|exact HB.out|apply zG|apply zC|apply zH|refine zF ?_ GE410.out|refine zF ?_ GE424.out)|exact HB.out))));have n2_:=Zk (zK (g:=gb410) (o:=.cells #[.int .i64 a1_0,.int .i64 a1_1,.bool a1_2] 36 (0,0)) (by (with_reducible repeat (first|refine zB ?_ _|refine zD ?_|refine zA ?_ _));exact BK410.out) hb);have n3_:=Zk (zK (g:=gb424) (o:=.cells #[.int .i64 t420,.int .i64 t421,.bool t422] 36 (0,0)) (by (with_reducible repeat (first|refine zB ?_ _|refine zD ?_|refine zA ?_ _));exact BK424.out) hb);have n4_:=Zk (zL (by repeat (first|(with_reducible first|exact HB.out|apply zG|apply zC|apply zH|refine zF ?_ GE410.out|refine zF ?_ GE424.out)|exact HB.out)) hb);clear HO_5;clear BK410;clear BK424;clear HB;have HO_5:=n0_;have HO438:=n1_;have BK410:=n2_;have BK424:=n3_;have HB:=n4_;clear n0_ n1_ n2_ n3_ n4_;(try clear hb);(try clear hb2);(try clear hk);(try clear hi);(try clear ho0);have hcz242_0:w241.cell? ⟨gb410,0,none⟩=some (.int .i64 a1_0):=(zJ BK410.out 0).trans rfl;have hcz242_1:w241.cell? ⟨gb410,1,none⟩=some (.int .i64 a1_1):=(zJ BK410.out 1).trans rfl;have hcz242_2:w241.cell? ⟨gb410,2,none⟩=some (.bool a1_2):=(zJ BK410.out 2).trans rfl;have hfz242_0:=zI BK410.out 0;have hfz242_1:=zI BK410.out 1;have hfz242_2:=zI BK410.out 2)|((with_reducible refine zW (f:=14) rfl ?_);refine yF (some 103) rfl rfl Try.func14 (by kernel_rfl) rfl #[.slice A0 l0.length c0,.int .i64 a1_0] rfl (by (try simp only [List.map_toArray,List.map_cons,List.map_nil]);first|done|rfl|(simp only [List.length_drop,List.length_take];rfl)) ?_;(with_reducible refine (fdtab_Get.calls _ _ l0 a1_0 t440 t441 t442 t443 _ ?side1 ?side2 A96.out).mono ?_);(case side1=>repeat (first|exact (C_below HR0.out HB.out)|(with_reducible refine yC ?_ _)|(with_reducible refine yD ?_ _)|(with_reducible refine C_drew ?_)));(case side2=>exact HC0.out);rintro e w243 ⟨rfl,hb⟩;refine ⟨_,rfl,?_⟩;have n0_:=Zk (zT (by (with_reducible repeat (first|apply zN|apply zO|apply zQ));exact HO_5.out) hb);have n1_:=Zk (zT (by (with_reducible repeat (first|apply zN|apply zO|apply zQ));exact HO438.out) hb);have n2_:=Zk (zK (g:=gb410) (o:=.cells #[.int .i64 a1_0,.int .i64 a1_1,.bool a1_2] 36 (0,0)) (by (with_reducible repeat (first|refine zB ?_ _|refine zD ?_|refine zA ?_ _));exact BK410.out) hb);have n3_:=Zk (zK (g:=gb424) (o:=.cells #[.int .i64 t420,.int .i64 t421,.bool t422] 36 (0,0)) (by (with_reducible repeat (first|refine zB ?_ _|refine zD ?_|refine zA ?_ _));exact BK424.out) hb);have n4_:=Zk (zL (by repeat (first|(with_reducible first|exact HB.out|apply zG|apply zC|apply zH|refine zF ?_ GE410.out|refine zF ?_ GE424.out)|exact HB.out)) hb);clear HO_5;clear HO438;clear BK410;clear BK424;clear HB;have HO_5:=n0_;have HO438:=n1_;have BK410:=n2_;have BK424:=n3_;have HB:=n4_;clear n0_ n1_ n2_ n3_ n4_;(try clear hb);(try clear hb2);(try clear hk);(try clear hi))|((with_reducible refine yE (N:=16) rfl ?_);refine yG ?hg (N:=16) ?hd (cs:=#[.int .i64 0,.int .i64 0,.bool false]) (t:=36) ?hr ?_;(case hd=>rfl);(case hg=>rfl);(case hr=>first|(go_simp;done)|(go_simp;rfl));intro gb444 hg w244 hbox hb;have n0_:=Zk (zT (V_elderB (by (with_reducible repeat (first|apply zN|apply zO|apply zQ));exact HO_5.out) gb444 (Nat.le_of_eq hg.symm)) hb);have n1_:=Zk (zT (V_elderB (by (with_reducible repeat (first|apply zN|apply zO|apply zQ));exact HO438.out) gb444 (Nat.le_of_eq hg.symm)) hb);have n2_:=Zk (zK (g:=gb410) (o:=.cells #[.int .i64 a1_0,.int .i64 a1_1,.bool a1_2] 36 (0,0)) (by (with_reducible repeat (first|refine zB ?_ _|refine zD ?_|refine zA ?_ _));exact BK410.out) hb);have n3_:=Zk (zK (g:=gb424) (o:=.cells #[.int .i64 t420,.int .i64 t421,.bool t422] 36 (0,0)) (by (with_reducible repeat (first|refine zB ?_ _|refine zD ?_|refine zA ?_ _));exact BK424.out) hb);have n4_:=Zk (zL (by repeat (first|(with_reducible first|exact HB.out|apply zG|apply zC|apply zH|refine zF ?_ GE410.out|refine zF ?_ GE424.out)|exact HB.out)) hb);have n5_:=Zk (hbox);have n6_:=Zk ((by rw [hg];exact (zM (by repeat (first|(with_reducible first|exact HB.out|apply zG|apply zC|apply zH|refine zF ?_ GE410.out|refine zF ?_ GE424.out)|exact HB.out))):w.heap.size≤gb444));have n7_:=Zk ((by rw [hg];exact (zM (by repeat (first|(with_reducible first|exact HB.out|apply zG|apply zC|apply zH|refine zF ?_ GE410.out|refine zF ?_ GE424.out)|exact HB.out))):w.heap.size≤gb444));have n8_:=Zk ((by rw [hg];exact Nat.ne_of_lt (zX (g:=gb410) (o:=.cells #[.int .i64 a1_0,.int .i64 a1_1,.bool a1_2] 36 (0,0)) (by (with_reducible repeat (first|refine zB ?_ _|refine zD ?_|refine zA ?_ _));exact BK410.out)):gb410≠gb444));have n9_:=Zk ((by rw [hg];exact Nat.ne_of_gt (zX (g:=gb410) (o:=.cells #[.int .i64 a1_0,.int .i64 a1_1,.bool a1_2] 36 (0,0)) (by (with_reducible repeat (first|refine zB ?_ _|refine zD ?_|refine zA ?_ _));exact BK410.out)):gb444≠gb410));have n10_:=Zk ((by rw [hg];exact Nat.ne_of_lt (zX (g:=gb424) (o:=.cells #[.int .i64 t420,.int .i64 t421,.bool t422] 36 (0,0)) (by (with_reducible repeat (first|refine zB ?_ _|refine zD ?_|refine zA ?_ _));exact BK424.out)):gb424≠gb444));have n11_:=Zk ((by rw [hg];exact Nat.ne_of_gt (zX (g:=gb424) (o:=.cells #[.int .i64 t420,.int .i64 t421,.bool t422] 36 (0,0)) (by (with_reducible repeat (first|refine zB ?_ _|refine zD ?_|refine zA ?_ _));exact BK424.out)):gb444≠gb424));clear HO_5;clear HO438;clear BK410;clear BK424;clear HB;have HO_5:=n0_;have HO438:=n1_;have BK410:=n2_;have BK424:=n3_;have HB:=n4_;have BK444:=n5_;have GW444:=n6_;have GE444:=n7_;have NB410_444:=n8_;have NB444_410:=n9_;have NB424_444:=n10_;have NB444_424:=n11_;clear n0_ n1_ n2_ n3_ n4_ n5_ n6_ n7_ n8_ n9_ n10_ n11_;clear hb hbox hg;have hnb245:=NB444_410.out;have hnc245:=NB410_444.out;have hnb246:=NB444_424.out;have hnc246:=NB424_444.out;have hcz247_0:w244.cell? ⟨gb444,0,none⟩=some (.int .i64 0):=(zJ BK444.out 0).trans rfl;have hcz247_1:w244.cell? ⟨gb444,1,none⟩=some (.int .i64 0):=(zJ BK444.out 1).trans rfl;have hcz247_2:w244.cell? ⟨gb444,2,none⟩=some (.bool false):=(zJ BK444.out 2).trans rfl;have hfz247_0:=zI BK444.out 0;have hfz247_1:=zI BK444.out 1;have hfz247_2:=zI BK444.out 2;have hcz248_0:w244.cell? ⟨gb410,0,none⟩=some (.int .i64 a1_0):=(zJ BK410.out 0).trans rfl;have hcz248_1:w244.cell? ⟨gb410,1,none⟩=some (.int .i64 a1_1):=(zJ BK410.out 1).trans rfl;have hcz248_2:w244.cell? ⟨gb410,2,none⟩=some (.bool a1_2):=(zJ BK410.out 2).trans rfl;have hfz248_0:=zI BK410.out 0;have hfz248_1:=zI BK410.out 1;have hfz248_2:=zI BK410.out 2)|((with_reducible refine zW (f:=16) rfl ?_);refine yF (some 110) rfl rfl Try.func16 (by kernel_rfl) rfl #[.slice A0 l0.length c0,.int .i64 a1_0] rfl (by (try simp only [List.map_toArray,List.map_cons,List.map_nil]);first|done|rfl|(simp only [List.length_drop,List.length_take];rfl)) ?_;(with_reducible refine (fdtab_Free.calls k3 _ _ l0 a1_0 t445 t446 _ ?side1 ?side2 A97.out).mono ?_);(case side1=>exact C_below HR0.out (by repeat (first|(with_reducible first|exact HB.out|apply zG|apply zC|apply zH|refine zF ?_ GE410.out|refine zF ?_ GE424.out|refine zF ?_ GE444.out)|exact HB.out)));(case side2=>exact HC0.out);rintro e w249 ⟨rfl,hb⟩;refine ⟨_,rfl,?_⟩;have n0_:=Zk (zT (by (with_reducible repeat (first|apply zN|apply zO|apply zQ));exact (zU (zV (p:=⟨gb444,2,none⟩) (zV (p:=⟨gb444,1,none⟩) (zV (p:=⟨gb444,0,none⟩) (zU HO_5.out (fun k_ hk=>(⟨hk,hk.2⟩:_∧k_≠gb444))) (fun _ hk=>hk.2) (.int .i64 t440)) (fun _ hk=>hk.2) (.int .i64 t441)) (fun _ hk=>hk.2) (.bool t442)) (fun _ h_=>h_.1))) hb);have n1_:=Zk (zT (by (with_reducible repeat (first|apply zN|apply zO|apply zQ));exact (zU (zV (p:=⟨gb444,2,none⟩) (zV (p:=⟨gb444,1,none⟩) (zV (p:=⟨gb444,0,none⟩) (zU HO438.out (fun k_ hk=>(⟨hk,hk.2⟩:_∧k_≠gb444))) (fun _ hk=>hk.2) (.int .i64 t440)) (fun _ hk=>hk.2) (.int .i64 t441)) (fun _ hk=>hk.2) (.bool t442)) (fun _ h_=>h_.1))) hb);have n2_:=Zk (zK (g:=gb410) (o:=.cells #[.int .i64 a1_0,.int .i64 a1_1,.bool a1_2] 36 (0,0)) (by (with_reducible repeat (first|refine zB ?_ _|refine zD ?_|refine zA ?_ _));refine zP ?_ NB410_444.out _;(with_reducible repeat (first|refine zB ?_ _|refine zD ?_|refine zA ?_ _));refine zP ?_ NB410_444.out _;(with_reducible repeat (first|refine zB ?_ _|refine zD ?_|refine zA ?_ _));refine zP ?_ NB410_444.out _;(with_reducible repeat (first|refine zB ?_ _|refine zD ?_|refine zA ?_ _));exact BK410.out) hb);have n3_:=Zk (zK (g:=gb424) (o:=.cells #[.int .i64 t420,.int .i64 t421,.bool t422] 36 (0,0)) (by (with_reducible repeat (first|refine zB ?_ _|refine zD ?_|refine zA ?_ _));refine zP ?_ NB424_444.out _;(with_reducible repeat (first|refine zB ?_ _|refine zD ?_|refine zA ?_ _));refine zP ?_ NB424_444.out _;(with_reducible repeat (first|refine zB ?_ _|refine zD ?_|refine zA ?_ _));refine zP ?_ NB424_444.out _;(with_reducible repeat (first|refine zB ?_ _|refine zD ?_|refine zA ?_ _));exact BK424.out) hb);have n4_:=Zk (zK (g:=gb444) (o:=.cells #[.int .i64 t440,.int .i64 t441,.bool t442] 36 (0,0)) (by (with_reducible repeat (first|refine zB ?_ _|refine zD ?_|refine zA ?_ _));refine zS (cs:=#[.int .i64 t440,.int .i64 t441,.bool false]) ?_ 2 _ rfl;(with_reducible repeat (first|refine zB ?_ _|refine zD ?_|refine zA ?_ _));refine zS (cs:=#[.int .i64 t440,.int .i64 0,.bool false]) ?_ 1 _ rfl;(with_reducible repeat (first|refine zB ?_ _|refine zD ?_|refine zA ?_ _));refine zS (cs:=#[.int .i64 0,.int .i64 0,.bool false]) ?_ 0 _ rfl;(with_reducible repeat (first|refine zB ?_ _|refine zD ?_|refine zA ?_ _));exact BK444.out) hb);have n5_:=Zk (zL (by repeat (first|(with_reducible first|exact HB.out|apply zG|apply zC|apply zH|refine zF ?_ GE410.out|refine zF ?_ GE424.out|refine zF ?_ GE444.out)|exact HB.out)) hb);clear HO_5;clear HO438;clear BK410;clear BK424;clear BK444;clear HB;have HO_5:=n0_;have HO438:=n1_;have BK410:=n2_;have BK424:=n3_;have BK444:=n4_;have HB:=n5_;clear n0_ n1_ n2_ n3_ n4_ n5_;(try clear hb);(try clear hb2);(try clear hk);(try clear hi);obtain ⟨Ao250,co250,eo250⟩:=V_slice HO438.out;subst eo250)|(go_at_call 18;(with_reducible refine (fdtab_Valid.calls k3 _ _ t436 t447 _ ?side1 ?side2 A99.out).mono ?_);(case side1=>repeat (first|exact (zY HO438.out).2.2|(with_reducible refine yC ?_ _)|(with_reducible refine yD ?_ _)|(with_reducible refine C_drew ?_)));(case side2=>exact (zY HO438.out).2.1);rintro e w251 ⟨rfl,hb⟩;have n0_:=Zk (zT (by (with_reducible repeat (first|apply zN|apply zO|apply zQ));exact HO_5.out) hb);have n1_:=Zk (zT (by (with_reducible repeat (first|apply zN|apply zO|apply zQ));exact HO438.out) hb);have n2_:=Zk (zK (g:=gb410) (o:=.cells #[.int .i64 a1_0,.int .i64 a1_1,.bool a1_2] 36 (0,0)) (by (with_reducible repeat (first|refine zB ?_ _|refine zD ?_|refine zA ?_ _));exact BK410.out) hb);have n3_:=Zk (zK (g:=gb424) (o:=.cells #[.int .i64 t420,.int .i64 t421,.bool t422] 36 (0,0)) (by (with_reducible repeat (first|refine zB ?_ _|refine zD ?_|refine zA ?_ _));exact BK424.out) hb);have n4_:=Zk (zK (g:=gb444) (o:=.cells #[.int .i64 t440,.int .i64 t441,.bool t442] 36 (0,0)) (by (with_reducible repeat (first|refine zB ?_ _|refine zD ?_|refine zA ?_ _));exact BK444.out) hb);have n5_:=Zk (zL (by repeat (first|(with_reducible first|exact HB.out|apply zG|apply zC|apply zH|refine zF ?_ GE410.out|refine zF ?_ GE424.out|refine zF ?_ GE444.out)|exact HB.out)) hb);clear HO_5;clear HO438;clear BK410;clear BK424;clear BK444;clear HB;have HO_5:=n0_;have HO438:=n1_;have BK410:=n2_;have BK424:=n3_;have BK444:=n4_;have HB:=n5_;clear n0_ n1_ n2_ n3_ n4_ n5_;(try clear hb);(try clear hb2);(try clear hk);(try clear hi)))
             go_ret
             exact ⟨by first|rfl|(simp [errW_none,errW_some] <;> rfl)|(simp [*,errW_none,errW_some] <;> rfl),by repeat (first|(with_reducible first|exact HB.out|apply zG|apply zC|apply zH|refine zF ?_ GE410.out|refine zF ?_ GE424.out|refine zF ?_ GE444.out)|exact HB.out)⟩
           ·rw [if_neg c98] at H
            have c98b0:(t439 == 0)=false:=beq_eq_false_iff_ne.mpr c98
            have c98b1:(t439 != 0)=true:=bne_iff_ne.mpr c98
            obtain rfl:=Option.some.inj H
            have hnb252:=NB410_424.out
            have hnc252:=NB424_410.out
            have hcz253_0:wr.cell? ⟨gb410,0,none⟩=some (.int .i64 a1_0):=(zJ BK410.out 0).trans rfl
            have hcz253_1:wr.cell? ⟨gb410,1,none⟩=some (.int .i64 a1_1):=(zJ BK410.out 1).trans rfl
            have hcz253_2:wr.cell? ⟨gb410,2,none⟩=some (.bool a1_2):=(zJ BK410.out 2).trans rfl
            have hfz253_0:=zI BK410.out 0
            have hfz253_1:=zI BK410.out 1
            have hfz253_2:=zI BK410.out 2
            go_wp2_with (first|((with_reducible refine zW (f:=26) rfl ?_);refine yF (some 96) rfl rfl Try.func26 (by kernel_rfl) rfl #[.slice Ao19 t414.length co19,.int .i64 a1_0] rfl (by (try simp only [List.map_toArray,List.map_cons,List.map_nil]);first|done|rfl|(simp only [List.length_drop,List.length_take];rfl)) ?_;(with_reducible refine (fdtab_Drop.calls (fun k_=>(k_≠gb410∧k_≠gb424)) _ _ t414 a1_0 t436 t439 _ ?side1 A95.out).mono ?_);(case side1=>exact HO_5.out);rintro e w254 ⟨v437,rfl,ho0,hb⟩;refine ⟨_,rfl,?_⟩;have n0_:=Zk (zT (by (with_reducible repeat (first|apply zN|apply zO|apply zQ));exact HO_5.out) hb);have n1_:=Zk (V_lower (zU (ok':=fun k_=>k_≠gb410∧k_≠gb424) ho0 (fun k_ hk_=>⟨Or.elim hk_ (fun hs_=>hs_.1) (fun hn_=>(Kd.freshB (g:=gb410) (o:=.cells #[.int .i64 a1_0,.int .i64 a1_1,.bool a1_2] 36 (0,0)) (by (with_reducible repeat (first|refine zB ?_ _|refine zD ?_|refine zA ?_ _));exact BK410.out) k_ hn_)),Or.elim hk_ (fun hs_=>hs_.2) (fun hn_=>(Kd.freshB (g:=gb424) (o:=.cells #[.int .i64 t420,.int .i64 t421,.bool t422] 36 (0,0)) (by (with_reducible repeat (first|refine zB ?_ _|refine zD ?_|refine zA ?_ _));exact BK424.out) k_ hn_))⟩)) (zM (by repeat (first|(with_reducible first|exact HB.out|apply zG|apply zC|apply zH|refine zF ?_ GE410.out|refine zF ?_ GE424.out)|exact HB.out))));have n2_:=Zk (zK (g:=gb410) (o:=.cells #[.int .i64 a1_0,.int .i64 a1_1,.bool a1_2] 36 (0,0)) (by (with_reducible repeat (first|refine zB ?_ _|refine zD ?_|refine zA ?_ _));exact BK410.out) hb);have n3_:=Zk (zK (g:=gb424) (o:=.cells #[.int .i64 t420,.int .i64 t421,.bool t422] 36 (0,0)) (by (with_reducible repeat (first|refine zB ?_ _|refine zD ?_|refine zA ?_ _));exact BK424.out) hb);have n4_:=Zk (zL (by repeat (first|(with_reducible first|exact HB.out|apply zG|apply zC|apply zH|refine zF ?_ GE410.out|refine zF ?_ GE424.out)|exact HB.out)) hb);clear HO_5;clear BK410;clear BK424;clear HB;have HO_5:=n0_;have HO438:=n1_;have BK410:=n2_;have BK424:=n3_;have HB:=n4_;clear n0_ n1_ n2_ n3_ n4_;(try clear hb);(try clear hb2);(try clear hk);(try clear hi);(try clear ho0);have hcz255_0:w254.cell? ⟨gb410,0,none⟩=some (.int .i64 a1_0):=(zJ BK410.out 0).trans rfl;have hcz255_1:w254.cell? ⟨gb410,1,none⟩=some (.int .i64 a1_1):=(zJ BK410.out 1).trans rfl;have hcz255_2:w254.cell? ⟨gb410,2,none⟩=some (.bool a1_2):=(zJ BK410.out 2).trans rfl;have hfz255_0:=zI BK410.out 0;have hfz255_1:=zI BK410.out 1;have hfz255_2:=zI BK410.out 2)|((with_reducible refine zW (f:=14) rfl ?_);refine yF (some 103) rfl rfl Try.func14 (by kernel_rfl) rfl #[.slice A0 l0.length c0,.int .i64 a1_0] rfl (by (try simp only [List.map_toArray,List.map_cons,List.map_nil]);first|done|rfl|(simp only [List.length_drop,List.length_take];rfl)) ?_;(with_reducible refine (fdtab_Get.calls _ _ l0 a1_0 t440 t441 t442 t443 _ ?side1 ?side2 A96.out).mono ?_);(case side1=>repeat (first|exact (C_below HR0.out HB.out)|(with_reducible refine yC ?_ _)|(with_reducible refine yD ?_ _)|(with_reducible refine C_drew ?_)));(case side2=>exact HC0.out);rintro e w256 ⟨rfl,hb⟩;refine ⟨_,rfl,?_⟩;have n0_:=Zk (zT (by (with_reducible repeat (first|apply zN|apply zO|apply zQ));exact HO_5.out) hb);have n1_:=Zk (zT (by (with_reducible repeat (first|apply zN|apply zO|apply zQ));exact HO438.out) hb);have n2_:=Zk (zK (g:=gb410) (o:=.cells #[.int .i64 a1_0,.int .i64 a1_1,.bool a1_2] 36 (0,0)) (by (with_reducible repeat (first|refine zB ?_ _|refine zD ?_|refine zA ?_ _));exact BK410.out) hb);have n3_:=Zk (zK (g:=gb424) (o:=.cells #[.int .i64 t420,.int .i64 t421,.bool t422] 36 (0,0)) (by (with_reducible repeat (first|refine zB ?_ _|refine zD ?_|refine zA ?_ _));exact BK424.out) hb);have n4_:=Zk (zL (by repeat (first|(with_reducible first|exact HB.out|apply zG|apply zC|apply zH|refine zF ?_ GE410.out|refine zF ?_ GE424.out)|exact HB.out)) hb);clear HO_5;clear HO438;clear BK410;clear BK424;clear HB;have HO_5:=n0_;have HO438:=n1_;have BK410:=n2_;have BK424:=n3_;have HB:=n4_;clear n0_ n1_ n2_ n3_ n4_;(try clear hb);(try clear hb2);(try clear hk);(try clear hi))|((with_reducible refine yE (N:=16) rfl ?_);refine yG ?hg (N:=16) ?hd (cs:=#[.int .i64 0,.int .i64 0,.bool false]) (t:=36) ?hr ?_;(case hd=>rfl);(case hg=>rfl);(case hr=>first|(go_simp;done)|(go_simp;rfl));intro gb444 hg w257 hbox hb;have n0_:=Zk (zT (V_elderB (by (with_reducible repeat (first|apply zN|apply zO|apply zQ));exact HO_5.out) gb444 (Nat.le_of_eq hg.symm)) hb);have n1_:=Zk (zT (V_elderB (by (with_reducible repeat (first|apply zN|apply zO|apply zQ));exact HO438.out) gb444 (Nat.le_of_eq hg.symm)) hb);have n2_:=Zk (zK (g:=gb410) (o:=.cells #[.int .i64 a1_0,.int .i64 a1_1,.bool a1_2] 36 (0,0)) (by (with_reducible repeat (first|refine zB ?_ _|refine zD ?_|refine zA ?_ _));exact BK410.out) hb);have n3_:=Zk (zK (g:=gb424) (o:=.cells #[.int .i64 t420,.int .i64 t421,.bool t422] 36 (0,0)) (by (with_reducible repeat (first|refine zB ?_ _|refine zD ?_|refine zA ?_ _));exact BK424.out) hb);have n4_:=Zk (zL (by repeat (first|(with_reducible first|exact HB.out|apply zG|apply zC|apply zH|refine zF ?_ GE410.out|refine zF ?_ GE424.out)|exact HB.out)) hb);have n5_:=Zk (hbox);have n6_:=Zk ((by rw [hg];exact (zM (by repeat (first|(with_reducible first|exact HB.out|apply zG|apply zC|apply zH|refine zF ?_ GE410.out|refine zF ?_ GE424.out)|exact HB.out))):w.heap.size≤gb444));have n7_:=Zk ((by rw [hg];exact (zM (by repeat (first|(with_reducible first|exact HB.out|apply zG|apply zC|apply zH|refine zF ?_ GE410.out|refine zF ?_ GE424.out)|exact HB.out))):w.heap.size≤gb444));have n8_:=Zk ((by rw [hg];exact Nat.ne_of_lt (zX (g:=gb410) (o:=.cells #[.int .i64 a1_0,.int .i64 a1_1,.bool a1_2] 36 (0,0)) (by (with_reducible repeat (first|refine zB ?_ _|refine zD ?_|refine zA ?_ _));exact BK410.out)):gb410≠gb444));have n9_:=Zk ((by rw [hg];exact Nat.ne_of_gt (zX (g:=gb410) (o:=.cells #[.int .i64 a1_0,.int .i64 a1_1,.bool a1_2] 36 (0,0)) (by (with_reducible repeat (first|refine zB ?_ _|refine zD ?_|refine zA ?_ _));exact BK410.out)):gb444≠gb410));have n10_:=Zk ((by rw [hg];exact Nat.ne_of_lt (zX (g:=gb424) (o:=.cells #[.int .i64 t420,.int .i64 t421,.bool t422] 36 (0,0)) (by (with_reducible repeat (first|refine zB ?_ _|refine zD ?_|refine zA ?_ _));exact BK424.out)):gb424≠gb444));have n11_:=Zk ((by rw [hg];exact Nat.ne_of_gt (zX (g:=gb424) (o:=.cells #[.int .i64 t420,.int .i64 t421,.bool t422] 36 (0,0)) (by (with_reducible repeat (first|refine zB ?_ _|refine zD ?_|refine zA ?_ _));exact BK424.out)):gb444≠gb424));clear HO_5;clear HO438;clear BK410;clear BK424;clear HB;have HO_5:=n0_;have HO438:=n1_;have BK410:=n2_;have BK424:=n3_;have HB:=n4_;have BK444:=n5_;have GW444:=n6_;have GE444:=n7_;have NB410_444:=n8_;have NB444_410:=n9_;have NB424_444:=n10_;have NB444_424:=n11_;clear n0_ n1_ n2_ n3_ n4_ n5_ n6_ n7_ n8_ n9_ n10_ n11_;clear hb hbox hg;have hnb258:=NB444_410.out;have hnc258:=NB410_444.out;have hnb259:=NB444_424.out;have hnc259:=NB424_444.out;have hcz260_0:w257.cell? ⟨gb444,0,none⟩=some (.int .i64 0):=(zJ BK444.out 0).trans rfl;have hcz260_1:w257.cell? ⟨gb444,1,none⟩=some (.int .i64 0):=(zJ BK444.out 1).trans rfl;have hcz260_2:w257.cell? ⟨gb444,2,none⟩=some (.bool false):=(zJ BK444.out 2).trans rfl;have hfz260_0:=zI BK444.out 0;have hfz260_1:=zI BK444.out 1;have hfz260_2:=zI BK444.out 2;have hcz261_0:w257.cell? ⟨gb410,0,none⟩=some (.int .i64 a1_0):=(zJ BK410.out 0).trans rfl;have hcz261_1:w257.cell? ⟨gb410,1,none⟩=some (.int .i64 a1_1):=(zJ BK410.out 1).trans rfl;have hcz261_2:w257.cell? ⟨gb410,2,none⟩=some (.bool a1_2):=(zJ BK410.out 2).trans rfl;have hfz261_0:=zI BK410.out 0;have hfz261_1:=zI BK410.out 1;have hfz261_2:=zI BK410.out 2)|((with_reducible refine zW (f:=16) rfl ?_);refine yF (some 110) rfl rfl Try.func16 (by kernel_rfl) rfl #[.slice A0 l0.length c0,.int .i64 a1_0] rfl (by (try simp only [List.map_toArray,List.map_cons,List.map_nil]);first|done|rfl|(simp only [List.length_drop,List.length_take];rfl)) ?_;(with_reducible refine (fdtab_Free.calls k3 _ _ l0 a1_0 t445 t446 _ ?side1 ?side2 A97.out).mono ?_);(case side1=>exact C_below HR0.out (by repeat (first|(with_reducible first|exact HB.out|apply zG|apply zC|apply zH|refine zF ?_ GE410.out|refine zF ?_ GE424.out|refine zF ?_ GE444.out)|exact HB.out)));(case side2=>exact HC0.out);rintro e w262 ⟨rfl,hb⟩;refine ⟨_,rfl,?_⟩;have n0_:=Zk (zT (by (with_reducible repeat (first|apply zN|apply zO|apply zQ));exact (zU (zV (p:=⟨gb444,2,none⟩) (zV (p:=⟨gb444,1,none⟩) (zV (p:=⟨gb444,0,none⟩) (zU HO_5.out (fun k_ hk=>(⟨hk,hk.2⟩:_∧k_≠gb444))) (fun _ hk=>hk.2) (.int .i64 t440)) (fun _ hk=>hk.2) (.int .i64 t441)) (fun _ hk=>hk.2) (.bool t442)) (fun _ h_=>h_.1))) hb);have n1_:=Zk (zT (by (with_reducible repeat (first|apply zN|apply zO|apply zQ));exact (zU (zV (p:=⟨gb444,2,none⟩) (zV (p:=⟨gb444,1,none⟩) (zV (p:=⟨gb444,0,none⟩) (zU HO438.out (fun k_ hk=>(⟨hk,hk.2⟩:_∧k_≠gb444))) (fun _ hk=>hk.2) (.int .i64 t440)) (fun _ hk=>hk.2) (.int .i64 t441)) (fun _ hk=>hk.2) (.bool t442)) (fun _ h_=>h_.1))) hb);have n2_:=Zk (zK (g:=gb410) (o:=.cells #[.int .i64 a1_0,.int .i64 a1_1,.bool a1_2] 36 (0,0)) (by (with_reducible repeat (first|refine zB ?_ _|refine zD ?_|refine zA ?_ _));refine zP ?_ NB410_444.out _;(with_reducible repeat (first|refine zB ?_ _|refine zD ?_|refine zA ?_ _));refine zP ?_ NB410_444.out _;(with_reducible repeat (first|refine zB ?_ _|refine zD ?_|refine zA ?_ _));refine zP ?_ NB410_444.out _;(with_reducible repeat (first|refine zB ?_ _|refine zD ?_|refine zA ?_ _));exact BK410.out) hb);have n3_:=Zk (zK (g:=gb424) (o:=.cells #[.int .i64 t420,.int .i64 t421,.bool t422] 36 (0,0)) (by (with_reducible repeat (first|refine zB ?_ _|refine zD ?_|refine zA ?_ _));refine zP ?_ NB424_444.out _;(with_reducible repeat (first|refine zB ?_ _|refine zD ?_|refine zA ?_ _));refine zP ?_ NB424_444.out _;(with_reducible repeat (first|refine zB ?_ _|refine zD ?_|refine zA ?_ _));refine zP ?_ NB424_444.out _;(with_reducible repeat (first|refine zB ?_ _|refine zD ?_|refine zA ?_ _));exact BK424.out) hb);have n4_:=Zk (zK (g:=gb444) (o:=.cells #[.int .i64 t440,.int .i64 t441,.bool t442] 36 (0,0)) (by (with_reducible repeat (first|refine zB ?_ _|refine zD ?_|refine zA ?_ _));refine zS (cs:=#[.int .i64 t440,.int .i64 t441,.bool false]) ?_ 2 _ rfl;(with_reducible repeat (first|refine zB ?_ _|refine zD ?_|refine zA ?_ _));refine zS (cs:=#[.int .i64 t440,.int .i64 0,.bool false]) ?_ 1 _ rfl;(with_reducible repeat (first|refine zB ?_ _|refine zD ?_|refine zA ?_ _));refine zS (cs:=#[.int .i64 0,.int .i64 0,.bool false]) ?_ 0 _ rfl;(with_reducible repeat (first|refine zB ?_ _|refine zD ?_|refine zA ?_ _));exact BK444.out) hb);have n5_:=Zk (zL (by repeat (first|(with_reducible first|exact HB.out|apply zG|apply zC|apply zH|refine zF ?_ GE410.out|refine zF ?_ GE424.out|refine zF ?_ GE444.out)|exact HB.out)) hb);clear HO_5;clear HO438;clear BK410;clear BK424;clear BK444;clear HB;have HO_5:=n0_;have HO438:=n1_;have BK410:=n2_;have BK424:=n3_;have BK444:=n4_;have HB:=n5_;clear n0_ n1_ n2_ n3_ n4_ n5_;(try clear hb);(try clear hb2);(try clear hk);(try clear hi)))
            go_ret
            exact ⟨by first|rfl|(simp [errW_none,errW_some] <;> rfl)|(simp [*,errW_none,errW_some] <;> rfl),by repeat (first|(with_reducible first|exact HB.out|apply zG|apply zC|apply zH|refine zF ?_ GE410.out|refine zF ?_ GE424.out|refine zF ?_ GE444.out)|exact HB.out)⟩
    ·rw [if_neg c13] at H
     have c13b0:(t417 == 0)=false:=beq_eq_false_iff_ne.mpr c13
     have c13b1:(t417 != 0)=true:=bne_iff_ne.mpr c13
     replace H:=Option.bind_eq_some_iff.mp H
     obtain ⟨t418,A2630,H⟩:=H
     replace H:(if t418=true then ((jobshelllaw23_awake.f kj2).bind fun t419=>(some t419)) else (some false))=some r:=H
     have A263:=Zk A2630
     clear A2630
     by_cases c264:t418=true
     ·subst c264
      have H1:((jobshelllaw23_awake.f kj2).bind fun t419=>(some t419))=some r:=by rw [if_pos rfl] at H;exact H
      clear H
      have H:=H1
      clear H1
      replace H:=Option.bind_eq_some_iff.mp H
      obtain ⟨t419,A2650,H⟩:=H
      replace H:(some t419)=some r:=H
      have A265:=Zk A2650
      clear A2650
      obtain rfl:=Option.some.inj H
      have hcz266_0:wc.cell? ⟨gb410,0,none⟩=some (.int .i64 a1_0):=(zJ BK410.out 0).trans rfl
      have hcz266_1:wc.cell? ⟨gb410,1,none⟩=some (.int .i64 a1_1):=(zJ BK410.out 1).trans rfl
      have hcz266_2:wc.cell? ⟨gb410,2,none⟩=some (.bool a1_2):=(zJ BK410.out 2).trans rfl
      have hfz266_0:=zI BK410.out 0
      have hfz266_1:=zI BK410.out 1
      have hfz266_2:=zI BK410.out 2
      go_wp2_with (first|((with_reducible refine zW (f:=24) rfl ?_);refine yF (some 32) rfl rfl Try.func24 (by kernel_rfl) rfl #[.slice A0 l0.length c0,.agg #[.int .i64 a1_0,.int .i64 a1_1,.bool a1_2]] rfl (by (try simp only [List.map_toArray,List.map_cons,List.map_nil]);first|done|rfl|(simp only [List.length_drop,List.length_take];rfl)) ?_;(with_reducible refine (fdtab_Put.calls kj2 (fun k_=>k_ < w.heap.size) _ _ l0 a1_0 a1_1 a1_2 t414 t417 _ ?side1 A12.out).mono ?_);(case side1=>exact V_mk HC0.out (Kd.F_below (C_F k36_heap HR0.out) (by repeat (first|(with_reducible first|exact HB.out|apply zG|apply zC|apply zH|refine zF ?_ GE410.out)|exact HB.out))));rintro e w267 ⟨v415,rfl,ho0,hb⟩;refine ⟨_,rfl,?_⟩;have n0_:=Zk (V_lower (zU (ok':=fun k_=>k_≠gb410) ho0 (fun k_ hk_=>Or.elim hk_ (fun hs_=>fun e_=>Nat.not_le.2 hs_ (by rw [e_];exact GW410.out)) (fun hn_=>(Kd.freshB (g:=gb410) (o:=.cells #[.int .i64 a1_0,.int .i64 a1_1,.bool a1_2] 36 (0,0)) (by (with_reducible repeat (first|refine zB ?_ _|refine zD ?_|refine zA ?_ _));exact BK410.out) k_ hn_)))) (zM (by repeat (first|(with_reducible first|exact HB.out|apply zG|apply zC|apply zH|refine zF ?_ GE410.out)|exact HB.out))));have n1_:=Zk (zK (g:=gb410) (o:=.cells #[.int .i64 a1_0,.int .i64 a1_1,.bool a1_2] 36 (0,0)) (by (with_reducible repeat (first|refine zB ?_ _|refine zD ?_|refine zA ?_ _));exact BK410.out) hb);have n2_:=Zk (zL (by repeat (first|(with_reducible first|exact HB.out|apply zG|apply zC|apply zH|refine zF ?_ GE410.out)|exact HB.out)) hb);clear BK410;clear HB;have HO416:=n0_;have BK410:=n1_;have HB:=n2_;clear n0_ n1_ n2_;(try clear hb);(try clear hb2);(try clear hk);(try clear hi);(try clear ho0);obtain ⟨Ao268,co268,eo268⟩:=V_slice HO416.out;subst eo268)|((with_reducible refine zW (f:=30) rfl ?_);refine yF (some 39) rfl rfl Try.func30 (by kernel_rfl) rfl #[.slice Ao268 t414.length co268,.slice A0 l0.length c0] rfl (by (try simp only [List.map_toArray,List.map_cons,List.map_nil]);first|done|rfl|(simp only [List.length_drop,List.length_take];rfl)) ?_;(with_reducible refine (jobshellref23_Same.calls kj2 _ _ t414 _ _ l0 true _ ?side1 ?side2 ?side3 ?side4 A263.out).mono ?_);(case side1=>repeat (first|exact (zY HO416.out).2.2|(with_reducible refine yC ?_ _)|(with_reducible refine yD ?_ _)|(with_reducible refine C_drew ?_)));(case side2=>exact (zY HO416.out).2.1);(case side3=>repeat (first|exact (C_below HR0.out HB.out)|(with_reducible refine yC ?_ _)|(with_reducible refine yD ?_ _)|(with_reducible refine C_drew ?_)));(case side4=>exact HC0.out);rintro e w' ⟨rfl,⟨nd,rfl⟩⟩;refine ⟨_,rfl,?_⟩)|(go_at_call 10;(with_reducible refine (jobshelllaw23_awake.calls kj2  t419 _ A265.out).mono ?_);rintro e w269 ⟨rfl,hb⟩;have n0_:=Zk (zT (by (with_reducible repeat (first|apply zN|apply zO|apply zQ));exact HO416.out) hb);have n1_:=Zk (zK (g:=gb410) (o:=.cells #[.int .i64 a1_0,.int .i64 a1_1,.bool a1_2] 36 (0,0)) (by (with_reducible repeat (first|refine zB ?_ _|refine zD ?_|refine zA ?_ _));exact BK410.out) hb);have n2_:=Zk (zL (by repeat (first|(with_reducible first|exact HB.out|apply zG|apply zC|apply zH|refine zF ?_ GE410.out)|exact HB.out)) hb);clear HO416;clear BK410;clear HB;have HO416:=n0_;have BK410:=n1_;have HB:=n2_;clear n0_ n1_ n2_;(try clear hb);(try clear hb2);(try clear hk);(try clear hi)))
      go_ret
      exact ⟨by first|rfl|(simp [errW_none,errW_some] <;> rfl)|(simp [*,errW_none,errW_some] <;> rfl),by repeat (first|(with_reducible first|exact HB.out|apply zG|apply zC|apply zH|refine zF ?_ GE410.out)|exact HB.out)⟩
     ·replace c264:=Bool.eq_false_iff.mpr c264
      subst c264
      have H1:(some false)=some r:=by rw [if_neg (show ¬ (false=true) by decide)] at H;exact H
      clear H
      have H:=H1
      clear H1
      obtain rfl:=Option.some.inj H
      have hcz270_0:wc.cell? ⟨gb410,0,none⟩=some (.int .i64 a1_0):=(zJ BK410.out 0).trans rfl
      have hcz270_1:wc.cell? ⟨gb410,1,none⟩=some (.int .i64 a1_1):=(zJ BK410.out 1).trans rfl
      have hcz270_2:wc.cell? ⟨gb410,2,none⟩=some (.bool a1_2):=(zJ BK410.out 2).trans rfl
      have hfz270_0:=zI BK410.out 0
      have hfz270_1:=zI BK410.out 1
      have hfz270_2:=zI BK410.out 2
      go_wp2_with (first|((with_reducible refine zW (f:=24) rfl ?_);refine yF (some 32) rfl rfl Try.func24 (by kernel_rfl) rfl #[.slice A0 l0.length c0,.agg #[.int .i64 a1_0,.int .i64 a1_1,.bool a1_2]] rfl (by (try simp only [List.map_toArray,List.map_cons,List.map_nil]);first|done|rfl|(simp only [List.length_drop,List.length_take];rfl)) ?_;(with_reducible refine (fdtab_Put.calls kj2 (fun k_=>k_ < w.heap.size) _ _ l0 a1_0 a1_1 a1_2 t414 t417 _ ?side1 A12.out).mono ?_);(case side1=>exact V_mk HC0.out (Kd.F_below (C_F k36_heap HR0.out) (by repeat (first|(with_reducible first|exact HB.out|apply zG|apply zC|apply zH|refine zF ?_ GE410.out)|exact HB.out))));rintro e w271 ⟨v415,rfl,ho0,hb⟩;refine ⟨_,rfl,?_⟩;have n0_:=Zk (V_lower (zU (ok':=fun k_=>k_≠gb410) ho0 (fun k_ hk_=>Or.elim hk_ (fun hs_=>fun e_=>Nat.not_le.2 hs_ (by rw [e_];exact GW410.out)) (fun hn_=>(Kd.freshB (g:=gb410) (o:=.cells #[.int .i64 a1_0,.int .i64 a1_1,.bool a1_2] 36 (0,0)) (by (with_reducible repeat (first|refine zB ?_ _|refine zD ?_|refine zA ?_ _));exact BK410.out) k_ hn_)))) (zM (by repeat (first|(with_reducible first|exact HB.out|apply zG|apply zC|apply zH|refine zF ?_ GE410.out)|exact HB.out))));have n1_:=Zk (zK (g:=gb410) (o:=.cells #[.int .i64 a1_0,.int .i64 a1_1,.bool a1_2] 36 (0,0)) (by (with_reducible repeat (first|refine zB ?_ _|refine zD ?_|refine zA ?_ _));exact BK410.out) hb);have n2_:=Zk (zL (by repeat (first|(with_reducible first|exact HB.out|apply zG|apply zC|apply zH|refine zF ?_ GE410.out)|exact HB.out)) hb);clear BK410;clear HB;have HO416:=n0_;have BK410:=n1_;have HB:=n2_;clear n0_ n1_ n2_;(try clear hb);(try clear hb2);(try clear hk);(try clear hi);(try clear ho0);obtain ⟨Ao272,co272,eo272⟩:=V_slice HO416.out;subst eo272)|((with_reducible refine zW (f:=30) rfl ?_);refine yF (some 39) rfl rfl Try.func30 (by kernel_rfl) rfl #[.slice Ao272 t414.length co272,.slice A0 l0.length c0] rfl (by (try simp only [List.map_toArray,List.map_cons,List.map_nil]);first|done|rfl|(simp only [List.length_drop,List.length_take];rfl)) ?_;(with_reducible refine (jobshellref23_Same.calls kj2 _ _ t414 _ _ l0 false _ ?side1 ?side2 ?side3 ?side4 A263.out).mono ?_);(case side1=>repeat (first|exact (zY HO416.out).2.2|(with_reducible refine yC ?_ _)|(with_reducible refine yD ?_ _)|(with_reducible refine C_drew ?_)));(case side2=>exact (zY HO416.out).2.1);(case side3=>repeat (first|exact (C_below HR0.out HB.out)|(with_reducible refine yC ?_ _)|(with_reducible refine yD ?_ _)|(with_reducible refine C_drew ?_)));(case side4=>exact HC0.out);rintro e w' ⟨rfl,⟨nd,rfl⟩⟩;refine ⟨_,rfl,?_⟩))
      go_ret
      exact ⟨by first|rfl|(simp [errW_none,errW_some] <;> rfl)|(simp [*,errW_none,errW_some] <;> rfl),by repeat (first|(with_reducible first|exact HB.out|apply zG|apply zC|apply zH|refine zF ?_ GE410.out)|exact HB.out)⟩
end Go.Proofs.Ytpljggoogodhlaa.Q
end
section

namespace Go.Proofs.Ytpljggoogodhlaa.StFdtabStays
open Go.RowKit Go.Proofs.Ytpljggoogodhlaa.Q Go.Proofs.YtpljggoogodhlaaW.PrintWords Go.Proofs.YtpljggoogodhlaaW.PrintLast
def Ok36 (x:S36):Prop:=(Lit.int .i64 x.f0).wf=true∧(Lit.int .i64 x.f1).wf=true
def Pure:Prop:=∀ (l0:List (S36)) (a1_0:Int) (a1_1:Int) (a1_2:Bool),l0.length≤maxLen→l0.length * 24≤140737488351232→(∀ x ∈ l0,Ok36 x)→(Lit.int .i64 a1_0).wf=true→(Lit.int .i64 a1_1).wf=true→∃ k,jobshelllaw23_FdtabStays.f k l0 a1_0 a1_1 a1_2=some true
end Go.Proofs.Ytpljggoogodhlaa.StFdtabStays

end
section
namespace Go.Proofs.YtpljggoogodhlaaM
open Go Go.RowKit Go.Proofs.YtpljggoogodhlaaW.PrintWords
section
variable {α β:Type} {A B:Nat→Option α} {r:α} {c:Prop} [Decidable c]
theorem ev_pos (h:c) (k:Ev A r):Ev (fun n=>if c then A n else B n) r:=by
  obtain ⟨K,k⟩:=k
  exact ⟨K,fun n hn=>(if_pos h).trans (k n hn)⟩
theorem ev_neg (h:¬ c) (k:Ev B r):Ev (fun n=>if c then A n else B n) r:=by
  obtain ⟨K,k⟩:=k
  exact ⟨K,fun n hn=>(if_neg h).trans (k n hn)⟩
theorem ev_some {x:Option α} (h:x=some r):Ev (fun _=>x) r:=⟨0,fun _ _=>h⟩
theorem ev_bindc {x:Option β} {a:β} {f:Nat→β→Option α} (h:x=some a) (k:Ev (fun n=>f n a) r):Ev (fun n=>x.bind (f n)) r:=by
  obtain ⟨K,k⟩:=k
  exact ⟨K,fun n hn=>by show x.bind (f n)=some r;rw [h];exact k n hn⟩
theorem ev_eq {g:Nat→Option α} {r r':α} (h:Ev g r) (e:r=r'):Ev g r':=e ▸ h
end
theorem wrap_in {x:Int} (h0:-9223372036854775808≤x) (h1:x≤9223372036854775807):wrap64 x=x:=by
  unfold wrap64
  omega
end Go.Proofs.YtpljggoogodhlaaM

end
section
namespace Go.Proofs.Ytpljggoogodhlaa.La
open Go.RowKit Go.Proofs.Ytpljggoogodhlaa.Q Go.Proofs.YtpljggoogodhlaaW.PrintWords Go.Proofs.YtpljggoogodhlaaW.PrintLast Go.Proofs.YtpljggoogodhlaaM
def free (l:List S24) (i:Nat):Int:=idxP (fun x=>x.f0 == 0) (l.drop i) i
theorem short_fds (l:List S36) (h:l.length≤60):jobshelllaw23_short.f l ([]:List S24)=some true:=by
  unfold jobshelllaw23_short.f
  rw [if_pos (by omega)]
  simp
theorem long_fds (l:List S36) (h:¬ l.length≤60):jobshelllaw23_short.f l ([]:List S24)=some false:=by
  unfold jobshelllaw23_short.f
  rw [if_neg (by omega)]
theorem awake_ev:Ev (fun k=>jobshelllaw23_awake.f k) true:=Ev.of (fun k=>jobshelllaw23_awake.mono k) (k:=60) (by decide +kernel)
end Go.Proofs.Ytpljggoogodhlaa.La

end
section
namespace Go.Proofs.Ytpljggoogodhlaa.La
open Go.RowKit Go.Proofs.Ytpljggoogodhlaa.Q Go.Proofs.YtpljggoogodhlaaW.PrintWords Go.Proofs.YtpljggoogodhlaaW.PrintLast Go.Proofs.YtpljggoogodhlaaM
def chk (x:S36):Int:=if x.f0 < 0∨x.f0 ≥ 32 then 2 else if x.f1 < 0∨x.f1 ≥ 128 then 1 else 0
theorem chk_f (a b:Int) (c:Bool):Ev (fun k=>fdtab_check.f k a b c) (chk ⟨a,b,c⟩):=by
  unfold fdtab_check.f chk
  by_cases h0:a < 0
  · exact ev_eq (ev_pos h0 (Ev.step (fun k=>by apply fdtab_check.j0.eq_2) (ev_pos rfl (ev_some rfl)))) (by rw [if_pos (.inl h0)])
  · refine ev_neg h0 (Ev.step (fun k=>by apply fdtab_check.j0.eq_2) ?_)
    by_cases h1:a ≥ 32
    · exact ev_eq (ev_pos (decide_eq_true h1) (ev_some rfl)) (by rw [if_pos (.inr h1)])
    · refine ev_neg (by simpa using h1) ?_
      have hn:¬ (a < 0∨a ≥ 32):=by omega
      by_cases h2:b < 0
      · exact ev_eq (ev_pos h2 (ev_some rfl)) (by rw [if_neg hn,if_pos (.inl h2)])
      · refine ev_neg h2 ?_
        by_cases h3:b ≥ 128
        · exact ev_eq (ev_pos h3 (ev_some rfl)) (by rw [if_neg hn,if_pos (.inr h3)])
        · exact ev_eq (ev_neg h3 (ev_some rfl)) (by rw [if_neg hn,if_neg (by simp only;omega)])
theorem one_f (a b:Int) (c:Bool):Ev (fun k=>jobshellref23_one.f k a b c) (chk ⟨a,b,c⟩):=by
  unfold jobshellref23_one.f chk
  by_cases h0:a < 0
  · exact ev_eq (ev_pos h0 (Ev.step (fun k=>by apply jobshellref23_one.j0.eq_2) (ev_pos rfl (ev_some rfl)))) (by rw [if_pos (.inl h0)])
  · refine ev_neg h0 (Ev.step (fun k=>by apply jobshellref23_one.j0.eq_2) ?_)
    by_cases h1:a ≥ 32
    · exact ev_eq (ev_pos (decide_eq_true h1) (ev_some rfl)) (by rw [if_pos (.inr h1)])
    · refine ev_neg (by simpa using h1) ?_
      have hn:¬ (a < 0∨a ≥ 32):=by omega
      by_cases h2:b < 0
      · exact ev_eq (ev_pos h2 (ev_some rfl)) (by rw [if_neg hn,if_pos (.inl h2)])
      · refine ev_neg h2 ?_
        by_cases h3:b ≥ 128
        · exact ev_eq (ev_pos h3 (ev_some rfl)) (by rw [if_neg hn,if_pos (.inr h3)])
        · exact ev_eq (ev_neg h3 (ev_some rfl)) (by rw [if_neg hn,if_neg (by simp only;omega)])
def valFrom (l:List S36):Nat→Nat→Int
  |0,_=>0
  |m + 1,i=>if chk (l.getD i z36)=0 then (if 0 < i∧(l.getD i z36).f0≤(l.getD (i - 1) z36).f0 then 25 else valFrom l m (i + 1)) else chk (l.getD i z36)
theorem val_l0 (l:List S36) (hl:l.length≤1000):∀ (m i:Nat),i + m=l.length→Ev (fun k=>fdtab_Valid.l0 k l l (l.length:Int) (i:Int)) (valFrom l m i)
  |0,i,h=>Ev.step (fun k=>by apply fdtab_Valid.l0.eq_2) (ev_neg (by omega) (ev_some rfl))
  |m + 1,i,h=>by
    refine Ev.step (fun k=>by apply fdtab_Valid.l0.eq_2) ?_
    have hw:wrap64 ((i:Int) + 1)=((i + 1:Nat):Int):=by rw [wrap_in (by omega) (by omega)];omega
    have hr:rd_T36 l (i:Int)=l.getD i z36:=rfl
    refine ev_pos (by omega) (ev_pos (by omega) (ev_pos (by omega) ?_))
    rw [hr]
    refine Ev.bind (chk_f _ _ _) ?_
    have ih:=val_l0 l hl m (i + 1) (by omega)
    have ec:chk ⟨(l.getD i z36).f0,(l.getD i z36).f1,(l.getD i z36).f2⟩=chk (l.getD i z36):=rfl
    rw [ec]
    unfold valFrom
    by_cases h0:chk (l.getD i z36)=0
    · rw [if_pos h0]
      refine ev_pos h0 ?_
      by_cases hi:0 < i
      · have hw2:wrap64 ((i:Int) - 1)=((i - 1:Nat):Int):=by rw [wrap_in (by omega) (by omega)];omega
        have hr2:rd_T36 l ((i - 1:Nat):Int)=l.getD (i - 1) z36:=by unfold rd_T36;rw [Int.toNat_natCast]
        refine ev_pos (by omega) (ev_pos (by omega) (ev_pos (by omega) ?_))
        rw [hw2,hr2,hw]
        by_cases hle:(l.getD i z36).f0≤(l.getD (i - 1) z36).f0
        · exact ev_eq (ev_pos hle (ev_some rfl)) (by rw [if_pos ⟨hi,hle⟩])
        · exact ev_eq (ev_neg hle ih) (by rw [if_neg (fun h=>hle h.2)])
      · refine ev_neg (by omega) ?_
        rw [hw,if_neg (fun h=>hi h.1)]
        exact ih
    · rw [if_neg h0]
      exact ev_neg h0 (ev_some rfl)
theorem ref_val_l0 (l:List S36) (hl:l.length≤1000):∀ (m i:Nat),i + m=l.length→Ev (fun k=>jobshellref23_Valid.l0 k l (i:Int)) (valFrom l m i)
  |0,i,h=>Ev.step (fun k=>by apply jobshellref23_Valid.l0.eq_2) (ev_neg (by omega) (ev_some rfl))
  |m + 1,i,h=>by
    refine Ev.step (fun k=>by apply jobshellref23_Valid.l0.eq_2) ?_
    have hw:wrap64 ((i:Int) + 1)=((i + 1:Nat):Int):=by rw [wrap_in (by omega) (by omega)];omega
    have hr:rd_T36 l (i:Int)=l.getD i z36:=rfl
    refine ev_pos (by omega) (ev_pos (by omega) ?_)
    rw [hr]
    refine Ev.bind (one_f _ _ _) ?_
    have ih:=ref_val_l0 l hl m (i + 1) (by omega)
    have ec:chk ⟨(l.getD i z36).f0,(l.getD i z36).f1,(l.getD i z36).f2⟩=chk (l.getD i z36):=rfl
    rw [ec]
    unfold valFrom
    by_cases h0:chk (l.getD i z36)=0
    · rw [if_pos h0]
      refine ev_pos h0 ?_
      by_cases hi:0 < i
      · have hw2:wrap64 ((i:Int) - 1)=((i - 1:Nat):Int):=by rw [wrap_in (by omega) (by omega)];omega
        have hr2:rd_T36 l ((i - 1:Nat):Int)=l.getD (i - 1) z36:=by unfold rd_T36;rw [Int.toNat_natCast]
        refine ev_pos (by omega) (ev_pos (by omega) (ev_pos (by omega) ?_))
        rw [hw2,hr2,hw]
        by_cases hle:(l.getD i z36).f0≤(l.getD (i - 1) z36).f0
        · exact ev_eq (ev_pos hle (ev_some rfl)) (by rw [if_pos ⟨hi,hle⟩])
        · exact ev_eq (ev_neg hle ih) (by rw [if_neg (fun h=>hle h.2)])
      · refine ev_neg (by omega) ?_
        rw [hw,if_neg (fun h=>hi h.1)]
        exact ih
    · rw [if_neg h0]
      exact ev_neg h0 (ev_some rfl)
theorem val_f (l:List S36) (hl:l.length≤1000):Ev (fun k=>fdtab_Valid.f k l) (valFrom l l.length 0):=val_l0 l hl l.length 0 (by omega)
theorem ref_val_f (l:List S36) (hl:l.length≤1000):Ev (fun k=>jobshellref23_Valid.f k l) (valFrom l l.length 0):=ref_val_l0 l hl l.length 0 (by omega)
def at0 (l:List S36) (n:Int) (i:Nat):Int:=idxP (fun x=>x.f0 == n) (l.drop i) i
def getSpec (l:List S36) (n:Int) (i:Nat):Int × Int × Bool × Bool:=if 0≤at0 l n i then ((rd_T36 l (at0 l n i)).f0,(rd_T36 l (at0 l n i)).f1,(rd_T36 l (at0 l n i)).f2,true) else (0,0,false,false)
theorem at0_end (l:List S36) (n:Int) (i:Nat) (h:l.length≤i):at0 l n i=-1:=by unfold at0;rw [List.drop_eq_nil_of_le h];rfl
theorem at0_step (l:List S36) (n:Int) (i:Nat) (h:i < l.length):at0 l n i=if (l.getD i z36).f0=n then (i:Int) else at0 l n (i + 1):=by
  unfold at0
  rw [List.drop_eq_getElem_cons h,idxP,List.getD_eq_getElem?_getD,List.getElem?_eq_getElem h]
  simp only [Option.getD_some,beq_iff_eq]
theorem at0_lt (l:List S36) (n:Int):∀ (m i:Nat),i + m=l.length→at0 l n i < (l.length:Int)∧(0≤at0 l n i∨at0 l n i=-1)
  |0,i,h=>by rw [at0_end l n i (by omega)];omega
  |m + 1,i,h=>by
    rw [at0_step l n i (by omega)]
    split
    · omega
    · exact at0_lt l n m (i + 1) (by omega)
theorem get_f (l:List S36) (n:Int):fdtab_Get.f l n=some (getSpec l n 0):=by
  unfold fdtab_Get.f fdtab_index.f getSpec
  rw [Option.bind_some]
  have e:idxP (fun x:S36=>x.f0 == n) l 0=at0 l n 0:=rfl
  rw [e]
  have hb:=at0_lt l n l.length 0 (by omega)
  by_cases h:0≤at0 l n 0
  · rw [if_pos h,if_pos h,if_pos hb.1,if_pos h]
  · rw [if_neg h,if_neg h]
theorem get_used (l:List S36) (n:Int):(getSpec l n 0).2.2.2=decide (0≤at0 l n 0):=by
  unfold getSpec
  split
  · rename_i h;simp [h]
  · rename_i h;simp [h]
def freeFrom (l:List S36) (least:Int):Nat→Nat→Int × Bool
  |0,_=>(0,false)
  |m + 1,i=>if least≤(i:Int)∧at0 l (i:Int) 0 < 0 then ((i:Int),true) else freeFrom l least m (i + 1)
theorem free_l0 (l:List S36) (n:Int):∀ (m i:Nat),i + m=32→n≤(i:Int)→Ev (fun k=>fdtab_Free.l0 k l (i:Int)) (freeFrom l n m i)
  |0,i,h,_=>Ev.step (fun k=>by apply fdtab_Free.l0.eq_2) (ev_neg (by omega) (ev_some rfl))
  |m + 1,i,h,hn=>by
    refine Ev.step (fun k=>by apply fdtab_Free.l0.eq_2) ?_
    have hw:wrap64 ((i:Int) + 1)=((i + 1:Nat):Int):=by rw [wrap_in (by omega) (by omega)];omega
    refine ev_pos (by omega) (ev_bindc (show fdtab_index.f l (i:Int)=some (at0 l (i:Int) 0) from rfl) ?_)
    unfold freeFrom
    by_cases h1:at0 l (i:Int) 0 < 0
    · exact ev_eq (ev_pos h1 (ev_some rfl)) (by rw [if_pos ⟨hn,h1⟩])
    · refine ev_eq (ev_neg h1 (by rw [hw];exact free_l0 l n m (i + 1) (by omega) (by omega))) ?_
      rw [if_neg (fun h=>h1 h.2)]
theorem freeFrom_skip (l:List S36) (n:Int):∀ (d m i:Nat),(i:Int) + d≤n→i + (d + m)=32→freeFrom l n (d + m) i=freeFrom l n m (i + d)
  |0,m,i,_,_=>by rw [Nat.zero_add,Nat.add_zero]
  |d + 1,m,i,h,h2=>by
    have e:d + 1 + m=(d + m) + 1:=by omega
    rw [e,freeFrom,if_neg (fun h'=>by have:=h'.1;omega),freeFrom_skip l n d m (i + 1) (by omega) (by omega)]
    congr 1
    omega
theorem freeFrom_none (l:List S36) (n:Int):∀ (m i:Nat),((i + m:Nat):Int)≤n→freeFrom l n m i=(0,false)
  |0,_,_=>rfl
  |m + 1,i,h=>by
    rw [freeFrom,if_neg (fun h'=>by have:=h'.1;omega)]
    exact freeFrom_none l n m (i + 1) (by omega)
theorem free_f (l:List S36) (n:Int):Ev (fun k=>fdtab_Free.f k l n) (freeFrom l n 32 0):=by
  unfold fdtab_Free.f
  by_cases h0:n≤0
  · have e:mx n 0=((0:Nat):Int):=by unfold mx;split <;> omega
    rw [e]
    exact free_l0 l n 32 0 (by omega) (by omega)
  · have e:mx n 0=n:=by unfold mx;split <;> omega
    rw [e]
    by_cases h1:n≤32
    · obtain ⟨d,rfl⟩:=Int.eq_ofNat_of_zero_le (show 0≤n by omega)
      have hs:=freeFrom_skip l (d:Int) d (32 - d) 0 (by omega) (by omega)
      have e2:d + (32 - d)=32:=by omega
      rw [e2,Nat.zero_add] at hs
      rw [hs]
      exact free_l0 l (d:Int) (32 - d) d (by omega) (by omega)
    · refine ev_eq (Ev.step (fun k=>by apply fdtab_Free.l0.eq_2) (ev_neg (by omega) (ev_some rfl))) ?_
      rw [freeFrom_none l n 32 0 (by omega)]
end Go.Proofs.Ytpljggoogodhlaa.La

end
section
namespace Go.Proofs.Ytpljggoogodhlaa.La
open Go.RowKit Go.Proofs.Ytpljggoogodhlaa.Q Go.Proofs.YtpljggoogodhlaaW.PrintWords Go.Proofs.YtpljggoogodhlaaW.PrintLast Go.Proofs.YtpljggoogodhlaaM Go.Proofs.Ytpljggoogodhlaa.Ix
set_option linter.unusedVariables false
def OkT (l:List S36):Prop:=(∀ x ∈ l,chk x=0)∧l.Pairwise (fun x y=>x.f0 < y.f0)
def okAt (l:List S36) (j:Nat):Prop:=chk (l.getD j z36)=0∧(0 < j→(l.getD (j - 1) z36).f0 < (l.getD j z36).f0)
theorem val_iff (l:List S36):∀ (m i:Nat),i + m=l.length→(valFrom l m i=0↔∀ j,i≤j→j < l.length→okAt l j)
  |0,i,h=>⟨fun _ j h1 h2=>by omega,fun _=>rfl⟩
  |m + 1,i,h=>by
    have ih:=val_iff l m (i + 1) (by omega)
    have split_:(∀ j,i≤j→j < l.length→okAt l j)↔okAt l i∧∀ j,i + 1≤j→j < l.length→okAt l j:=by
      constructor
      · exact fun k=>⟨k i (Nat.le_refl _) (by omega),fun j h1 h2=>k j (by omega) h2⟩
      · intro k j h1 h2
        by_cases e:j=i
        · exact e ▸ k.1
        · exact k.2 j (by omega) h2
    rw [split_,← ih,valFrom]
    by_cases hc:chk (l.getD i z36)=0
    · rw [if_pos hc]
      by_cases h2:0 < i∧(l.getD i z36).f0≤(l.getD (i - 1) z36).f0
      · rw [if_pos h2]
        exact ⟨fun k=>by omega,fun k=>by have:=k.1.2 h2.1;omega⟩
      · rw [if_neg h2]
        exact ⟨fun k=>⟨⟨hc,fun h0=>by have:¬ _:=fun h3=>h2 ⟨h0,h3⟩;omega⟩,k⟩,fun k=>k.2⟩
    · rw [if_neg hc]
      exact ⟨fun k=>absurd k hc,fun k=>absurd k.1.1 hc⟩
theorem chain36 (l:List S36) (h:∀ j,0≤j→j < l.length→okAt l j):∀ (d i:Nat),i + (d + 1) < l.length→(l.getD i z36).f0 < (l.getD (i + (d + 1)) z36).f0
  |0,i,hi=>(h (i + 1) (Nat.zero_le _) hi).2 (by omega)
  |d + 1,i,hi=>by
    have h1:=chain36 l h d i (by omega)
    have h2:=(h (i + (d + 1 + 1)) (Nat.zero_le _) hi).2 (by omega)
    rw [show i + (d + 1 + 1) - 1=i + (d + 1) by omega] at h2
    omega
theorem getD_el {l:List S36} {i:Nat} (h:i < l.length):l.getD i z36=l[i]:=by rw [List.getD_eq_getElem?_getD,List.getElem?_eq_getElem h];rfl
theorem val_okT (l:List S36):valFrom l l.length 0=0↔OkT l:=by
  rw [val_iff l l.length 0 (by omega)]
  constructor
  · intro h
    refine ⟨fun x hx=>?_,?_⟩
    · obtain ⟨i,hi,rfl⟩:=List.getElem_of_mem hx
      rw [← getD_el hi]
      exact (h i (Nat.zero_le _) hi).1
    · rw [List.pairwise_iff_getElem]
      intro i j hi hj hij
      have:=chain36 l h (j - i - 1) i (by omega)
      rw [show i + (j - i - 1 + 1)=j by omega,getD_el hi,getD_el hj] at this
      exact this
  · intro h j _ hj
    have h2:=h.2
    rw [List.pairwise_iff_getElem] at h2
    refine ⟨by rw [getD_el hj];exact h.1 _ (List.getElem_mem hj),fun h0=>?_⟩
    have hj1:j - 1 < l.length:=by omega
    rw [getD_el hj1,getD_el hj]
    exact h2 (j - 1) j hj1 hj (by omega)
theorem key_inj:∀ {l:List S36},l.Pairwise (fun x y=>x.f0 < y.f0)→∀ {x y:S36},x ∈ l→y ∈ l→x.f0=y.f0→x=y
  |[],_,_,_,h,_,_=>by cases h
  |z :: t,hp,x,y,hx,hy,e=>by
    rw [List.pairwise_cons] at hp
    rcases List.mem_cons.1 hx with hx|hx <;> rcases List.mem_cons.1 hy with hy|hy
    · rw [hx,hy]
    · have:=hp.1 y hy;rw [hx] at e;omega
    · have:=hp.1 x hx;rw [hy] at e;omega
    · exact key_inj hp.2 hx hy e
theorem asc36:∀ {l m:List S36},l.Pairwise (fun x y=>x.f0 < y.f0)→m.Pairwise (fun x y=>x.f0 < y.f0)→(∀ x,x ∈ l↔x ∈ m)→l=m
  |[],[],_,_,_=>rfl
  |[],y :: m,_,_,h=>absurd ((h y).2 (List.mem_cons_self ..)) (by simp)
  |x :: l,[],_,_,h=>absurd ((h x).1 (List.mem_cons_self ..)) (by simp)
  |x :: l,y :: m,hl,hm,h=>by
    have hl':=hl
    have hm':=hm
    rw [List.pairwise_cons] at hl hm
    have e:x=y:=by
      rcases List.mem_cons.1 ((h x).1 (List.mem_cons_self ..)) with e|e
      · exact e
      · rcases List.mem_cons.1 ((h y).2 (List.mem_cons_self ..)) with e2|e2
        · exact e2.symm
        · have h1:=hm.1 x e
          have h2:=hl.1 y e2
          omega
    subst e
    congr 1
    refine asc36 hl.2 hm.2 (fun z=>?_)
    constructor
    · intro hz
      rcases List.mem_cons.1 ((h z).1 (List.mem_cons_of_mem _ hz)) with e|e
      · have:=hl.1 z hz;rw [e] at this;omega
      · exact e
    · intro hz
      rcases List.mem_cons.1 ((h z).2 (List.mem_cons_of_mem _ hz)) with e|e
      · have:=hm.1 z hz;rw [e] at this;omega
      · exact e
def fnd (l:List S36) (n:Int):Option S36:=l.find? (fun x=>x.f0 == n)
def outG:Option S36→Int × Int × Bool × Bool
  |some x=>(x.f0,x.f1,x.f2,true)
  |none=>(0,0,false,false)
theorem get_fnd (l:List S36) (n:Int):∀ (m i:Nat),i + m=l.length→getSpec l n i=outG (fnd (l.drop i) n)
  |0,i,h=>by
    unfold getSpec fnd
    rw [at0_end l n i (by omega),List.drop_eq_nil_of_le (by omega),if_neg (by omega)];rfl
  |m + 1,i,h=>by
    have hi:i < l.length:=by omega
    have hs:=at0_step l n i hi
    unfold fnd
    rw [List.drop_eq_getElem_cons hi,List.find?_cons]
    rw [getD_el hi] at hs
    by_cases h0:l[i].f0=n
    · rw [if_pos h0] at hs
      rw [beq_iff_eq.2 h0]
      unfold getSpec
      have hr:rd_T36 l (i:Int)=l[i]:=getD_el hi
      rw [hs,if_pos (by omega),hr]
      rfl
    · rw [if_neg h0] at hs
      rw [beq_eq_false_iff_ne.2 h0]
      have:=get_fnd l n m (i + 1) (by omega)
      unfold getSpec at this ⊢
      rw [hs]
      exact this
theorem get0 (l:List S36) (n:Int):getSpec l n 0=outG (fnd l n):=by
  have:=get_fnd l n l.length 0 (by omega)
  rwa [List.drop_zero] at this
theorem fnd_some {l:List S36} (h:OkT l) {n:Int} {x:S36}:fnd l n=some x↔x ∈ l∧x.f0=n:=by
  constructor
  · intro e
    exact ⟨List.mem_of_find?_eq_some e,by simpa using List.find?_some e⟩
  · intro e
    cases hf:fnd l n with
    |none=>
      have:=List.find?_eq_none.1 hf x e.1
      simp [e.2] at this
    |some y=>
      have hy:y ∈ l∧y.f0=n:=⟨List.mem_of_find?_eq_some hf,by simpa using List.find?_some hf⟩
      rw [key_inj h.2 hy.1 e.1 (hy.2.trans e.2.symm)]
theorem fnd_none {l:List S36} {n:Int}:fnd l n=none↔∀ x ∈ l,x.f0≠n:=by
  unfold fnd
  rw [List.find?_eq_none]
  exact ⟨fun h x hx e=>h x hx (by simpa using e),fun h x hx e=>h x hx (by simpa using e)⟩
def insL (l:List S36) (x:S36):List S36:=fdIns x (l.filter fun y=>!(y.f0 == x.f0))
theorem fdIns_mem (x y:S36):∀ (l:List S36),y ∈ fdIns x l↔y=x∨y ∈ l
  |[]=>by simp [fdIns]
  |z :: t=>by
    unfold fdIns
    split
    · rw [List.mem_cons,fdIns_mem x y t,List.mem_cons]
      exact ⟨fun h=>h.elim (fun h=>.inr (.inl h)) (fun h=>h.elim .inl (fun h=>.inr (.inr h))),fun h=>h.elim (fun h=>.inr (.inl h)) (fun h=>h.elim .inl (fun h=>.inr (.inr h)))⟩
    · rw [List.mem_cons]
theorem fdIns_asc (x:S36):∀ (l:List S36),l.Pairwise (fun x y=>x.f0 < y.f0)→(∀ y ∈ l,y.f0≠x.f0)→(fdIns x l).Pairwise (fun x y=>x.f0 < y.f0)
  |[],_,_=>by simp [fdIns]
  |z :: t,h,hne=>by
    have h':=h
    rw [List.pairwise_cons] at h
    unfold fdIns
    split
    · rename_i hz
      rw [List.pairwise_cons]
      refine ⟨fun y hy=>?_,fdIns_asc x t h.2 (fun y hy=>hne y (List.mem_cons_of_mem _ hy))⟩
      rcases (fdIns_mem x y t).1 hy with e|e
      · rw [e];exact hz
      · exact h.1 y e
    · rename_i hz
      have h0:=hne z (List.mem_cons_self ..)
      rw [List.pairwise_cons]
      refine ⟨fun y hy=>?_,h'⟩
      rcases List.mem_cons.1 hy with e|e
      · rw [e];omega
      · have:=h.1 y e;omega
theorem insL_mem (l:List S36) (x y:S36):y ∈ insL l x↔y=x∨(y ∈ l∧y.f0≠x.f0):=by
  unfold insL
  rw [fdIns_mem,List.mem_filter]
  simp
theorem insL_ok {l:List S36} {x:S36} (h:OkT l) (hx:chk x=0):OkT (insL l x):=by
  refine ⟨fun y hy=>?_,fdIns_asc x _ (h.2.filter _) (fun y hy=>by simpa using (List.mem_filter.1 hy).2)⟩
  rcases (insL_mem l x y).1 hy with e|e
  · rw [e];exact hx
  · exact h.1 y e.1
theorem fdIns_len (x:S36):∀ (l:List S36),(fdIns x l).length=l.length + 1
  |[]=>rfl
  |z :: t=>by
    unfold fdIns
    split
    · rw [List.length_cons,fdIns_len x t,List.length_cons]
    · rfl
theorem insL_len (l:List S36) (x:S36):(insL l x).length≤l.length + 1:=by
  unfold insL
  rw [fdIns_len]
  have:=List.length_filter_le (fun y:S36=>!(y.f0 == x.f0)) l
  omega
def putSpec (l:List S36) (x:S36):List S36 × Int:=if chk x=0 then (insL l x,0) else (l,chk x)
theorem put_f (l:List S36) (a b:Int) (c:Bool) (hl:l.length < 1000):Ev (fun k=>fdtab_Put.f k l a b c) (putSpec l ⟨a,b,c⟩):=by
  unfold fdtab_Put.f
  refine Ev.bind (chk_f a b c) ?_
  by_cases h0:chk ⟨a,b,c⟩=0
  · exact ev_pos h0 (ev_pos hl (ev_some (congrArg some (show putSpec l ⟨a,b,c⟩=_ from if_pos h0).symm)))
  · exact ev_neg h0 (ev_some (congrArg some (show putSpec l ⟨a,b,c⟩=_ from if_neg h0).symm))
theorem chk0 {x:S36} (h:chk x=0):0≤x.f0∧x.f0 < 32:=by
  unfold chk at h
  by_cases h1:x.f0 < 0∨x.f0 ≥ 32
  · rw [if_pos h1] at h;omega
  · omega
def dropL (l:List S36) (n:Int):List S36:=l.filter fun y=>!(y.f0 == n)
theorem dropL_len (l:List S36) (n:Int):(dropL l n).length≤l.length:=List.length_filter_le _ _
theorem erase_at (n:Int):∀ (l:List S36) (i:Nat),l.Pairwise (fun x y=>x.f0 < y.f0)→0≤idxP (fun x:S36=>x.f0 == n) l i→(i:Int)≤idxP (fun x:S36=>x.f0 == n) l i∧l.eraseIdx ((idxP (fun x:S36=>x.f0 == n) l i).toNat - i)=dropL l n
  |[],i,_,h=>by
    have:idxP (fun x:S36=>x.f0 == n) [] i=-1:=rfl
    rw [this] at h;omega
  |y :: t,i,hp,h=>by
    rw [List.pairwise_cons] at hp
    by_cases hy:y.f0=n
    · have e:idxP (fun x:S36=>x.f0 == n) (y :: t) i=(i:Int):=by rw [idxP,if_pos (by simpa using hy)]
      rw [e]
      refine ⟨Int.le_refl _,?_⟩
      rw [Int.toNat_natCast,Nat.sub_self]
      unfold dropL
      rw [List.filter_cons_of_neg (by simpa using hy),List.filter_eq_self.2 (fun z hz=>by
        have:=hp.1 z hz
        rw [beq_eq_false_iff_ne.2 (by omega)];rfl)]
      rfl
    · have e:idxP (fun x:S36=>x.f0 == n) (y :: t) i=idxP (fun x:S36=>x.f0 == n) t (i + 1):=by rw [idxP,if_neg (by simpa using hy)]
      rw [e] at h ⊢
      obtain ⟨h1,h2⟩:=erase_at n t (i + 1) hp.2 h
      refine ⟨by omega,?_⟩
      rw [show (idxP (fun x:S36=>x.f0 == n) t (i + 1)).toNat - i=((idxP (fun x:S36=>x.f0 == n) t (i + 1)).toNat - (i + 1)) + 1 by omega,List.eraseIdx_cons_succ,h2]
      unfold dropL
      rw [List.filter_cons_of_pos (by simpa using hy)]
def dropSpec (l:List S36) (n:Int):List S36 × Int:=if at0 l n 0 < 0 then (l,15) else (dropL l n,0)
theorem drop_f (l:List S36) (n:Int) (hl:l.length≤1000) (h:OkT l):fdtab_Drop.f l n=some (dropSpec l n):=by
  unfold fdtab_Drop.f fdtab_index.f dropSpec
  have e:idxP (fun x:S36=>x.f0 == n) l 0=at0 l n 0:=rfl
  rw [Option.bind_some,e]
  have hb:=at0_lt l n l.length 0 (by omega)
  by_cases h0:at0 l n 0 < 0
  · rw [if_pos h0,if_pos h0]
  · rw [if_neg h0,if_neg h0]
    have h1:=(erase_at n l 0 h.2 (by rw [e];omega)).2
    rw [e,Nat.sub_zero] at h1
    unfold api_Fd_39.f api_Fd_42.f
    rw [if_pos (by omega),Option.bind_some,wrap_in (by omega) (by omega),if_pos (by omega),if_pos (by omega),if_pos rfl,Option.bind_some,h1]
theorem same36_l0 (l:List S36) (hl:l.length≤2000):∀ (m i:Nat),i + m=l.length→Ev (fun k=>jobshellref23_Same.l0 k l l (i:Int)) true
  |0,i,h=>Ev.step (fun k=>by apply jobshellref23_Same.l0.eq_2) (ev_neg (by omega) (ev_some rfl))
  |m + 1,i,h=>by
    have hw:wrap64 ((i:Int) + 1)=((i + 1:Nat):Int):=by rw [wrap_in (by omega) (by omega)];omega
    refine Ev.step (fun k=>by apply jobshellref23_Same.l0.eq_2) (ev_pos (by omega) (ev_pos (by omega) (ev_pos (by omega) (ev_neg (by simp) ?_))))
    rw [hw]
    exact same36_l0 l hl m (i + 1) (by omega)
theorem same36_f (l:List S36) (hl:l.length≤2000):Ev (fun k=>jobshellref23_Same.f k l l) true:=ev_pos rfl (same36_l0 l hl l.length 0 (by omega))
end Go.Proofs.Ytpljggoogodhlaa.La

end
section
namespace Go.Proofs.Ytpljggoogodhlaa.Pure
open Go.RowKit Go.Proofs.Ytpljggoogodhlaa.Q Go.Proofs.YtpljggoogodhlaaW.PrintWords Go.Proofs.YtpljggoogodhlaaW.PrintLast Go.Proofs.YtpljggoogodhlaaM Go.Proofs.Ytpljggoogodhlaa.La
theorem fnd_ins {l:List S36} {x:S36} (h:OkT l) (hx:chk x=0) {n:Int} (hn:n≠x.f0):fnd (insL l x) n=fnd l n:=by
  have ho:=insL_ok h hx
  cases hf:fnd l n with
  |none=>
    rw [fnd_none] at hf ⊢
    intro y hy
    rcases (insL_mem l x y).1 hy with e|e
    · rw [e];exact fun k=>hn k.symm
    · exact hf y e.1
  |some y=>
    have h1:=(fnd_some h).1 hf
    refine (fnd_some ho).2 ⟨(insL_mem l x y).2 (.inr ⟨h1.1,?_⟩),h1.2⟩
    rw [h1.2];exact hn
theorem drop_ins {l:List S36} {x:S36} (h:OkT l) (hx:chk x=0):dropL (insL l x) x.f0=dropL l x.f0:=by
  refine asc36 ((insL_ok h hx).2.filter _) (h.2.filter _) (fun y=>?_)
  unfold dropL
  rw [List.mem_filter,List.mem_filter,insL_mem]
  constructor
  · intro ⟨h1,h2⟩
    rcases h1 with e|e
    · rw [e] at h2;simp at h2
    · exact ⟨e.1,h2⟩
  · intro ⟨h1,h2⟩
    exact ⟨.inr ⟨h1,by simpa using h2⟩,h2⟩
theorem free_ge (l:List S36) (n:Int):∀ (m i:Nat),(freeFrom l n m i).2=true→(i:Int)≤(freeFrom l n m i).1
  |0,i,h=>by cases h
  |m + 1,i,h=>by
    rw [freeFrom] at h ⊢
    by_cases h1:n≤(i:Int)∧at0 l (i:Int) 0 < 0
    · rw [if_pos h1];exact Int.le_refl _
    · rw [if_neg h1] at h ⊢
      have:=free_ge l n m (i + 1) h
      omega
theorem free_here (l:List S36) (a:Int) (h0:0≤a) (h1:a < 32):(at0 l a 0 < 0→freeFrom l a 32 0=(a,true))∧(0≤at0 l a 0→(freeFrom l a 32 0).2=true→(freeFrom l a 32 0).1≠a):=by
  obtain ⟨d,rfl⟩:=Int.eq_ofNat_of_zero_le h0
  have hs:=freeFrom_skip l (d:Int) d (32 - d) 0 (by omega) (by omega)
  rw [show d + (32 - d)=32 by omega,Nat.zero_add] at hs
  rw [hs,show 32 - d=(31 - d) + 1 by omega,freeFrom]
  constructor
  · intro h
    rw [if_pos ⟨Int.le_refl _,h⟩]
  · intro h
    rw [if_neg (fun k=>by omega)]
    intro k
    have:=free_ge l (d:Int) (31 - d) (d + 1) k
    omega
theorem at0_none (l:List S36) (a:Int) (h:¬ 0≤at0 l a 0):∀ y ∈ l,y.f0≠a:=by
  have hu:=get_used l a
  rw [get0,decide_eq_false h] at hu
  cases hf:fnd l a with
  |none=>exact fnd_none.1 hf
  |some y=>rw [hf] at hu;cases hu
theorem stays_end (l:List S36) (x:S36) (hl:l.length≤60) (h:OkT l) (hx:chk x=0):Ev (fun k=>jobshelllaw23_FdtabStays.l0 k l (insL l x) 33 x.f0 x.f1 x.f2) true:=by
  have hb:=chk0 hx
  have ho:=insL_ok h hx
  have hlen:=insL_len l x
  have hd:dropSpec (insL l x) x.f0=(dropL l x.f0,0):=by
    unfold dropSpec
    rw [if_neg,drop_ins h hx]
    intro k
    exact at0_none (insL l x) x.f0 (by omega) x ((insL_mem l x x).2 (.inl rfl)) rfl
  have hdl:=dropL_len l x.f0
  have hod:OkT (dropL l x.f0):=⟨fun y hy=>h.1 y (List.mem_filter.1 hy).1,h.2.filter _⟩
  have hv:=val_f (dropL l x.f0) (by omega)
  rw [(val_okT _).2 hod] at hv
  refine Ev.step (fun k=>by apply jobshelllaw23_FdtabStays.l0.eq_2) (ev_neg (by omega) (ev_bindc (drop_f (insL l x) x.f0 (by omega) ho) ?_))
  rw [hd]
  refine ev_bindc (get_f l x.f0) (Ev.bind (free_f l x.f0) (ev_pos rfl (Ev.bind hv (ev_pos rfl ?_))))
  rw [get_used]
  obtain ⟨f1,f2⟩:=free_here l x.f0 hb.1 hb.2
  by_cases h0:0≤at0 l x.f0 0
  · rw [decide_eq_true h0]
    refine ev_pos rfl ?_
    by_cases hf:(freeFrom l x.f0 32 0).2=true
    · refine ev_pos hf (ev_pos ?_ (Ev.bind awake_ev (ev_some rfl)))
      rw [beq_eq_false_iff_ne.2 (f2 h0 hf)];rfl
    · exact ev_neg hf (ev_pos rfl (Ev.bind awake_ev (ev_some rfl)))
  · have hself:dropL l x.f0=l:=List.filter_eq_self.2 (fun y hy=>by
      have:=at0_none l x.f0 h0 y hy
      rw [beq_eq_false_iff_ne.2 this];rfl)
    rw [decide_eq_false h0,f1 (by omega)]
    refine ev_neg (by decide) ?_
    rw [hself]
    refine Ev.bind (same36_f l (by omega)) (ev_pos rfl (ev_pos rfl (ev_pos ?_ (Ev.bind awake_ev (ev_some rfl)))))
    rw [beq_self_eq_true];rfl
theorem stays_l0 (l:List S36) (x:S36) (hl:l.length≤60) (h:OkT l) (hx:chk x=0):∀ (m:Nat) (i:Int),-1≤i→i + m=33→Ev (fun k=>jobshelllaw23_FdtabStays.l0 k l (insL l x) i x.f0 x.f1 x.f2) true
  |0,i,h0,h1=>by
    obtain rfl:i=33:=by omega
    exact stays_end l x hl h hx
  |m + 1,i,h0,h1=>by
    have hw:wrap64 (i + 1)=i + 1:=wrap_in (by omega) (by omega)
    have ih:=stays_l0 l x hl h hx m (i + 1) (by omega) (by omega)
    rw [← hw] at ih
    refine Ev.step (fun k=>by apply jobshelllaw23_FdtabStays.l0.eq_2) (ev_pos (by omega) (ev_bindc (get_f l i) (ev_bindc (get_f (insL l x) i) ?_)))
    by_cases hn:i=x.f0
    · exact ev_pos hn ih
    · rw [get0,get0,fnd_ins h hx hn]
      exact ev_neg hn (ev_neg (by simp) (ev_neg (by simp) ih))
theorem FdtabStays:StFdtabStays.Pure:=by
  intro l a b c _ _ _ _ _
  apply Ev.rounds
  unfold jobshelllaw23_FdtabStays.f
  have out:Ev (fun k=>jobshelllaw23_FdtabStays.j0 k l true a b c) true:=Ev.step (fun k=>by apply jobshelllaw23_FdtabStays.j0.eq_2) (ev_pos rfl (Ev.bind awake_ev (ev_some rfl)))
  by_cases h:l.length≤60
  · have hl:l.length≤1000:=by omega
    refine ev_bindc (short_fds l h) (ev_pos rfl (Ev.bind (ref_val_f l hl) ?_))
    by_cases hr:valFrom l l.length 0=0
    · have ok:=(val_okT l).1 hr
      rw [bne_eq_false_iff_eq.2 hr]
      refine Ev.step (fun k=>by apply jobshelllaw23_FdtabStays.j0.eq_2) (ev_neg Bool.false_ne_true ?_)
      refine Ev.bind (put_f l a b c (by omega)) ?_
      by_cases h0:chk ⟨a,b,c⟩=0
      · rw [show putSpec l ⟨a,b,c⟩=(insL l ⟨a,b,c⟩,0) from if_pos h0]
        have ho:=insL_ok ok h0
        have hlen:=insL_len l ⟨a,b,c⟩
        have hg:getSpec (insL l ⟨a,b,c⟩) a 0=(a,b,c,true):=by
          rw [get0,(fnd_some ho (n:=a) (x:=⟨a,b,c⟩)).2 ⟨(insL_mem l _ _).2 (.inl rfl),rfl⟩];rfl
        have hv:=val_f (insL l ⟨a,b,c⟩) (by omega)
        rw [(val_okT _).2 ho] at hv
        refine ev_pos rfl (ev_bindc (get_f _ a) ?_)
        rw [hg]
        refine Ev.bind hv (ev_pos rfl (ev_pos rfl ?_))
        rw [show (!(a == a) ||(!(b == b) ||!(c == c)))=false by simp]
        exact Ev.step (fun k=>by apply jobshelllaw23_FdtabStays.j1.eq_2) (ev_neg Bool.false_ne_true (stays_l0 l ⟨a,b,c⟩ h ok h0 34 (-1) (by omega) (by omega)))
      · rw [show putSpec l ⟨a,b,c⟩=(l,chk ⟨a,b,c⟩) from if_neg h0]
        exact ev_neg h0 (Ev.bind (same36_f l (by omega)) (ev_pos rfl (Ev.bind awake_ev (ev_some rfl))))
    · rw [bne_iff_ne.2 hr]
      exact out
  · exact ev_bindc (long_fds l h) (ev_neg (by simp) out)
end Go.Proofs.Ytpljggoogodhlaa.Pure

end
