/- Own texts of one claim, put one behind the other by wip/tool/pack.py: words beside the print's, what each printed function computes, and the plain laws. -/
import Derived.Test.YtpljggoogodhlaaKChC
import Derived.SizedLaws
import Derived.ProofKit
import Derived.WideShapes
import Derived.OpenShut
import Derived.ChangeArms
import Derived.Deep.Slices
import Derived.ChangeSame
section

namespace Go.Proofs.Ytpljggoogodhlaa.Q
open Go.RowKit Go.Proofs.YtpljggoogodhlaaW.PrintWords Go.Proofs.YtpljggoogodhlaaW.PrintLast Go.Proofs.YtpljggoogodhlaaW.PrintMore Go.Proofs.YtpljggoogodhlaaM
open Kd
attribute [local go_sem] max2_int min2_int max_two min_two max_three min_three max_four min_four
set_option linter.unusedVariables false
set_option linter.unusedSimpArgs false
def jobshelllaw23_FdtabChanges.j0:Nat→List (S36)→Bool→Int→Int→Bool→Option (Bool)
 |0,_,_,_,_,_=>none
 |k + 1,x0,x24,x374000,x374001,x374002=>if x24=true then ((jobshelllaw23_awake.f k).bind fun t376=>(some t376)) else ((fdtab_Put.f k x0 x374000 x374001 x374002).bind fun bt377=>((jobshellref23_Put.f k x0 x374000 x374001 x374002).bind fun bt381=>((fdtab_Drop.f x0 x374000).bind fun bt385=>((jobshellref23_Drop.f k x0 x374000).bind fun bt389=>((fdtab_Exec.f k x0).bind fun bt393=>((jobshellref23_Exec.f k x0).bind fun bt399=>((jobshellref23_Same.f k bt377.1 bt381.1).bind fun t405=>(if t405=true then (if bt377.2=bt381.2 then ((jobshellref23_Same.f k bt385.1 bt389.1).bind fun t406=>(if t406=true then (if bt385.2=bt389.2 then ((jobshellref23_Same.f k bt393.1 bt399.1).bind fun t407=>(if t407=true then ((jobshelllaw23_numbers.f k bt393.2 bt399.2).bind fun t408=>(if t408=true then ((jobshelllaw23_awake.f k).bind fun t409=>(some t409)) else (none))) else (none))) else (none)) else (none))) else (none)) else (none)))))))))
def jobshelllaw23_FdtabChanges.f (k:Nat) (l0:List (S36)) (a1_0:Int) (a1_1:Int) (a1_2:Bool):Option (Bool):=(jobshelllaw23_short.f l0 ([]:List (S24))).bind fun t374=>(if t374=true then ((jobshellref23_Valid.f k l0).bind fun t375=>(jobshelllaw23_FdtabChanges.j0 k l0 (t375 != 0) a1_0 a1_1 a1_2)) else (jobshelllaw23_FdtabChanges.j0 k l0 true a1_0 a1_1 a1_2))
theorem jobshelllaw23_FdtabChanges.mono_l:∀ k,(∀ y0 y1 y2 y3 y4,LeO (jobshelllaw23_FdtabChanges.j0 k y0 y1 y2 y3 y4) (jobshelllaw23_FdtabChanges.j0 (k + 1) y0 y1 y2 y3 y4))
 |0=>fun _ _ _ _ _ r h=>by simp [jobshelllaw23_FdtabChanges.j0] at h
 |k + 1=>by
  have ih0:=jobshelllaw23_FdtabChanges.mono_l k
  ·intro y0 y1 y2 y3 y4
   unfold jobshelllaw23_FdtabChanges.j0
   repeat' first
   |(with_reducible exact ih0 _ _ _ _ _)
   |(with_reducible exact fdtab_Exec.mono _ _)
   |(with_reducible exact fdtab_Put.mono _ _ _ _ _)
   |(with_reducible exact jobshelllaw23_awake.mono _)
   |(with_reducible exact jobshelllaw23_numbers.mono _ _ _)
   |(with_reducible exact jobshellref23_Drop.mono _ _ _)
   |(with_reducible exact jobshellref23_Exec.mono _ _)
   |(with_reducible exact jobshellref23_Put.mono _ _ _ _ _)
   |(with_reducible exact jobshellref23_Same.mono _ _ _)
   |(with_reducible exact jobshellref23_Valid.mono _ _)
   |(with_reducible exact LeO.refl _)
   |(with_reducible exact LeO.none _)
   |(with_reducible refine LeO.ite ?_ ?_)
   |(with_reducible refine LeO.bind ?_ (fun _=>?_))
   |exact ih0 _ _ _ _ _
   |exact fdtab_Exec.mono _ _
   |exact fdtab_Put.mono _ _ _ _ _
   |exact jobshelllaw23_awake.mono _
   |exact jobshelllaw23_numbers.mono _ _ _
   |exact jobshellref23_Drop.mono _ _ _
   |exact jobshellref23_Exec.mono _ _
   |exact jobshellref23_Put.mono _ _ _ _ _
   |exact jobshellref23_Same.mono _ _ _
   |exact jobshellref23_Valid.mono _ _
   |exact LeO.none _
   |refine LeO.ite ?_ ?_
   |refine LeO.bind ?_ (fun _=>?_)
theorem jobshelllaw23_FdtabChanges.mono:∀ a0 a1 a2 a3 k,LeO (jobshelllaw23_FdtabChanges.f k a0 a1 a2 a3) (jobshelllaw23_FdtabChanges.f (k + 1) a0 a1 a2 a3):=by
 intro a0 a1 a2 a3 k
 have ih0:=jobshelllaw23_FdtabChanges.mono_l k
 unfold jobshelllaw23_FdtabChanges.f
 repeat' first
   |(with_reducible exact ih0 _ _ _ _ _)
   |(with_reducible exact fdtab_Exec.mono _ _)
   |(with_reducible exact fdtab_Put.mono _ _ _ _ _)
   |(with_reducible exact jobshelllaw23_awake.mono _)
   |(with_reducible exact jobshelllaw23_numbers.mono _ _ _)
   |(with_reducible exact jobshellref23_Drop.mono _ _ _)
   |(with_reducible exact jobshellref23_Exec.mono _ _)
   |(with_reducible exact jobshellref23_Put.mono _ _ _ _ _)
   |(with_reducible exact jobshellref23_Same.mono _ _ _)
   |(with_reducible exact jobshellref23_Valid.mono _ _)
   |(with_reducible exact LeO.refl _)
   |(with_reducible exact LeO.none _)
   |(with_reducible refine LeO.ite ?_ ?_)
   |(with_reducible refine LeO.bind ?_ (fun _=>?_))
   |exact ih0 _ _ _ _ _
   |exact fdtab_Exec.mono _ _
   |exact fdtab_Put.mono _ _ _ _ _
   |exact jobshelllaw23_awake.mono _
   |exact jobshelllaw23_numbers.mono _ _ _
   |exact jobshellref23_Drop.mono _ _ _
   |exact jobshellref23_Exec.mono _ _
   |exact jobshellref23_Put.mono _ _ _ _ _
   |exact jobshellref23_Same.mono _ _ _
   |exact jobshellref23_Valid.mono _ _
   |exact LeO.none _
   |refine LeO.ite ?_ ?_
   |refine LeO.bind ?_ (fun _=>?_)
set_option maxHeartbeats 8000000 in
set_option maxRecDepth 10000000 in
theorem jobshelllaw23_FdtabChanges.calls (k:Nat) (A0:Option Addr) (c0:Nat) (l0:List (S36)) (a1_0:Int) (a1_1:Int) (a1_2:Bool) (r:Bool) (w:World) (hr0:Kd.C k36 w A0 l0.length l0) (hc0:l0.length≤c0) (h:jobshelllaw23_FdtabChanges.f k l0 a1_0 a1_1 a1_2=some r) :
  Calls Try.prog 7 #[.slice A0 l0.length c0,.agg #[.int .i64 a1_0,.int .i64 a1_1,.bool a1_2]] w fun e w'=>e=.returned (.bool r)∧Below w.heap.size w w':=by
 have hu36:=Try.underlying36
 have HR0:=Zk hr0
 have HC0:=Zk hc0
 clear hr0 hc0
 have HB:=Zk (Below.refl w.heap.size w)
 have H:((jobshelllaw23_short.f l0 ([]:List (S24))).bind fun t374=>(if t374=true then ((jobshellref23_Valid.f k l0).bind fun t375=>(jobshelllaw23_FdtabChanges.j0 k l0 (t375 != 0) a1_0 a1_1 a1_2)) else (jobshelllaw23_FdtabChanges.j0 k l0 true a1_0 a1_1 a1_2)))=some r:=h
 clear h
 have HC3:=Zk H
 clear H
 go_enter Try.func7,Try.ntmps7
 go_upto_region 1 with (first|((with_reducible refine gate_dst (N:=3) rfl ?_);refine box_event ?hg (N:=3) ?hd (cs:=#[.int .i64 a1_0,.int .i64 a1_1,.bool a1_2]) (t:=36) ?hr ?_;(case hd=>rfl);(case hg=>rfl);(case hr=>first|(go_simp;done)|(go_simp;rfl));intro gb373 hg w4 hbox hb;have n0_:=Zk (zL (by repeat (first|(with_reducible first|exact HB.out|apply zB|apply zA|apply zC)|exact HB.out)) hb);have n1_:=Zk (hbox);have n2_:=Zk ((by rw [hg];exact (zK (by repeat (first|(with_reducible first|exact HB.out|apply zB|apply zA|apply zC)|exact HB.out))):w.heap.size≤gb373));have n3_:=Zk ((by rw [hg];exact (zK (by repeat (first|(with_reducible first|exact HB.out|apply zB|apply zA|apply zC)|exact HB.out))):w.heap.size≤gb373));clear HB;have HB:=n0_;have BK373:=n1_;have GW373:=n2_;have GE373:=n3_;clear n0_ n1_ n2_ n3_;clear hb hbox hg))
 (try simp only [Act.put,List.setIfInBounds_toArray,List.set_cons_zero,List.set_cons_succ])
 go_cut [24] (fun v24 wc=>∃ (kq:Nat) (x24_2:Bool),v24=.bool x24_2∧zM (jobshelllaw23_FdtabChanges.j0 kq l0 x24_2 a1_0 a1_1 a1_2=some r)∧zM (kq≤k)∧zM (wc.heap[gb373]?=some (.cells #[.int .i64 a1_0,.int .i64 a1_1,.bool a1_2] 36 (0,0)))∧zM (Below w.heap.size w wc))
 case first=>
  have H:=HC3.out
  clear HC3
  replace H:=Option.bind_eq_some_iff.mp H
  obtain ⟨t374,A50,H⟩:=H
  replace H:(if t374=true then ((jobshellref23_Valid.f k l0).bind fun t375=>(jobshelllaw23_FdtabChanges.j0 k l0 (t375 != 0) a1_0 a1_1 a1_2)) else (jobshelllaw23_FdtabChanges.j0 k l0 true a1_0 a1_1 a1_2))=some r:=H
  have A5:=Zk A50
  clear A50
  by_cases c6:t374=true
  ·subst c6
   have H1:((jobshellref23_Valid.f k l0).bind fun t375=>(jobshelllaw23_FdtabChanges.j0 k l0 (t375 != 0) a1_0 a1_1 a1_2))=some r:=by rw [if_pos rfl] at H;exact H
   clear H
   have H:=H1
   clear H1
   replace H:=Option.bind_eq_some_iff.mp H
   obtain ⟨t375,A70,H⟩:=H
   replace H:(jobshelllaw23_FdtabChanges.j0 k l0 (t375 != 0) a1_0 a1_1 a1_2)=some r:=H
   have A7:=Zk A70
   clear A70
   have H':=Zk H
   clear H
   go_wp2_with (first|((with_reducible refine zY (f:=9) rfl ?_);refine goesL_ (some 18) rfl rfl Try.func9 (by kernel_rfl) rfl #[.slice A0 l0.length c0,.slice none 0 0] rfl (by (try simp only [List.map_toArray,List.map_cons,List.map_nil]);first|done|rfl|(simp only [List.length_drop,List.length_take];rfl)) ?_;(refine (jobshelllaw23_short.calls _ _ l0 _ _ ([]:List (S24)) true _ ?side1 ?side2 ?side3 ?side4 A5.out).mono ?_);(case side1=>repeat (first|exact (C_below HR0.out HB.out)|(with_reducible refine C_alloc ?_ _)|(with_reducible refine C_drewN ?_ _)|(with_reducible refine C_drew ?_)));(case side2=>exact HC0.out);(case side3=>exact C_nil _ _);(case side4=>exact Nat.le_refl _);rintro e w' ⟨rfl,⟨nd,rfl⟩⟩;refine ⟨_,rfl,?_⟩)|(go_at_call 19;(with_reducible refine (jobshellref23_Valid.calls k _ _ l0 t375 _ ?side1 ?side2 A7.out).mono ?_);(case side1=>repeat (first|exact (C_below HR0.out (by repeat (first|(with_reducible first|exact HB.out|apply zB|apply zA|apply zC|refine zJ ?_ GE373.out)|exact HB.out)))|(with_reducible refine C_alloc ?_ _)|(with_reducible refine C_drewN ?_ _)|(with_reducible refine C_drew ?_)));(case side2=>exact HC0.out);rintro e w8 ⟨rfl,hb⟩;have n0_:=Zk (zW (g:=gb373) (o:=.cells #[.int .i64 a1_0,.int .i64 a1_1,.bool a1_2] 36 (0,0)) (by (with_reducible repeat (first|refine zF ?_ _|refine zG ?_|refine zD ?_ _));exact BK373.out) hb);have n1_:=Zk (zL (by repeat (first|(with_reducible first|exact HB.out|apply zB|apply zA|apply zC|refine zJ ?_ GE373.out)|exact HB.out)) hb);clear BK373;clear HB;have BK373:=n0_;have HB:=n1_;clear n0_ n1_;(try clear hb);(try clear hb2);(try clear hk);(try clear hi)))
   go_meet
   case rel=>exact ⟨_,((t375 != 0)),(by first|rfl|(simp;done)|(simp [*];done)|(generalize ByteArray.toList _=l_;cases l_ <;> rfl)),H',⟨by first|omega|exact Nat.le_refl _⟩,⟨by (with_reducible repeat (first|refine zF ?_ _|refine zG ?_|refine zD ?_ _));exact BK373.out⟩,⟨by repeat (first|(with_reducible first|exact HB.out|apply zB|apply zA|apply zC|refine zJ ?_ GE373.out)|exact HB.out)⟩⟩
  ·replace c6:=Bool.eq_false_iff.mpr c6
   subst c6
   have H1:(jobshelllaw23_FdtabChanges.j0 k l0 true a1_0 a1_1 a1_2)=some r:=by rw [if_neg (show ¬ (false=true) by decide)] at H;exact H
   clear H
   have H:=H1
   clear H1
   have H':=Zk H
   clear H
   go_wp2_with (first|((with_reducible refine zY (f:=9) rfl ?_);refine goesL_ (some 18) rfl rfl Try.func9 (by kernel_rfl) rfl #[.slice A0 l0.length c0,.slice none 0 0] rfl (by (try simp only [List.map_toArray,List.map_cons,List.map_nil]);first|done|rfl|(simp only [List.length_drop,List.length_take];rfl)) ?_;(refine (jobshelllaw23_short.calls _ _ l0 _ _ ([]:List (S24)) false _ ?side1 ?side2 ?side3 ?side4 A5.out).mono ?_);(case side1=>repeat (first|exact (C_below HR0.out HB.out)|(with_reducible refine C_alloc ?_ _)|(with_reducible refine C_drewN ?_ _)|(with_reducible refine C_drew ?_)));(case side2=>exact HC0.out);(case side3=>exact C_nil _ _);(case side4=>exact Nat.le_refl _);rintro e w' ⟨rfl,⟨nd,rfl⟩⟩;refine ⟨_,rfl,?_⟩))
   go_meet
   case rel=>exact ⟨_,(true),(by first|rfl|(simp;done)|(simp [*];done)|(generalize ByteArray.toList _=l_;cases l_ <;> rfl)),H',⟨by first|omega|exact Nat.le_refl _⟩,⟨by (with_reducible repeat (first|refine zF ?_ _|refine zG ?_|refine zD ?_ _));exact BK373.out⟩,⟨by repeat (first|(with_reducible first|exact HB.out|apply zB|apply zA|apply zC|refine zJ ?_ GE373.out)|exact HB.out)⟩⟩
 case rest=>
  clear HC3
  try clear p2
  try clear c6
  try clear c7
  obtain ⟨kq,x24_2,rfl,HA,HJ2,BK373,HB⟩:=hcut
  cases kq with
  |zero=>exact absurd HA.out (by simp [jobshelllaw23_FdtabChanges.j0])
  |succ kj2=>
   have H:=HA.out
   clear HA
   simp only [jobshelllaw23_FdtabChanges.j0] at H
   by_cases c9:x24_2=true
   ·subst c9
    have H1:((jobshelllaw23_awake.f kj2).bind fun t376=>(some t376))=some r:=by rw [if_pos rfl] at H;exact H
    clear H
    have H:=H1
    clear H1
    replace H:=Option.bind_eq_some_iff.mp H
    obtain ⟨t376,A100,H⟩:=H
    replace H:(some t376)=some r:=H
    have A10:=Zk A100
    clear A100
    obtain rfl:=Option.some.inj H
    go_wp2_with (first|((with_reducible refine zY (f:=10) rfl ?_);refine goesL_ (some 25) rfl rfl Try.func10 (by kernel_rfl) rfl #[] rfl (by (try simp only [List.map_toArray,List.map_cons,List.map_nil]);first|done|rfl|(simp only [List.length_drop,List.length_take];rfl)) ?_;(with_reducible refine (jobshelllaw23_awake.calls kj2  t376 _ A10.out).mono ?_);rintro e w11 ⟨rfl,hb⟩;refine ⟨_,rfl,?_⟩;have n0_:=Zk (zW (g:=gb373) (o:=.cells #[.int .i64 a1_0,.int .i64 a1_1,.bool a1_2] 36 (0,0)) (by (with_reducible repeat (first|refine zF ?_ _|refine zG ?_|refine zD ?_ _));exact BK373.out) hb);have n1_:=Zk (zL (by repeat (first|(with_reducible first|exact HB.out|apply zB|apply zA|apply zC|refine zJ ?_ GE373.out)|exact HB.out)) hb);clear BK373;clear HB;have BK373:=n0_;have HB:=n1_;clear n0_ n1_;(try clear hb);(try clear hb2);(try clear hk);(try clear hi)))
    go_ret
    exact ⟨by first|rfl|(simp [errW_none,errW_some] <;> rfl)|(simp [*,errW_none,errW_some] <;> rfl),by repeat (first|(with_reducible first|exact HB.out|apply zB|apply zA|apply zC|refine zJ ?_ GE373.out)|exact HB.out)⟩
   ·replace c9:=Bool.eq_false_iff.mpr c9
    subst c9
    have H1:((fdtab_Put.f kj2 l0 a1_0 a1_1 a1_2).bind fun bt377=>((jobshellref23_Put.f kj2 l0 a1_0 a1_1 a1_2).bind fun bt381=>((fdtab_Drop.f l0 a1_0).bind fun bt385=>((jobshellref23_Drop.f kj2 l0 a1_0).bind fun bt389=>((fdtab_Exec.f kj2 l0).bind fun bt393=>((jobshellref23_Exec.f kj2 l0).bind fun bt399=>((jobshellref23_Same.f kj2 bt377.1 bt381.1).bind fun t405=>(if t405=true then (if bt377.2=bt381.2 then ((jobshellref23_Same.f kj2 bt385.1 bt389.1).bind fun t406=>(if t406=true then (if bt385.2=bt389.2 then ((jobshellref23_Same.f kj2 bt393.1 bt399.1).bind fun t407=>(if t407=true then ((jobshelllaw23_numbers.f kj2 bt393.2 bt399.2).bind fun t408=>(if t408=true then ((jobshelllaw23_awake.f kj2).bind fun t409=>(some t409)) else (none))) else (none))) else (none)) else (none))) else (none)) else (none)))))))))=some r:=by rw [if_neg (show ¬ (false=true) by decide)] at H;exact H
    clear H
    have H:=H1
    clear H1
    replace H:=Option.bind_eq_some_iff.mp H
    obtain ⟨⟨t377,t380⟩,A120,H⟩:=H
    replace H:((jobshellref23_Put.f kj2 l0 a1_0 a1_1 a1_2).bind fun bt381=>((fdtab_Drop.f l0 a1_0).bind fun bt385=>((jobshellref23_Drop.f kj2 l0 a1_0).bind fun bt389=>((fdtab_Exec.f kj2 l0).bind fun bt393=>((jobshellref23_Exec.f kj2 l0).bind fun bt399=>((jobshellref23_Same.f kj2 t377 bt381.1).bind fun t405=>(if t405=true then (if t380=bt381.2 then ((jobshellref23_Same.f kj2 bt385.1 bt389.1).bind fun t406=>(if t406=true then (if bt385.2=bt389.2 then ((jobshellref23_Same.f kj2 bt393.1 bt399.1).bind fun t407=>(if t407=true then ((jobshelllaw23_numbers.f kj2 bt393.2 bt399.2).bind fun t408=>(if t408=true then ((jobshelllaw23_awake.f kj2).bind fun t409=>(some t409)) else (none))) else (none))) else (none)) else (none))) else (none)) else (none))))))))=some r:=H
    have A12:=Zk A120
    clear A120
    replace H:=Option.bind_eq_some_iff.mp H
    obtain ⟨⟨t381,t384⟩,A130,H⟩:=H
    replace H:((fdtab_Drop.f l0 a1_0).bind fun bt385=>((jobshellref23_Drop.f kj2 l0 a1_0).bind fun bt389=>((fdtab_Exec.f kj2 l0).bind fun bt393=>((jobshellref23_Exec.f kj2 l0).bind fun bt399=>((jobshellref23_Same.f kj2 t377 t381).bind fun t405=>(if t405=true then (if t380=t384 then ((jobshellref23_Same.f kj2 bt385.1 bt389.1).bind fun t406=>(if t406=true then (if bt385.2=bt389.2 then ((jobshellref23_Same.f kj2 bt393.1 bt399.1).bind fun t407=>(if t407=true then ((jobshelllaw23_numbers.f kj2 bt393.2 bt399.2).bind fun t408=>(if t408=true then ((jobshelllaw23_awake.f kj2).bind fun t409=>(some t409)) else (none))) else (none))) else (none)) else (none))) else (none)) else (none)))))))=some r:=H
    have A13:=Zk A130
    clear A130
    replace H:=Option.bind_eq_some_iff.mp H
    obtain ⟨⟨t385,t388⟩,A140,H⟩:=H
    replace H:((jobshellref23_Drop.f kj2 l0 a1_0).bind fun bt389=>((fdtab_Exec.f kj2 l0).bind fun bt393=>((jobshellref23_Exec.f kj2 l0).bind fun bt399=>((jobshellref23_Same.f kj2 t377 t381).bind fun t405=>(if t405=true then (if t380=t384 then ((jobshellref23_Same.f kj2 t385 bt389.1).bind fun t406=>(if t406=true then (if t388=bt389.2 then ((jobshellref23_Same.f kj2 bt393.1 bt399.1).bind fun t407=>(if t407=true then ((jobshelllaw23_numbers.f kj2 bt393.2 bt399.2).bind fun t408=>(if t408=true then ((jobshelllaw23_awake.f kj2).bind fun t409=>(some t409)) else (none))) else (none))) else (none)) else (none))) else (none)) else (none))))))=some r:=H
    have A14:=Zk A140
    clear A140
    replace H:=Option.bind_eq_some_iff.mp H
    obtain ⟨⟨t389,t392⟩,A150,H⟩:=H
    replace H:((fdtab_Exec.f kj2 l0).bind fun bt393=>((jobshellref23_Exec.f kj2 l0).bind fun bt399=>((jobshellref23_Same.f kj2 t377 t381).bind fun t405=>(if t405=true then (if t380=t384 then ((jobshellref23_Same.f kj2 t385 t389).bind fun t406=>(if t406=true then (if t388=t392 then ((jobshellref23_Same.f kj2 bt393.1 bt399.1).bind fun t407=>(if t407=true then ((jobshelllaw23_numbers.f kj2 bt393.2 bt399.2).bind fun t408=>(if t408=true then ((jobshelllaw23_awake.f kj2).bind fun t409=>(some t409)) else (none))) else (none))) else (none)) else (none))) else (none)) else (none)))))=some r:=H
    have A15:=Zk A150
    clear A150
    replace H:=Option.bind_eq_some_iff.mp H
    obtain ⟨⟨t393,t394⟩,A160,H⟩:=H
    replace H:((jobshellref23_Exec.f kj2 l0).bind fun bt399=>((jobshellref23_Same.f kj2 t377 t381).bind fun t405=>(if t405=true then (if t380=t384 then ((jobshellref23_Same.f kj2 t385 t389).bind fun t406=>(if t406=true then (if t388=t392 then ((jobshellref23_Same.f kj2 t393 bt399.1).bind fun t407=>(if t407=true then ((jobshelllaw23_numbers.f kj2 t394 bt399.2).bind fun t408=>(if t408=true then ((jobshelllaw23_awake.f kj2).bind fun t409=>(some t409)) else (none))) else (none))) else (none)) else (none))) else (none)) else (none))))=some r:=H
    have A16:=Zk A160
    clear A160
    replace H:=Option.bind_eq_some_iff.mp H
    obtain ⟨⟨t399,t400⟩,A170,H⟩:=H
    replace H:((jobshellref23_Same.f kj2 t377 t381).bind fun t405=>(if t405=true then (if t380=t384 then ((jobshellref23_Same.f kj2 t385 t389).bind fun t406=>(if t406=true then (if t388=t392 then ((jobshellref23_Same.f kj2 t393 t399).bind fun t407=>(if t407=true then ((jobshelllaw23_numbers.f kj2 t394 t400).bind fun t408=>(if t408=true then ((jobshelllaw23_awake.f kj2).bind fun t409=>(some t409)) else (none))) else (none))) else (none)) else (none))) else (none)) else (none)))=some r:=H
    have A17:=Zk A170
    clear A170
    replace H:=Option.bind_eq_some_iff.mp H
    obtain ⟨t405,A180,H⟩:=H
    replace H:(if t405=true then (if t380=t384 then ((jobshellref23_Same.f kj2 t385 t389).bind fun t406=>(if t406=true then (if t388=t392 then ((jobshellref23_Same.f kj2 t393 t399).bind fun t407=>(if t407=true then ((jobshelllaw23_numbers.f kj2 t394 t400).bind fun t408=>(if t408=true then ((jobshelllaw23_awake.f kj2).bind fun t409=>(some t409)) else (none))) else (none))) else (none)) else (none))) else (none)) else (none))=some r:=H
    have A18:=Zk A180
    clear A180
    by_cases c19:t405=true
    ·subst c19
     have H1:(if t380=t384 then ((jobshellref23_Same.f kj2 t385 t389).bind fun t406=>(if t406=true then (if t388=t392 then ((jobshellref23_Same.f kj2 t393 t399).bind fun t407=>(if t407=true then ((jobshelllaw23_numbers.f kj2 t394 t400).bind fun t408=>(if t408=true then ((jobshelllaw23_awake.f kj2).bind fun t409=>(some t409)) else (none))) else (none))) else (none)) else (none))) else (none))=some r:=by rw [if_pos rfl] at H;exact H
     clear H
     have H:=H1
     clear H1
     by_cases c20:t380=t384
     ·rw [if_pos c20] at H
      have c20b0:(t380 == t384)=true:=beq_iff_eq.mpr c20
      have c20b1:(t380 != t384)=false:=bne_eq_false_iff_eq.mpr c20
      clear c20
      replace H:=Option.bind_eq_some_iff.mp H
      obtain ⟨t406,A210,H⟩:=H
      replace H:(if t406=true then (if t388=t392 then ((jobshellref23_Same.f kj2 t393 t399).bind fun t407=>(if t407=true then ((jobshelllaw23_numbers.f kj2 t394 t400).bind fun t408=>(if t408=true then ((jobshelllaw23_awake.f kj2).bind fun t409=>(some t409)) else (none))) else (none))) else (none)) else (none))=some r:=H
      have A21:=Zk A210
      clear A210
      by_cases c22:t406=true
      ·subst c22
       have H1:(if t388=t392 then ((jobshellref23_Same.f kj2 t393 t399).bind fun t407=>(if t407=true then ((jobshelllaw23_numbers.f kj2 t394 t400).bind fun t408=>(if t408=true then ((jobshelllaw23_awake.f kj2).bind fun t409=>(some t409)) else (none))) else (none))) else (none))=some r:=by rw [if_pos rfl] at H;exact H
       clear H
       have H:=H1
       clear H1
       by_cases c23:t388=t392
       ·rw [if_pos c23] at H
        have c23b0:(t388 == t392)=true:=beq_iff_eq.mpr c23
        have c23b1:(t388 != t392)=false:=bne_eq_false_iff_eq.mpr c23
        clear c23
        replace H:=Option.bind_eq_some_iff.mp H
        obtain ⟨t407,A240,H⟩:=H
        replace H:(if t407=true then ((jobshelllaw23_numbers.f kj2 t394 t400).bind fun t408=>(if t408=true then ((jobshelllaw23_awake.f kj2).bind fun t409=>(some t409)) else (none))) else (none))=some r:=H
        have A24:=Zk A240
        clear A240
        by_cases c25:t407=true
        ·subst c25
         have H1:((jobshelllaw23_numbers.f kj2 t394 t400).bind fun t408=>(if t408=true then ((jobshelllaw23_awake.f kj2).bind fun t409=>(some t409)) else (none)))=some r:=by rw [if_pos rfl] at H;exact H
         clear H
         have H:=H1
         clear H1
         replace H:=Option.bind_eq_some_iff.mp H
         obtain ⟨t408,A260,H⟩:=H
         replace H:(if t408=true then ((jobshelllaw23_awake.f kj2).bind fun t409=>(some t409)) else (none))=some r:=H
         have A26:=Zk A260
         clear A260
         by_cases c27:t408=true
         ·subst c27
          have H1:((jobshelllaw23_awake.f kj2).bind fun t409=>(some t409))=some r:=by rw [if_pos rfl] at H;exact H
          clear H
          have H:=H1
          clear H1
          replace H:=Option.bind_eq_some_iff.mp H
          obtain ⟨t409,A280,H⟩:=H
          replace H:(some t409)=some r:=H
          have A28:=Zk A280
          clear A280
          obtain rfl:=Option.some.inj H
          have hcz29_0:wc.cell? ⟨gb373,0,none⟩=some (.int .i64 a1_0):=(zH BK373.out 0).trans rfl
          have hcz29_1:wc.cell? ⟨gb373,1,none⟩=some (.int .i64 a1_1):=(zH BK373.out 1).trans rfl
          have hcz29_2:wc.cell? ⟨gb373,2,none⟩=some (.bool a1_2):=(zH BK373.out 2).trans rfl
          have hfz29_0:=zI BK373.out 0
          have hfz29_1:=zI BK373.out 1
          have hfz29_2:=zI BK373.out 2
          go_wp2_with (first|((with_reducible refine zY (f:=24) rfl ?_);refine goesL_ (some 29) rfl rfl Try.func24 (by kernel_rfl) rfl #[.slice A0 l0.length c0,.agg #[.int .i64 a1_0,.int .i64 a1_1,.bool a1_2]] rfl (by (try simp only [List.map_toArray,List.map_cons,List.map_nil]);first|done|rfl|(simp only [List.length_drop,List.length_take];rfl)) ?_;(with_reducible refine (fdtab_Put.calls kj2 (fun k_=>k_ < w.heap.size) _ _ l0 a1_0 a1_1 a1_2 t377 t380 _ ?side1 A12.out).mono ?_);(case side1=>exact V_mk HC0.out (Kd.F_below (C_F k36_heap HR0.out) (by repeat (first|(with_reducible first|exact HB.out|apply zB|apply zA|apply zC|refine zJ ?_ GE373.out)|exact HB.out))));rintro e w30 ⟨v378,rfl,ho0,hb⟩;refine ⟨_,rfl,?_⟩;have n0_:=Zk (V_lower (zV (ok':=fun k_=>k_≠gb373) ho0 (fun k_ hk_=>Or.elim hk_ (fun hs_=>fun e_=>Nat.not_le.2 hs_ (by rw [e_];exact GW373.out)) (fun hn_=>(Kd.freshB (g:=gb373) (o:=.cells #[.int .i64 a1_0,.int .i64 a1_1,.bool a1_2] 36 (0,0)) (by (with_reducible repeat (first|refine zF ?_ _|refine zG ?_|refine zD ?_ _));exact BK373.out) k_ hn_)))) (zK (by repeat (first|(with_reducible first|exact HB.out|apply zB|apply zA|apply zC|refine zJ ?_ GE373.out)|exact HB.out))));have n1_:=Zk (zW (g:=gb373) (o:=.cells #[.int .i64 a1_0,.int .i64 a1_1,.bool a1_2] 36 (0,0)) (by (with_reducible repeat (first|refine zF ?_ _|refine zG ?_|refine zD ?_ _));exact BK373.out) hb);have n2_:=Zk (zL (by repeat (first|(with_reducible first|exact HB.out|apply zB|apply zA|apply zC|refine zJ ?_ GE373.out)|exact HB.out)) hb);clear BK373;clear HB;have HO379:=n0_;have BK373:=n1_;have HB:=n2_;clear n0_ n1_ n2_;(try clear hb);(try clear hb2);(try clear hk);(try clear hi);(try clear ho0);have hcz31_0:w30.cell? ⟨gb373,0,none⟩=some (.int .i64 a1_0):=(zH BK373.out 0).trans rfl;have hcz31_1:w30.cell? ⟨gb373,1,none⟩=some (.int .i64 a1_1):=(zH BK373.out 1).trans rfl;have hcz31_2:w30.cell? ⟨gb373,2,none⟩=some (.bool a1_2):=(zH BK373.out 2).trans rfl;have hfz31_0:=zI BK373.out 0;have hfz31_1:=zI BK373.out 1;have hfz31_2:=zI BK373.out 2)|((with_reducible refine zY (f:=25) rfl ?_);refine goesL_ (some 35) rfl rfl Try.func25 (by kernel_rfl) rfl #[.slice A0 l0.length c0,.agg #[.int .i64 a1_0,.int .i64 a1_1,.bool a1_2]] rfl (by (try simp only [List.map_toArray,List.map_cons,List.map_nil]);first|done|rfl|(simp only [List.length_drop,List.length_take];rfl)) ?_;(with_reducible refine (jobshellref23_Put.calls kj2 (fun k_=>k_ < w.heap.size) _ _ l0 a1_0 a1_1 a1_2 t381 t384 _ ?side1 A13.out).mono ?_);(case side1=>exact V_mk HC0.out (Kd.F_below (C_F k36_heap HR0.out) (by repeat (first|(with_reducible first|exact HB.out|apply zB|apply zA|apply zC|refine zJ ?_ GE373.out)|exact HB.out))));rintro e w32 ⟨v382,rfl,ho0,hb⟩;refine ⟨_,rfl,?_⟩;have n0_:=Zk (V_below (by (with_reducible repeat (first|apply zP|apply zQ|apply zT));exact HO379.out) hb);have n1_:=Zk (V_lower (zV (ok':=fun k_=>k_≠gb373) ho0 (fun k_ hk_=>Or.elim hk_ (fun hs_=>fun e_=>Nat.not_le.2 hs_ (by rw [e_];exact GW373.out)) (fun hn_=>(Kd.freshB (g:=gb373) (o:=.cells #[.int .i64 a1_0,.int .i64 a1_1,.bool a1_2] 36 (0,0)) (by (with_reducible repeat (first|refine zF ?_ _|refine zG ?_|refine zD ?_ _));exact BK373.out) k_ hn_)))) (zK (by repeat (first|(with_reducible first|exact HB.out|apply zB|apply zA|apply zC|refine zJ ?_ GE373.out)|exact HB.out))));have n2_:=Zk (zW (g:=gb373) (o:=.cells #[.int .i64 a1_0,.int .i64 a1_1,.bool a1_2] 36 (0,0)) (by (with_reducible repeat (first|refine zF ?_ _|refine zG ?_|refine zD ?_ _));exact BK373.out) hb);have n3_:=Zk (zL (by repeat (first|(with_reducible first|exact HB.out|apply zB|apply zA|apply zC|refine zJ ?_ GE373.out)|exact HB.out)) hb);clear HO379;clear BK373;clear HB;have HO379:=n0_;have HO383:=n1_;have BK373:=n2_;have HB:=n3_;clear n0_ n1_ n2_ n3_;(try clear hb);(try clear hb2);(try clear hk);(try clear hi);(try clear ho0);have hcz33_0:w32.cell? ⟨gb373,0,none⟩=some (.int .i64 a1_0):=(zH BK373.out 0).trans rfl;have hcz33_1:w32.cell? ⟨gb373,1,none⟩=some (.int .i64 a1_1):=(zH BK373.out 1).trans rfl;have hcz33_2:w32.cell? ⟨gb373,2,none⟩=some (.bool a1_2):=(zH BK373.out 2).trans rfl;have hfz33_0:=zI BK373.out 0;have hfz33_1:=zI BK373.out 1;have hfz33_2:=zI BK373.out 2)|((with_reducible refine zY (f:=26) rfl ?_);refine goesL_ (some 42) rfl rfl Try.func26 (by kernel_rfl) rfl #[.slice A0 l0.length c0,.int .i64 a1_0] rfl (by (try simp only [List.map_toArray,List.map_cons,List.map_nil]);first|done|rfl|(simp only [List.length_drop,List.length_take];rfl)) ?_;(with_reducible refine (fdtab_Drop.calls (fun k_=>k_ < w.heap.size) _ _ l0 a1_0 t385 t388 _ ?side1 A14.out).mono ?_);(case side1=>exact V_mk HC0.out (Kd.F_below (C_F k36_heap HR0.out) (by repeat (first|(with_reducible first|exact HB.out|apply zB|apply zA|apply zC|refine zJ ?_ GE373.out)|exact HB.out))));rintro e w34 ⟨v386,rfl,ho0,hb⟩;refine ⟨_,rfl,?_⟩;have n0_:=Zk (V_below (by (with_reducible repeat (first|apply zP|apply zQ|apply zT));exact HO379.out) hb);have n1_:=Zk (V_below (by (with_reducible repeat (first|apply zP|apply zQ|apply zT));exact HO383.out) hb);have n2_:=Zk (V_lower (zV (ok':=fun k_=>k_≠gb373) ho0 (fun k_ hk_=>Or.elim hk_ (fun hs_=>fun e_=>Nat.not_le.2 hs_ (by rw [e_];exact GW373.out)) (fun hn_=>(Kd.freshB (g:=gb373) (o:=.cells #[.int .i64 a1_0,.int .i64 a1_1,.bool a1_2] 36 (0,0)) (by (with_reducible repeat (first|refine zF ?_ _|refine zG ?_|refine zD ?_ _));exact BK373.out) k_ hn_)))) (zK (by repeat (first|(with_reducible first|exact HB.out|apply zB|apply zA|apply zC|refine zJ ?_ GE373.out)|exact HB.out))));have n3_:=Zk (zW (g:=gb373) (o:=.cells #[.int .i64 a1_0,.int .i64 a1_1,.bool a1_2] 36 (0,0)) (by (with_reducible repeat (first|refine zF ?_ _|refine zG ?_|refine zD ?_ _));exact BK373.out) hb);have n4_:=Zk (zL (by repeat (first|(with_reducible first|exact HB.out|apply zB|apply zA|apply zC|refine zJ ?_ GE373.out)|exact HB.out)) hb);clear HO379;clear HO383;clear BK373;clear HB;have HO379:=n0_;have HO383:=n1_;have HO387:=n2_;have BK373:=n3_;have HB:=n4_;clear n0_ n1_ n2_ n3_ n4_;(try clear hb);(try clear hb2);(try clear hk);(try clear hi);(try clear ho0);have hcz35_0:w34.cell? ⟨gb373,0,none⟩=some (.int .i64 a1_0):=(zH BK373.out 0).trans rfl;have hcz35_1:w34.cell? ⟨gb373,1,none⟩=some (.int .i64 a1_1):=(zH BK373.out 1).trans rfl;have hcz35_2:w34.cell? ⟨gb373,2,none⟩=some (.bool a1_2):=(zH BK373.out 2).trans rfl;have hfz35_0:=zI BK373.out 0;have hfz35_1:=zI BK373.out 1;have hfz35_2:=zI BK373.out 2)|((with_reducible refine zY (f:=27) rfl ?_);refine goesL_ (some 49) rfl rfl Try.func27 (by kernel_rfl) rfl #[.slice A0 l0.length c0,.int .i64 a1_0] rfl (by (try simp only [List.map_toArray,List.map_cons,List.map_nil]);first|done|rfl|(simp only [List.length_drop,List.length_take];rfl)) ?_;(with_reducible refine (jobshellref23_Drop.calls kj2 (fun k_=>k_ < w.heap.size) _ _ l0 a1_0 t389 t392 _ ?side1 A15.out).mono ?_);(case side1=>exact V_mk HC0.out (Kd.F_below (C_F k36_heap HR0.out) (by repeat (first|(with_reducible first|exact HB.out|apply zB|apply zA|apply zC|refine zJ ?_ GE373.out)|exact HB.out))));rintro e w36 ⟨v390,rfl,ho0,hb⟩;refine ⟨_,rfl,?_⟩;have n0_:=Zk (V_below (by (with_reducible repeat (first|apply zP|apply zQ|apply zT));exact HO379.out) hb);have n1_:=Zk (V_below (by (with_reducible repeat (first|apply zP|apply zQ|apply zT));exact HO383.out) hb);have n2_:=Zk (V_below (by (with_reducible repeat (first|apply zP|apply zQ|apply zT));exact HO387.out) hb);have n3_:=Zk (V_lower (zV (ok':=fun k_=>k_≠gb373) ho0 (fun k_ hk_=>Or.elim hk_ (fun hs_=>fun e_=>Nat.not_le.2 hs_ (by rw [e_];exact GW373.out)) (fun hn_=>(Kd.freshB (g:=gb373) (o:=.cells #[.int .i64 a1_0,.int .i64 a1_1,.bool a1_2] 36 (0,0)) (by (with_reducible repeat (first|refine zF ?_ _|refine zG ?_|refine zD ?_ _));exact BK373.out) k_ hn_)))) (zK (by repeat (first|(with_reducible first|exact HB.out|apply zB|apply zA|apply zC|refine zJ ?_ GE373.out)|exact HB.out))));have n4_:=Zk (zW (g:=gb373) (o:=.cells #[.int .i64 a1_0,.int .i64 a1_1,.bool a1_2] 36 (0,0)) (by (with_reducible repeat (first|refine zF ?_ _|refine zG ?_|refine zD ?_ _));exact BK373.out) hb);have n5_:=Zk (zL (by repeat (first|(with_reducible first|exact HB.out|apply zB|apply zA|apply zC|refine zJ ?_ GE373.out)|exact HB.out)) hb);clear HO379;clear HO383;clear HO387;clear BK373;clear HB;have HO379:=n0_;have HO383:=n1_;have HO387:=n2_;have HO391:=n3_;have BK373:=n4_;have HB:=n5_;clear n0_ n1_ n2_ n3_ n4_ n5_;(try clear hb);(try clear hb2);(try clear hk);(try clear hi);(try clear ho0))|((with_reducible refine zY (f:=28) rfl ?_);refine goesL_ (some 54) rfl rfl Try.func28 (by kernel_rfl) rfl #[.slice A0 l0.length c0] rfl (by (try simp only [List.map_toArray,List.map_cons,List.map_nil]);first|done|rfl|(simp only [List.length_drop,List.length_take];rfl)) ?_;(with_reducible refine (fdtab_Exec.calls kj2 _ _ l0 t393 t394 _ ?side1 ?side2 A16.out).mono ?_);(case side1=>repeat (first|exact (C_below HR0.out HB.out)|(with_reducible refine C_alloc ?_ _)|(with_reducible refine C_drewN ?_ _)|(with_reducible refine C_drew ?_)));(case side2=>exact HC0.out);rintro e w37 ⟨v395,v397,rfl,ho0,ho1,hb⟩;refine ⟨_,rfl,?_⟩;have n0_:=Zk (zV (V_told (V_told (V_old (by (with_reducible repeat (first|apply zP|apply zQ|apply zT));exact HO379.out) hb) (R_base ho0)) (R_base ho1)) (fun _ h_=>h_.1));have n1_:=Zk (zV (V_told (V_told (V_old (by (with_reducible repeat (first|apply zP|apply zQ|apply zT));exact HO383.out) hb) (R_base ho0)) (R_base ho1)) (fun _ h_=>h_.1));have n2_:=Zk (zV (V_told (V_told (V_old (by (with_reducible repeat (first|apply zP|apply zQ|apply zT));exact HO387.out) hb) (R_base ho0)) (R_base ho1)) (fun _ h_=>h_.1));have n3_:=Zk (zV (V_told (V_told (V_old (by (with_reducible repeat (first|apply zP|apply zQ|apply zT));exact HO391.out) hb) (R_base ho0)) (R_base ho1)) (fun _ h_=>h_.1));have n4_:=Zk (R_lower (R_newB ho0 (g:=gb373) (o:=.cells #[.int .i64 a1_0,.int .i64 a1_1,.bool a1_2] 36 (0,0)) (by (with_reducible repeat (first|refine zF ?_ _|refine zG ?_|refine zD ?_ _));exact BK373.out)) (zK (by repeat (first|(with_reducible first|exact HB.out|apply zB|apply zA|apply zC|refine zJ ?_ GE373.out)|exact HB.out))));have n5_:=Zk (R_lower ho1 (zK (by repeat (first|(with_reducible first|exact HB.out|apply zB|apply zA|apply zC|refine zJ ?_ GE373.out)|exact HB.out))));have n6_:=Zk (zW (g:=gb373) (o:=.cells #[.int .i64 a1_0,.int .i64 a1_1,.bool a1_2] 36 (0,0)) (by (with_reducible repeat (first|refine zF ?_ _|refine zG ?_|refine zD ?_ _));exact BK373.out) hb);have n7_:=Zk (zL (by repeat (first|(with_reducible first|exact HB.out|apply zB|apply zA|apply zC|refine zJ ?_ GE373.out)|exact HB.out)) hb);clear HO379;clear HO383;clear HO387;clear HO391;clear BK373;clear HB;have HO379:=n0_;have HO383:=n1_;have HO387:=n2_;have HO391:=n3_;have HO396:=n4_;have HO398:=n5_;have BK373:=n6_;have HB:=n7_;clear n0_ n1_ n2_ n3_ n4_ n5_ n6_ n7_;(try clear hb);(try clear hb2);(try clear hk);(try clear hi);(try clear ho0);(try clear ho1))|((with_reducible refine zY (f:=29) rfl ?_);refine goesL_ (some 59) rfl rfl Try.func29 (by kernel_rfl) rfl #[.slice A0 l0.length c0] rfl (by (try simp only [List.map_toArray,List.map_cons,List.map_nil]);first|done|rfl|(simp only [List.length_drop,List.length_take];rfl)) ?_;(with_reducible refine (jobshellref23_Exec.calls kj2 _ _ l0 t399 t400 _ ?side1 ?side2 A17.out).mono ?_);(case side1=>repeat (first|exact (C_below HR0.out HB.out)|(with_reducible refine C_alloc ?_ _)|(with_reducible refine C_drewN ?_ _)|(with_reducible refine C_drew ?_)));(case side2=>exact HC0.out);rintro e w38 ⟨v401,v403,rfl,ho0,ho1,hb⟩;refine ⟨_,rfl,?_⟩;have n0_:=Zk (zV (V_told (V_told (V_old (by (with_reducible repeat (first|apply zP|apply zQ|apply zT));exact HO379.out) hb) (R_base ho0)) (R_base ho1)) (fun _ h_=>h_.1));have n1_:=Zk (zV (V_told (V_told (V_old (by (with_reducible repeat (first|apply zP|apply zQ|apply zT));exact HO383.out) hb) (R_base ho0)) (R_base ho1)) (fun _ h_=>h_.1));have n2_:=Zk (zV (V_told (V_told (V_old (by (with_reducible repeat (first|apply zP|apply zQ|apply zT));exact HO387.out) hb) (R_base ho0)) (R_base ho1)) (fun _ h_=>h_.1));have n3_:=Zk (zV (V_told (V_told (V_old (by (with_reducible repeat (first|apply zP|apply zQ|apply zT));exact HO391.out) hb) (R_base ho0)) (R_base ho1)) (fun _ h_=>h_.1));have n4_:=Zk (R_elder' (by (with_reducible repeat (first|apply zO|apply zN|apply zR));exact HO396.out) (R_base ho0) hb);have n5_:=Zk (R_elder' (by (with_reducible repeat (first|apply zO|apply zN|apply zR));exact HO398.out) (R_base ho1) hb);have n6_:=Zk (R_lower (R_newB (R_new' ho0 (R_lt (by (with_reducible repeat (first|apply zO|apply zN|apply zR));exact HO396.out))) (g:=gb373) (o:=.cells #[.int .i64 a1_0,.int .i64 a1_1,.bool a1_2] 36 (0,0)) (by (with_reducible repeat (first|refine zF ?_ _|refine zG ?_|refine zD ?_ _));exact BK373.out)) (zK (by repeat (first|(with_reducible first|exact HB.out|apply zB|apply zA|apply zC|refine zJ ?_ GE373.out)|exact HB.out))));have n7_:=Zk (R_lower (R_new' ho1 (R_lt (by (with_reducible repeat (first|apply zO|apply zN|apply zR));exact HO398.out))) (zK (by repeat (first|(with_reducible first|exact HB.out|apply zB|apply zA|apply zC|refine zJ ?_ GE373.out)|exact HB.out))));have n8_:=Zk (zW (g:=gb373) (o:=.cells #[.int .i64 a1_0,.int .i64 a1_1,.bool a1_2] 36 (0,0)) (by (with_reducible repeat (first|refine zF ?_ _|refine zG ?_|refine zD ?_ _));exact BK373.out) hb);have n9_:=Zk (zL (by repeat (first|(with_reducible first|exact HB.out|apply zB|apply zA|apply zC|refine zJ ?_ GE373.out)|exact HB.out)) hb);clear HO379;clear HO383;clear HO387;clear HO391;clear HO396;clear HO398;clear BK373;clear HB;have HO379:=n0_;have HO383:=n1_;have HO387:=n2_;have HO391:=n3_;have HO396:=n4_;have HO398:=n5_;have HO402:=n6_;have HO404:=n7_;have BK373:=n8_;have HB:=n9_;clear n0_ n1_ n2_ n3_ n4_ n5_ n6_ n7_ n8_ n9_;(try clear hb);(try clear hb2);(try clear hk);(try clear hi);(try clear ho0);(try clear ho1);obtain ⟨Ao39,co39,eo39⟩:=V_slice HO379.out;subst eo39;obtain ⟨Ao40,co40,eo40⟩:=V_slice HO383.out;subst eo40)|((with_reducible refine zY (f:=30) rfl ?_);refine goesL_ (some 64) rfl rfl Try.func30 (by kernel_rfl) rfl #[.slice Ao39 t377.length co39,.slice Ao40 t381.length co40] rfl (by (try simp only [List.map_toArray,List.map_cons,List.map_nil]);first|done|rfl|(simp only [List.length_drop,List.length_take];rfl)) ?_;(with_reducible refine (jobshellref23_Same.calls kj2 _ _ t377 _ _ t381 true _ ?side1 ?side2 ?side3 ?side4 A18.out).mono ?_);(case side1=>repeat (first|exact (zX HO379.out).2.2|(with_reducible refine C_alloc ?_ _)|(with_reducible refine C_drewN ?_ _)|(with_reducible refine C_drew ?_)));(case side2=>exact (zX HO379.out).2.1);(case side3=>repeat (first|exact (zX HO383.out).2.2|(with_reducible refine C_alloc ?_ _)|(with_reducible refine C_drewN ?_ _)|(with_reducible refine C_drew ?_)));(case side4=>exact (zX HO383.out).2.1);rintro e w' ⟨rfl,⟨nd,rfl⟩⟩;refine ⟨_,rfl,?_⟩;obtain ⟨Ao41,co41,eo41⟩:=V_slice HO387.out;subst eo41;obtain ⟨Ao42,co42,eo42⟩:=V_slice HO391.out;subst eo42)|(go_at_call 30;(with_reducible refine (jobshellref23_Same.calls kj2 _ _ t385 _ _ t389 true _ ?side1 ?side2 ?side3 ?side4 A21.out).mono ?_);(case side1=>repeat (first|exact (zX HO387.out).2.2|(with_reducible refine C_alloc ?_ _)|(with_reducible refine C_drewN ?_ _)|(with_reducible refine C_drew ?_)));(case side2=>exact (zX HO387.out).2.1);(case side3=>repeat (first|exact (zX HO391.out).2.2|(with_reducible refine C_alloc ?_ _)|(with_reducible refine C_drewN ?_ _)|(with_reducible refine C_drew ?_)));(case side4=>exact (zX HO391.out).2.1);rintro e w' ⟨rfl,⟨nd,rfl⟩⟩;obtain ⟨Ao43,co43,eo43⟩:=R_slice HO396.out;subst eo43;obtain ⟨Ao44,co44,eo44⟩:=R_slice HO402.out;subst eo44)|(go_at_call 30;(with_reducible refine (jobshellref23_Same.calls kj2 _ _ t393 _ _ t399 true _ ?side1 ?side2 ?side3 ?side4 A24.out).mono ?_);(case side1=>repeat (first|exact (yA HO396.out).2.2|(with_reducible refine C_alloc ?_ _)|(with_reducible refine C_drewN ?_ _)|(with_reducible refine C_drew ?_)));(case side2=>exact (yA HO396.out).2.1);(case side3=>repeat (first|exact (yA HO402.out).2.2|(with_reducible refine C_alloc ?_ _)|(with_reducible refine C_drewN ?_ _)|(with_reducible refine C_drew ?_)));(case side4=>exact (yA HO402.out).2.1);rintro e w' ⟨rfl,⟨nd,rfl⟩⟩;obtain ⟨Ao45,co45,eo45⟩:=R_slice HO398.out;subst eo45;obtain ⟨Ao46,co46,eo46⟩:=R_slice HO404.out;subst eo46)|(go_at_call 31;(with_reducible refine (jobshelllaw23_numbers.calls kj2 _ _ t394 _ _ t400 true _ ?side1 ?side2 ?side3 ?side4 A26.out).mono ?_);(case side1=>repeat (first|exact (yA HO398.out).2.2|(with_reducible refine C_alloc ?_ _)|(with_reducible refine C_drewN ?_ _)|(with_reducible refine C_drew ?_)));(case side2=>exact (yA HO398.out).2.1);(case side3=>repeat (first|exact (yA HO404.out).2.2|(with_reducible refine C_alloc ?_ _)|(with_reducible refine C_drewN ?_ _)|(with_reducible refine C_drew ?_)));(case side4=>exact (yA HO404.out).2.1);rintro e w' ⟨rfl,⟨nd,rfl⟩⟩)|(go_at_call 10;(with_reducible refine (jobshelllaw23_awake.calls kj2  t409 _ A28.out).mono ?_);rintro e w47 ⟨rfl,hb⟩;have n0_:=Zk (V_below (by (with_reducible repeat (first|apply zP|apply zQ|apply zT));exact HO379.out) hb);have n1_:=Zk (V_below (by (with_reducible repeat (first|apply zP|apply zQ|apply zT));exact HO383.out) hb);have n2_:=Zk (V_below (by (with_reducible repeat (first|apply zP|apply zQ|apply zT));exact HO387.out) hb);have n3_:=Zk (V_below (by (with_reducible repeat (first|apply zP|apply zQ|apply zT));exact HO391.out) hb);have n4_:=Zk (R_below (by (with_reducible repeat (first|apply zO|apply zN|apply zR));exact HO396.out) hb);have n5_:=Zk (R_below (by (with_reducible repeat (first|apply zO|apply zN|apply zR));exact HO398.out) hb);have n6_:=Zk (R_below (by (with_reducible repeat (first|apply zO|apply zN|apply zR));exact HO402.out) hb);have n7_:=Zk (R_below (by (with_reducible repeat (first|apply zO|apply zN|apply zR));exact HO404.out) hb);have n8_:=Zk (zW (g:=gb373) (o:=.cells #[.int .i64 a1_0,.int .i64 a1_1,.bool a1_2] 36 (0,0)) (by (with_reducible repeat (first|refine zF ?_ _|refine zG ?_|refine zD ?_ _));exact BK373.out) hb);have n9_:=Zk (zL (by repeat (first|(with_reducible first|exact HB.out|apply zB|apply zA|apply zC|refine zJ ?_ GE373.out)|exact HB.out)) hb);clear HO379;clear HO383;clear HO387;clear HO391;clear HO396;clear HO398;clear HO402;clear HO404;clear BK373;clear HB;have HO379:=n0_;have HO383:=n1_;have HO387:=n2_;have HO391:=n3_;have HO396:=n4_;have HO398:=n5_;have HO402:=n6_;have HO404:=n7_;have BK373:=n8_;have HB:=n9_;clear n0_ n1_ n2_ n3_ n4_ n5_ n6_ n7_ n8_ n9_;(try clear hb);(try clear hb2);(try clear hk);(try clear hi)))
          go_ret
          exact ⟨by first|rfl|(simp [errW_none,errW_some] <;> rfl)|(simp [*,errW_none,errW_some] <;> rfl),by repeat (first|(with_reducible first|exact HB.out|apply zB|apply zA|apply zC|refine zJ ?_ GE373.out)|exact HB.out)⟩
         ·replace c27:=Bool.eq_false_iff.mpr c27
          subst c27
          have H1:(none)=some r:=by rw [if_neg (show ¬ (false=true) by decide)] at H;exact H
          clear H
          have H:=H1
          clear H1
          exact absurd H (by simp)
        ·replace c25:=Bool.eq_false_iff.mpr c25
         subst c25
         have H1:(none)=some r:=by rw [if_neg (show ¬ (false=true) by decide)] at H;exact H
         clear H
         have H:=H1
         clear H1
         exact absurd H (by simp)
       ·rw [if_neg c23] at H
        exact absurd H (by simp)
      ·replace c22:=Bool.eq_false_iff.mpr c22
       subst c22
       have H1:(none)=some r:=by rw [if_neg (show ¬ (false=true) by decide)] at H;exact H
       clear H
       have H:=H1
       clear H1
       exact absurd H (by simp)
     ·rw [if_neg c20] at H
      exact absurd H (by simp)
    ·replace c19:=Bool.eq_false_iff.mpr c19
     subst c19
     have H1:(none)=some r:=by rw [if_neg (show ¬ (false=true) by decide)] at H;exact H
     clear H
     have H:=H1
     clear H1
     exact absurd H (by simp)
end Go.Proofs.Ytpljggoogodhlaa.Q
end
section

namespace Go.Proofs.Ytpljggoogodhlaa.StFdtabChanges
open Go.RowKit Go.Proofs.Ytpljggoogodhlaa.Q Go.Proofs.YtpljggoogodhlaaW.PrintWords Go.Proofs.YtpljggoogodhlaaW.PrintLast
def Ok36 (x:S36):Prop:=(Lit.int .i64 x.f0).wf=true∧(Lit.int .i64 x.f1).wf=true
def Pure:Prop:=∀ (l0:List (S36)) (a1_0:Int) (a1_1:Int) (a1_2:Bool),l0.length≤maxLen→l0.length * 24≤140737488351232→(∀ x ∈ l0,Ok36 x)→(Lit.int .i64 a1_0).wf=true→(Lit.int .i64 a1_1).wf=true→∃ k,jobshelllaw23_FdtabChanges.f k l0 a1_0 a1_1 a1_2=some true
end Go.Proofs.Ytpljggoogodhlaa.StFdtabChanges

end
section
namespace Go.Proofs.YtpljggoogodhlaaM
open Go Go.RowKit Go.Proofs.YtpljggoogodhlaaW.PrintWords
section
variable {α β:Type} {A B:Nat→Option α} {r:α} {c:Prop} [Decidable c]
theorem zZ (h:c) (k:Ev A r):Ev (fun n=>if c then A n else B n) r:=by
  obtain ⟨K,k⟩:=k
  exact ⟨K,fun n hn=>(if_pos h).trans (k n hn)⟩
theorem ev_neg (h:¬ c) (k:Ev B r):Ev (fun n=>if c then A n else B n) r:=by
  obtain ⟨K,k⟩:=k
  exact ⟨K,fun n hn=>(if_neg h).trans (k n hn)⟩
theorem ev_some {x:Option α} (h:x=some r):Ev (fun _=>x) r:=⟨0,fun _ _=>h⟩
theorem ev_bindc {x:Option β} {a:β} {f:Nat→β→Option α} (h:x=some a) (k:Ev (fun n=>f n a) r):Ev (fun n=>x.bind (f n)) r:=by
  obtain ⟨K,k⟩:=k
  exact ⟨K,fun n hn=>by show x.bind (f n)=some r;rw [h];exact k n hn⟩
theorem ev_eq {g:Nat→Option α} {r r':α} (h:Ev g r) (e:r=r'):Ev g r':=e ▸ h
end
theorem wrap_in {x:Int} (h0:-9223372036854775808≤x) (h1:x≤9223372036854775807):wrap64 x=x:=by
  unfold wrap64
  omega
end Go.Proofs.YtpljggoogodhlaaM

end
section
namespace Go.Proofs.Ytpljggoogodhlaa.La
open Go.RowKit Go.Proofs.Ytpljggoogodhlaa.Q Go.Proofs.YtpljggoogodhlaaW.PrintWords Go.Proofs.YtpljggoogodhlaaW.PrintLast Go.Proofs.YtpljggoogodhlaaM
def free (l:List S24) (i:Nat):Int:=idxP (fun x=>x.f0 == 0) (l.drop i) i
theorem short_fds (l:List S36) (h:l.length≤60):jobshelllaw23_short.f l ([]:List S24)=some true:=by
  unfold jobshelllaw23_short.f
  rw [if_pos (by omega)]
  simp
theorem long_fds (l:List S36) (h:¬ l.length≤60):jobshelllaw23_short.f l ([]:List S24)=some false:=by
  unfold jobshelllaw23_short.f
  rw [if_neg (by omega)]
theorem awake_ev:Ev (fun k=>jobshelllaw23_awake.f k) true:=Ev.of (fun k=>jobshelllaw23_awake.mono k) (k:=60) (by decide +kernel)
end Go.Proofs.Ytpljggoogodhlaa.La

end
section
namespace Go.Proofs.Ytpljggoogodhlaa.La
open Go.RowKit Go.Proofs.Ytpljggoogodhlaa.Q Go.Proofs.YtpljggoogodhlaaW.PrintWords Go.Proofs.YtpljggoogodhlaaW.PrintLast Go.Proofs.YtpljggoogodhlaaM
def chk (x:S36):Int:=if x.f0 < 0∨x.f0 ≥ 32 then 2 else if x.f1 < 0∨x.f1 ≥ 128 then 1 else 0
theorem chk_f (a b:Int) (c:Bool):Ev (fun k=>fdtab_check.f k a b c) (chk ⟨a,b,c⟩):=by
  unfold fdtab_check.f chk
  by_cases h0:a < 0
  · exact ev_eq (zZ h0 (Ev.step (fun k=>by apply fdtab_check.j0.eq_2) (zZ rfl (ev_some rfl)))) (by rw [if_pos (.inl h0)])
  · refine ev_neg h0 (Ev.step (fun k=>by apply fdtab_check.j0.eq_2) ?_)
    by_cases h1:a ≥ 32
    · exact ev_eq (zZ (decide_eq_true h1) (ev_some rfl)) (by rw [if_pos (.inr h1)])
    · refine ev_neg (by simpa using h1) ?_
      have hn:¬ (a < 0∨a ≥ 32):=by omega
      by_cases h2:b < 0
      · exact ev_eq (zZ h2 (ev_some rfl)) (by rw [if_neg hn,if_pos (.inl h2)])
      · refine ev_neg h2 ?_
        by_cases h3:b ≥ 128
        · exact ev_eq (zZ h3 (ev_some rfl)) (by rw [if_neg hn,if_pos (.inr h3)])
        · exact ev_eq (ev_neg h3 (ev_some rfl)) (by rw [if_neg hn,if_neg (by simp only;omega)])
theorem one_f (a b:Int) (c:Bool):Ev (fun k=>jobshellref23_one.f k a b c) (chk ⟨a,b,c⟩):=by
  unfold jobshellref23_one.f chk
  by_cases h0:a < 0
  · exact ev_eq (zZ h0 (Ev.step (fun k=>by apply jobshellref23_one.j0.eq_2) (zZ rfl (ev_some rfl)))) (by rw [if_pos (.inl h0)])
  · refine ev_neg h0 (Ev.step (fun k=>by apply jobshellref23_one.j0.eq_2) ?_)
    by_cases h1:a ≥ 32
    · exact ev_eq (zZ (decide_eq_true h1) (ev_some rfl)) (by rw [if_pos (.inr h1)])
    · refine ev_neg (by simpa using h1) ?_
      have hn:¬ (a < 0∨a ≥ 32):=by omega
      by_cases h2:b < 0
      · exact ev_eq (zZ h2 (ev_some rfl)) (by rw [if_neg hn,if_pos (.inl h2)])
      · refine ev_neg h2 ?_
        by_cases h3:b ≥ 128
        · exact ev_eq (zZ h3 (ev_some rfl)) (by rw [if_neg hn,if_pos (.inr h3)])
        · exact ev_eq (ev_neg h3 (ev_some rfl)) (by rw [if_neg hn,if_neg (by simp only;omega)])
def valFrom (l:List S36):Nat→Nat→Int
  |0,_=>0
  |m + 1,i=>if chk (l.getD i z36)=0 then (if 0 < i∧(l.getD i z36).f0≤(l.getD (i - 1) z36).f0 then 25 else valFrom l m (i + 1)) else chk (l.getD i z36)
theorem ref_val_l0 (l:List S36) (hl:l.length≤1000):∀ (m i:Nat),i + m=l.length→Ev (fun k=>jobshellref23_Valid.l0 k l (i:Int)) (valFrom l m i)
  |0,i,h=>Ev.step (fun k=>by apply jobshellref23_Valid.l0.eq_2) (ev_neg (by omega) (ev_some rfl))
  |m + 1,i,h=>by
    refine Ev.step (fun k=>by apply jobshellref23_Valid.l0.eq_2) ?_
    have hw:wrap64 ((i:Int) + 1)=((i + 1:Nat):Int):=by rw [wrap_in (by omega) (by omega)];omega
    have hr:rd_T36 l (i:Int)=l.getD i z36:=rfl
    refine zZ (by omega) (zZ (by omega) ?_)
    rw [hr]
    refine Ev.bind (one_f _ _ _) ?_
    have ih:=ref_val_l0 l hl m (i + 1) (by omega)
    have ec:chk ⟨(l.getD i z36).f0,(l.getD i z36).f1,(l.getD i z36).f2⟩=chk (l.getD i z36):=rfl
    rw [ec]
    unfold valFrom
    by_cases h0:chk (l.getD i z36)=0
    · rw [if_pos h0]
      refine zZ h0 ?_
      by_cases hi:0 < i
      · have hw2:wrap64 ((i:Int) - 1)=((i - 1:Nat):Int):=by rw [wrap_in (by omega) (by omega)];omega
        have hr2:rd_T36 l ((i - 1:Nat):Int)=l.getD (i - 1) z36:=by unfold rd_T36;rw [Int.toNat_natCast]
        refine zZ (by omega) (zZ (by omega) (zZ (by omega) ?_))
        rw [hw2,hr2,hw]
        by_cases hle:(l.getD i z36).f0≤(l.getD (i - 1) z36).f0
        · exact ev_eq (zZ hle (ev_some rfl)) (by rw [if_pos ⟨hi,hle⟩])
        · exact ev_eq (ev_neg hle ih) (by rw [if_neg (fun h=>hle h.2)])
      · refine ev_neg (by omega) ?_
        rw [hw,if_neg (fun h=>hi h.1)]
        exact ih
    · rw [if_neg h0]
      exact ev_neg h0 (ev_some rfl)
theorem ref_val_f (l:List S36) (hl:l.length≤1000):Ev (fun k=>jobshellref23_Valid.f k l) (valFrom l l.length 0):=ref_val_l0 l hl l.length 0 (by omega)
def at0 (l:List S36) (n:Int) (i:Nat):Int:=idxP (fun x=>x.f0 == n) (l.drop i) i
def getSpec (l:List S36) (n:Int) (i:Nat):Int × Int × Bool × Bool:=if 0≤at0 l n i then ((rd_T36 l (at0 l n i)).f0,(rd_T36 l (at0 l n i)).f1,(rd_T36 l (at0 l n i)).f2,true) else (0,0,false,false)
theorem at0_end (l:List S36) (n:Int) (i:Nat) (h:l.length≤i):at0 l n i=-1:=by unfold at0;rw [List.drop_eq_nil_of_le h];rfl
theorem at0_step (l:List S36) (n:Int) (i:Nat) (h:i < l.length):at0 l n i=if (l.getD i z36).f0=n then (i:Int) else at0 l n (i + 1):=by
  unfold at0
  rw [List.drop_eq_getElem_cons h,idxP,List.getD_eq_getElem?_getD,List.getElem?_eq_getElem h]
  simp only [Option.getD_some,beq_iff_eq]
theorem at0_lt (l:List S36) (n:Int):∀ (m i:Nat),i + m=l.length→at0 l n i < (l.length:Int)∧(0≤at0 l n i∨at0 l n i=-1)
  |0,i,h=>by rw [at0_end l n i (by omega)];omega
  |m + 1,i,h=>by
    rw [at0_step l n i (by omega)]
    split
    · omega
    · exact at0_lt l n m (i + 1) (by omega)
theorem ref_get_l0 (l:List S36) (n:Int) (hl:l.length≤1000):∀ (m i:Nat),i + m=l.length→Ev (fun k=>jobshellref23_Get.l0 k l n (i:Int)) (getSpec l n i)
  |0,i,h=>by
    refine Ev.step (fun k=>by apply jobshellref23_Get.l0.eq_2) (ev_neg (by omega) (ev_some ?_))
    unfold getSpec;rw [at0_end l n i (by omega),if_neg (by omega)]
  |m + 1,i,h=>by
    refine Ev.step (fun k=>by apply jobshellref23_Get.l0.eq_2) ?_
    have hw:wrap64 ((i:Int) + 1)=((i + 1:Nat):Int):=by rw [wrap_in (by omega) (by omega)];omega
    have hr:rd_T36 l (i:Int)=l.getD i z36:=rfl
    have hs:=at0_step l n i (by omega)
    refine zZ (by omega) (zZ (by omega) ?_)
    by_cases h0:(l.getD i z36).f0=n
    · rw [if_pos h0] at hs
      refine ev_eq (zZ h0 (ev_some rfl)) ?_
      unfold getSpec;rw [hs,if_pos (by omega)]
    · rw [if_neg h0] at hs
      refine ev_eq (ev_neg h0 (by rw [hw];exact ref_get_l0 l n hl m (i + 1) (by omega))) ?_
      unfold getSpec;rw [hs]
theorem ref_get_f (l:List S36) (n:Int) (hl:l.length≤1000):Ev (fun k=>jobshellref23_Get.f k l n) (getSpec l n 0):=ref_get_l0 l n hl l.length 0 (by omega)
theorem get_used (l:List S36) (n:Int):(getSpec l n 0).2.2.2=decide (0≤at0 l n 0):=by
  unfold getSpec
  split
  · rename_i h;simp [h]
  · rename_i h;simp [h]
end Go.Proofs.Ytpljggoogodhlaa.La

end
section
namespace Go.Proofs.Ytpljggoogodhlaa.La
open Go.RowKit Go.Proofs.Ytpljggoogodhlaa.Q Go.Proofs.YtpljggoogodhlaaW.PrintWords Go.Proofs.YtpljggoogodhlaaW.PrintLast Go.Proofs.YtpljggoogodhlaaM Go.Proofs.Ytpljggoogodhlaa.Ix
set_option linter.unusedVariables false
def OkT (l:List S36):Prop:=(∀ x ∈ l,chk x=0)∧l.Pairwise (fun x y=>x.f0 < y.f0)
def okAt (l:List S36) (j:Nat):Prop:=chk (l.getD j z36)=0∧(0 < j→(l.getD (j - 1) z36).f0 < (l.getD j z36).f0)
theorem val_iff (l:List S36):∀ (m i:Nat),i + m=l.length→(valFrom l m i=0↔∀ j,i≤j→j < l.length→okAt l j)
  |0,i,h=>⟨fun _ j h1 h2=>by omega,fun _=>rfl⟩
  |m + 1,i,h=>by
    have ih:=val_iff l m (i + 1) (by omega)
    have split_:(∀ j,i≤j→j < l.length→okAt l j)↔okAt l i∧∀ j,i + 1≤j→j < l.length→okAt l j:=by
      constructor
      · exact fun k=>⟨k i (Nat.le_refl _) (by omega),fun j h1 h2=>k j (by omega) h2⟩
      · intro k j h1 h2
        by_cases e:j=i
        · exact e ▸ k.1
        · exact k.2 j (by omega) h2
    rw [split_,← ih,valFrom]
    by_cases hc:chk (l.getD i z36)=0
    · rw [if_pos hc]
      by_cases h2:0 < i∧(l.getD i z36).f0≤(l.getD (i - 1) z36).f0
      · rw [if_pos h2]
        exact ⟨fun k=>by omega,fun k=>by have:=k.1.2 h2.1;omega⟩
      · rw [if_neg h2]
        exact ⟨fun k=>⟨⟨hc,fun h0=>by have:¬ _:=fun h3=>h2 ⟨h0,h3⟩;omega⟩,k⟩,fun k=>k.2⟩
    · rw [if_neg hc]
      exact ⟨fun k=>absurd k hc,fun k=>absurd k.1.1 hc⟩
theorem chain36 (l:List S36) (h:∀ j,0≤j→j < l.length→okAt l j):∀ (d i:Nat),i + (d + 1) < l.length→(l.getD i z36).f0 < (l.getD (i + (d + 1)) z36).f0
  |0,i,hi=>(h (i + 1) (Nat.zero_le _) hi).2 (by omega)
  |d + 1,i,hi=>by
    have h1:=chain36 l h d i (by omega)
    have h2:=(h (i + (d + 1 + 1)) (Nat.zero_le _) hi).2 (by omega)
    rw [show i + (d + 1 + 1) - 1=i + (d + 1) by omega] at h2
    omega
theorem getD_el {l:List S36} {i:Nat} (h:i < l.length):l.getD i z36=l[i]:=by rw [List.getD_eq_getElem?_getD,List.getElem?_eq_getElem h];rfl
theorem val_okT (l:List S36):valFrom l l.length 0=0↔OkT l:=by
  rw [val_iff l l.length 0 (by omega)]
  constructor
  · intro h
    refine ⟨fun x hx=>?_,?_⟩
    · obtain ⟨i,hi,rfl⟩:=List.getElem_of_mem hx
      rw [← getD_el hi]
      exact (h i (Nat.zero_le _) hi).1
    · rw [List.pairwise_iff_getElem]
      intro i j hi hj hij
      have:=chain36 l h (j - i - 1) i (by omega)
      rw [show i + (j - i - 1 + 1)=j by omega,getD_el hi,getD_el hj] at this
      exact this
  · intro h j _ hj
    have h2:=h.2
    rw [List.pairwise_iff_getElem] at h2
    refine ⟨by rw [getD_el hj];exact h.1 _ (List.getElem_mem hj),fun h0=>?_⟩
    have hj1:j - 1 < l.length:=by omega
    rw [getD_el hj1,getD_el hj]
    exact h2 (j - 1) j hj1 hj (by omega)
theorem key_inj:∀ {l:List S36},l.Pairwise (fun x y=>x.f0 < y.f0)→∀ {x y:S36},x ∈ l→y ∈ l→x.f0=y.f0→x=y
  |[],_,_,_,h,_,_=>by cases h
  |z :: t,hp,x,y,hx,hy,e=>by
    rw [List.pairwise_cons] at hp
    rcases List.mem_cons.1 hx with hx|hx <;> rcases List.mem_cons.1 hy with hy|hy
    · rw [hx,hy]
    · have:=hp.1 y hy;rw [hx] at e;omega
    · have:=hp.1 x hx;rw [hy] at e;omega
    · exact key_inj hp.2 hx hy e
theorem asc36:∀ {l m:List S36},l.Pairwise (fun x y=>x.f0 < y.f0)→m.Pairwise (fun x y=>x.f0 < y.f0)→(∀ x,x ∈ l↔x ∈ m)→l=m
  |[],[],_,_,_=>rfl
  |[],y :: m,_,_,h=>absurd ((h y).2 (List.mem_cons_self ..)) (by simp)
  |x :: l,[],_,_,h=>absurd ((h x).1 (List.mem_cons_self ..)) (by simp)
  |x :: l,y :: m,hl,hm,h=>by
    have hl':=hl
    have hm':=hm
    rw [List.pairwise_cons] at hl hm
    have e:x=y:=by
      rcases List.mem_cons.1 ((h x).1 (List.mem_cons_self ..)) with e|e
      · exact e
      · rcases List.mem_cons.1 ((h y).2 (List.mem_cons_self ..)) with e2|e2
        · exact e2.symm
        · have h1:=hm.1 x e
          have h2:=hl.1 y e2
          omega
    subst e
    congr 1
    refine asc36 hl.2 hm.2 (fun z=>?_)
    constructor
    · intro hz
      rcases List.mem_cons.1 ((h z).1 (List.mem_cons_of_mem _ hz)) with e|e
      · have:=hl.1 z hz;rw [e] at this;omega
      · exact e
    · intro hz
      rcases List.mem_cons.1 ((h z).2 (List.mem_cons_of_mem _ hz)) with e|e
      · have:=hm.1 z hz;rw [e] at this;omega
      · exact e
def fnd (l:List S36) (n:Int):Option S36:=l.find? (fun x=>x.f0 == n)
def outG:Option S36→Int × Int × Bool × Bool
  |some x=>(x.f0,x.f1,x.f2,true)
  |none=>(0,0,false,false)
theorem get_fnd (l:List S36) (n:Int):∀ (m i:Nat),i + m=l.length→getSpec l n i=outG (fnd (l.drop i) n)
  |0,i,h=>by
    unfold getSpec fnd
    rw [at0_end l n i (by omega),List.drop_eq_nil_of_le (by omega),if_neg (by omega)];rfl
  |m + 1,i,h=>by
    have hi:i < l.length:=by omega
    have hs:=at0_step l n i hi
    unfold fnd
    rw [List.drop_eq_getElem_cons hi,List.find?_cons]
    rw [getD_el hi] at hs
    by_cases h0:l[i].f0=n
    · rw [if_pos h0] at hs
      rw [beq_iff_eq.2 h0]
      unfold getSpec
      have hr:rd_T36 l (i:Int)=l[i]:=getD_el hi
      rw [hs,if_pos (by omega),hr]
      rfl
    · rw [if_neg h0] at hs
      rw [beq_eq_false_iff_ne.2 h0]
      have:=get_fnd l n m (i + 1) (by omega)
      unfold getSpec at this ⊢
      rw [hs]
      exact this
theorem get0 (l:List S36) (n:Int):getSpec l n 0=outG (fnd l n):=by
  have:=get_fnd l n l.length 0 (by omega)
  rwa [List.drop_zero] at this
theorem fnd_some {l:List S36} (h:OkT l) {n:Int} {x:S36}:fnd l n=some x↔x ∈ l∧x.f0=n:=by
  constructor
  · intro e
    exact ⟨List.mem_of_find?_eq_some e,by simpa using List.find?_some e⟩
  · intro e
    cases hf:fnd l n with
    |none=>
      have:=List.find?_eq_none.1 hf x e.1
      simp [e.2] at this
    |some y=>
      have hy:y ∈ l∧y.f0=n:=⟨List.mem_of_find?_eq_some hf,by simpa using List.find?_some hf⟩
      rw [key_inj h.2 hy.1 e.1 (hy.2.trans e.2.symm)]
def insL (l:List S36) (x:S36):List S36:=fdIns x (l.filter fun y=>!(y.f0 == x.f0))
theorem fdIns_mem (x y:S36):∀ (l:List S36),y ∈ fdIns x l↔y=x∨y ∈ l
  |[]=>by simp [fdIns]
  |z :: t=>by
    unfold fdIns
    split
    · rw [List.mem_cons,fdIns_mem x y t,List.mem_cons]
      exact ⟨fun h=>h.elim (fun h=>.inr (.inl h)) (fun h=>h.elim .inl (fun h=>.inr (.inr h))),fun h=>h.elim (fun h=>.inr (.inl h)) (fun h=>h.elim .inl (fun h=>.inr (.inr h)))⟩
    · rw [List.mem_cons]
theorem fdIns_asc (x:S36):∀ (l:List S36),l.Pairwise (fun x y=>x.f0 < y.f0)→(∀ y ∈ l,y.f0≠x.f0)→(fdIns x l).Pairwise (fun x y=>x.f0 < y.f0)
  |[],_,_=>by simp [fdIns]
  |z :: t,h,hne=>by
    have h':=h
    rw [List.pairwise_cons] at h
    unfold fdIns
    split
    · rename_i hz
      rw [List.pairwise_cons]
      refine ⟨fun y hy=>?_,fdIns_asc x t h.2 (fun y hy=>hne y (List.mem_cons_of_mem _ hy))⟩
      rcases (fdIns_mem x y t).1 hy with e|e
      · rw [e];exact hz
      · exact h.1 y e
    · rename_i hz
      have h0:=hne z (List.mem_cons_self ..)
      rw [List.pairwise_cons]
      refine ⟨fun y hy=>?_,h'⟩
      rcases List.mem_cons.1 hy with e|e
      · rw [e];omega
      · have:=h.1 y e;omega
theorem insL_mem (l:List S36) (x y:S36):y ∈ insL l x↔y=x∨(y ∈ l∧y.f0≠x.f0):=by
  unfold insL
  rw [fdIns_mem,List.mem_filter]
  simp
theorem insL_ok {l:List S36} {x:S36} (h:OkT l) (hx:chk x=0):OkT (insL l x):=by
  refine ⟨fun y hy=>?_,fdIns_asc x _ (h.2.filter _) (fun y hy=>by simpa using (List.mem_filter.1 hy).2)⟩
  rcases (insL_mem l x y).1 hy with e|e
  · rw [e];exact hx
  · exact h.1 y e.1
theorem fdIns_len (x:S36):∀ (l:List S36),(fdIns x l).length=l.length + 1
  |[]=>rfl
  |z :: t=>by
    unfold fdIns
    split
    · rw [List.length_cons,fdIns_len x t,List.length_cons]
    · rfl
theorem insL_len (l:List S36) (x:S36):(insL l x).length≤l.length + 1:=by
  unfold insL
  rw [fdIns_len]
  have:=List.length_filter_le (fun y:S36=>!(y.f0 == x.f0)) l
  omega
def putSpec (l:List S36) (x:S36):List S36 × Int:=if chk x=0 then (insL l x,0) else (l,chk x)
theorem put_f (l:List S36) (a b:Int) (c:Bool) (hl:l.length < 1000):Ev (fun k=>fdtab_Put.f k l a b c) (putSpec l ⟨a,b,c⟩):=by
  unfold fdtab_Put.f
  refine Ev.bind (chk_f a b c) ?_
  by_cases h0:chk ⟨a,b,c⟩=0
  · exact zZ h0 (zZ hl (ev_some (congrArg some (show putSpec l ⟨a,b,c⟩=_ from if_pos h0).symm)))
  · exact ev_neg h0 (ev_some (congrArg some (show putSpec l ⟨a,b,c⟩=_ from if_neg h0).symm))
def upI (i:Int):Nat→List Int
  |0=>[]
  |m + 1=>i :: upI (i + 1) m
theorem upI_mem:∀ (m:Nat) (i x:Int),x ∈ upI i m↔i≤x∧x < i + m
  |0,i,x=>by unfold upI;exact ⟨fun h=>(by cases h),fun h=>(by omega)⟩
  |m + 1,i,x=>by
    unfold upI
    rw [List.mem_cons,upI_mem m (i + 1) x]
    omega
theorem upI_asc:∀ (m:Nat) (i:Int),(upI i m).Pairwise (· < ·)
  |0,i=>.nil
  |m + 1,i=>.cons (fun x hx=>by have:=(upI_mem m (i + 1) x).1 hx;omega) (upI_asc m (i + 1))
def slot (l:List S36) (x:S36) (n:Int):Option S36:=if n=x.f0 then some x else fnd l n
theorem ref_put_l0 (l:List S36) (a b:Int) (c:Bool) (hl:l.length≤1000):∀ (m i:Nat) (out:List S36),i + m=32→out.length + m≤5000→
    Ev (fun k=>jobshellref23_Put.l0 k l out (i:Int) a b c) (out ++ (upI (i:Int) m).filterMap (slot l ⟨a,b,c⟩),0)
  |0,i,out,h,ho=>Ev.step (fun k=>by apply jobshellref23_Put.l0.eq_2) (ev_neg (by omega) (ev_some (by simp [upI])))
  |m + 1,i,out,h,ho=>by
    have hw:wrap64 ((i:Int) + 1)=((i + 1:Nat):Int):=by rw [wrap_in (by omega) (by omega)];omega
    refine Ev.step (fun k=>by apply jobshellref23_Put.l0.eq_2) (zZ (by omega) (Ev.bind (ref_get_f l (i:Int) hl) ?_))
    rw [get0,hw]
    have ih:=fun (o:List S36) (hlen:o.length≤out.length + 1)=>ref_put_l0 l a b c hl m (i + 1) o (by omega) (by omega)
    have hc:((i + 1:Nat):Int)=(i:Int) + 1:=by omega
    unfold upI
    by_cases h1:(i:Int)=a
    · have hs:slot l ⟨a,b,c⟩ (i:Int)=some ⟨a,b,c⟩:=by unfold slot;rw [if_pos h1]
      rw [List.filterMap_cons_some hs]
      refine zZ h1 (zZ (by omega) (ev_eq (ih _ (by simp)) ?_))
      rw [hc,List.append_assoc];rfl
    · have hs:slot l ⟨a,b,c⟩ (i:Int)=fnd l (i:Int):=by unfold slot;rw [if_neg h1]
      refine ev_neg h1 ?_
      cases hf:fnd l (i:Int) with
      |none=>
        rw [hf] at hs
        rw [List.filterMap_cons_none hs]
        refine ev_neg (by simp [outG]) (ev_eq (ih _ (by omega)) ?_)
        rw [hc]
      |some y=>
        rw [hf] at hs
        rw [List.filterMap_cons_some hs]
        refine zZ (by simp [outG]) (zZ (by omega) (ev_eq (ih _ (by simp)) ?_))
        rw [hc,List.append_assoc];rfl
theorem slot_key {l:List S36} {x y:S36} {n:Int} (h:slot l x n=some y):y.f0=n:=by
  unfold slot at h
  split at h
  · rename_i e;rw [← Option.some.inj h,e]
  · simpa using List.find?_some h
theorem chk0 {x:S36} (h:chk x=0):0≤x.f0∧x.f0 < 32:=by
  unfold chk at h
  by_cases h1:x.f0 < 0∨x.f0 ≥ 32
  · rw [if_pos h1] at h;omega
  · omega
theorem put_eq {l:List S36} {x:S36} (h:OkT l) (hx:chk x=0):(upI 0 32).filterMap (slot l x)=insL l x:=by
  refine asc36 ?_ (insL_ok h hx).2 (fun y=>?_)
  · rw [List.pairwise_filterMap]
    exact (upI_asc 32 0).imp (fun {n m} hnm b hb b' hb'=>by rw [slot_key hb,slot_key hb'];exact hnm)
  · rw [List.mem_filterMap,insL_mem]
    constructor
    · intro ⟨n,hn,hs⟩
      have hk:=slot_key hs
      unfold slot at hs
      split at hs
      · exact .inl (Option.some.inj hs).symm
      · rename_i e
        exact .inr ⟨((fnd_some h).1 hs).1,by rw [hk];exact e⟩
    · intro hy
      rcases hy with e|⟨e,hne⟩
      · have:=chk0 hx
        exact ⟨x.f0,(upI_mem 32 0 _).2 (by omega),by unfold slot;rw [if_pos rfl,e]⟩
      · have:=chk0 (h.1 y e)
        refine ⟨y.f0,(upI_mem 32 0 _).2 (by omega),?_⟩
        unfold slot
        rw [if_neg hne]
        exact (fnd_some h).2 ⟨e,rfl⟩
theorem ref_put_f (l:List S36) (a b:Int) (c:Bool) (hl:l.length≤1000) (h:OkT l):Ev (fun k=>jobshellref23_Put.f k l a b c) (putSpec l ⟨a,b,c⟩):=by
  unfold jobshellref23_Put.f putSpec
  refine Ev.bind (one_f a b c) ?_
  by_cases h0:chk ⟨a,b,c⟩=0
  · rw [if_pos h0]
    refine zZ h0 (ev_eq (ref_put_l0 l a b c hl 32 0 [] (by omega) (by simp)) ?_)
    rw [List.nil_append]
    exact congrArg (fun z=>(z,(0:Int))) (put_eq h h0)
  · rw [if_neg h0]
    exact ev_neg h0 (ev_some rfl)
def dropL (l:List S36) (n:Int):List S36:=l.filter fun y=>!(y.f0 == n)
theorem dropL_len (l:List S36) (n:Int):(dropL l n).length≤l.length:=List.length_filter_le _ _
theorem erase_at (n:Int):∀ (l:List S36) (i:Nat),l.Pairwise (fun x y=>x.f0 < y.f0)→0≤idxP (fun x:S36=>x.f0 == n) l i→(i:Int)≤idxP (fun x:S36=>x.f0 == n) l i∧l.eraseIdx ((idxP (fun x:S36=>x.f0 == n) l i).toNat - i)=dropL l n
  |[],i,_,h=>by
    have:idxP (fun x:S36=>x.f0 == n) [] i=-1:=rfl
    rw [this] at h;omega
  |y :: t,i,hp,h=>by
    rw [List.pairwise_cons] at hp
    by_cases hy:y.f0=n
    · have e:idxP (fun x:S36=>x.f0 == n) (y :: t) i=(i:Int):=by rw [idxP,if_pos (by simpa using hy)]
      rw [e]
      refine ⟨Int.le_refl _,?_⟩
      rw [Int.toNat_natCast,Nat.sub_self]
      unfold dropL
      rw [List.filter_cons_of_neg (by simpa using hy),List.filter_eq_self.2 (fun z hz=>by
        have:=hp.1 z hz
        rw [beq_eq_false_iff_ne.2 (by omega)];rfl)]
      rfl
    · have e:idxP (fun x:S36=>x.f0 == n) (y :: t) i=idxP (fun x:S36=>x.f0 == n) t (i + 1):=by rw [idxP,if_neg (by simpa using hy)]
      rw [e] at h ⊢
      obtain ⟨h1,h2⟩:=erase_at n t (i + 1) hp.2 h
      refine ⟨by omega,?_⟩
      rw [show (idxP (fun x:S36=>x.f0 == n) t (i + 1)).toNat - i=((idxP (fun x:S36=>x.f0 == n) t (i + 1)).toNat - (i + 1)) + 1 by omega,List.eraseIdx_cons_succ,h2]
      unfold dropL
      rw [List.filter_cons_of_pos (by simpa using hy)]
def dropSpec (l:List S36) (n:Int):List S36 × Int:=if at0 l n 0 < 0 then (l,15) else (dropL l n,0)
theorem drop_f (l:List S36) (n:Int) (hl:l.length≤1000) (h:OkT l):fdtab_Drop.f l n=some (dropSpec l n):=by
  unfold fdtab_Drop.f fdtab_index.f dropSpec
  have e:idxP (fun x:S36=>x.f0 == n) l 0=at0 l n 0:=rfl
  rw [Option.bind_some,e]
  have hb:=at0_lt l n l.length 0 (by omega)
  by_cases h0:at0 l n 0 < 0
  · rw [if_pos h0,if_pos h0]
  · rw [if_neg h0,if_neg h0]
    have h1:=(erase_at n l 0 h.2 (by rw [e];omega)).2
    rw [e,Nat.sub_zero] at h1
    unfold api_Fd_39.f api_Fd_42.f
    rw [if_pos (by omega),Option.bind_some,wrap_in (by omega) (by omega),if_pos (by omega),if_pos (by omega),if_pos rfl,Option.bind_some,h1]
theorem ref_drop_l0 (l:List S36) (n:Int) (hl:l.length≤1000):∀ (m i:Nat) (out:List S36),i + m=l.length→out.length + m≤5000→Ev (fun k=>jobshellref23_Drop.l0 k l n out (i:Int)) (out ++ dropL (l.drop i) n,0)
  |0,i,out,h,ho=>Ev.step (fun k=>by apply jobshellref23_Drop.l0.eq_2) (ev_neg (by omega) (ev_some (by rw [List.drop_eq_nil_of_le (by omega)];simp [dropL])))
  |m + 1,i,out,h,ho=>by
    have hi:i < l.length:=by omega
    have hw:wrap64 ((i:Int) + 1)=((i + 1:Nat):Int):=by rw [wrap_in (by omega) (by omega)];omega
    have hr:rd_T36 l (i:Int)=l[i]:=getD_el hi
    refine Ev.step (fun k=>by apply jobshellref23_Drop.l0.eq_2) (zZ (by omega) (zZ (by omega) ?_))
    rw [hr,hw,List.drop_eq_getElem_cons hi]
    unfold dropL
    by_cases h0:l[i].f0=n
    · rw [List.filter_cons_of_neg (by simpa using h0)]
      exact zZ h0 (ref_drop_l0 l n hl m (i + 1) out (by omega) (by omega))
    · rw [List.filter_cons_of_pos (by simpa using h0)]
      refine ev_neg h0 (zZ (by omega) (ev_eq (ref_drop_l0 l n hl m (i + 1) (out ++ [l[i]]) (by omega) (by rw [List.length_append,List.length_singleton];omega)) ?_))
      rw [List.append_assoc];rfl
theorem ref_drop_f (l:List S36) (n:Int) (hl:l.length≤1000):Ev (fun k=>jobshellref23_Drop.f k l n) (dropSpec l n):=by
  unfold jobshellref23_Drop.f dropSpec
  refine Ev.bind (ref_get_f l n hl) ?_
  rw [get_used]
  by_cases h0:at0 l n 0 < 0
  · rw [if_pos h0]
    exact ev_neg (by simp;omega) (ev_some rfl)
  · rw [if_neg h0]
    refine zZ (decide_eq_true (by omega)) ?_
    have:=ref_drop_l0 l n hl l.length 0 [] (by omega) (by simp;omega)
    rwa [List.drop_zero,List.nil_append] at this
def execSpec (l:List S36):List S36 × List Int:=(l.filter fun x=>!x.f2,(l.filter fun x=>x.f2).map fun x=>x.f1)
theorem exec_l0 (l:List S36) (hl:l.length≤1000):∀ (m i:Nat) (A:List S36) (B:List Int),i + m=l.length→A.length + m≤5000→B.length + m≤5000→
    Ev (fun k=>fdtab_Exec.l0 k A B l (l.length:Int) (i:Int)) (A ++ (execSpec (l.drop i)).1,B ++ (execSpec (l.drop i)).2)
  |0,i,A,B,h,_,_=>Ev.step (fun k=>by apply fdtab_Exec.l0.eq_2) (ev_neg (by omega) (ev_some (by rw [List.drop_eq_nil_of_le (by omega)];simp [execSpec])))
  |m + 1,i,A,B,h,hA,hB=>by
    have hi:i < l.length:=by omega
    have hw:wrap64 ((i:Int) + 1)=((i + 1:Nat):Int):=by rw [wrap_in (by omega) (by omega)];omega
    have hr:rd_T36 l (i:Int)=l[i]:=getD_el hi
    refine Ev.step (fun k=>by apply fdtab_Exec.l0.eq_2) (zZ (by omega) (zZ (by omega) (zZ (by omega) ?_)))
    rw [hr,hw,List.drop_eq_getElem_cons hi]
    by_cases h0:l[i].f2=true
    · refine zZ h0 (zZ (by omega) (ev_eq (exec_l0 l hl m (i + 1) A (B ++ [l[i].f1]) (by omega) (by omega) (by rw [List.length_append,List.length_singleton];omega)) ?_))
      unfold execSpec
      rw [List.filter_cons_of_neg (by simp [h0]),List.filter_cons_of_pos h0,List.map_cons,List.append_assoc];rfl
    · refine ev_neg h0 (zZ (by omega) (ev_eq (exec_l0 l hl m (i + 1) (A ++ [l[i]]) B (by omega) (by rw [List.length_append,List.length_singleton];omega) (by omega)) ?_))
      unfold execSpec
      rw [List.filter_cons_of_pos (by simp [h0]),List.filter_cons_of_neg h0,List.append_assoc];rfl
theorem exec_f (l:List S36) (hl:l.length≤1000):Ev (fun k=>fdtab_Exec.f k l) (execSpec l):=by
  have:=exec_l0 l hl l.length 0 [] [] (by omega) (by simp;omega) (by simp;omega)
  rw [List.drop_zero] at this
  exact this
theorem ref_exec_l0 (l:List S36) (hl:l.length≤1000):∀ (m i:Nat) (A:List S36) (B:List Int),i + m=l.length→A.length + m≤5000→B.length + m≤5000→
    Ev (fun k=>jobshellref23_Exec.l0 k l A B (i:Int)) (A ++ (execSpec (l.drop i)).1,B ++ (execSpec (l.drop i)).2)
  |0,i,A,B,h,_,_=>Ev.step (fun k=>by apply jobshellref23_Exec.l0.eq_2) (ev_neg (by omega) (ev_some (by rw [List.drop_eq_nil_of_le (by omega)];simp [execSpec])))
  |m + 1,i,A,B,h,hA,hB=>by
    have hi:i < l.length:=by omega
    have hw:wrap64 ((i:Int) + 1)=((i + 1:Nat):Int):=by rw [wrap_in (by omega) (by omega)];omega
    have hr:rd_T36 l (i:Int)=l[i]:=getD_el hi
    refine Ev.step (fun k=>by apply jobshellref23_Exec.l0.eq_2) (zZ (by omega) (zZ (by omega) ?_))
    rw [hr,hw,List.drop_eq_getElem_cons hi]
    by_cases h0:l[i].f2=true
    · refine zZ h0 (zZ (by omega) (ev_eq (ref_exec_l0 l hl m (i + 1) A (B ++ [l[i].f1]) (by omega) (by omega) (by rw [List.length_append,List.length_singleton];omega)) ?_))
      unfold execSpec
      rw [List.filter_cons_of_neg (by simp [h0]),List.filter_cons_of_pos h0,List.map_cons,List.append_assoc];rfl
    · refine ev_neg h0 (zZ (by omega) (ev_eq (ref_exec_l0 l hl m (i + 1) (A ++ [l[i]]) B (by omega) (by rw [List.length_append,List.length_singleton];omega) (by omega)) ?_))
      unfold execSpec
      rw [List.filter_cons_of_pos (by simp [h0]),List.filter_cons_of_neg h0,List.append_assoc];rfl
theorem ref_exec_f (l:List S36) (hl:l.length≤1000):Ev (fun k=>jobshellref23_Exec.f k l) (execSpec l):=by
  have:=ref_exec_l0 l hl l.length 0 [] [] (by omega) (by simp;omega) (by simp;omega)
  rw [List.drop_zero] at this
  exact this
theorem same36_l0 (l:List S36) (hl:l.length≤2000):∀ (m i:Nat),i + m=l.length→Ev (fun k=>jobshellref23_Same.l0 k l l (i:Int)) true
  |0,i,h=>Ev.step (fun k=>by apply jobshellref23_Same.l0.eq_2) (ev_neg (by omega) (ev_some rfl))
  |m + 1,i,h=>by
    have hw:wrap64 ((i:Int) + 1)=((i + 1:Nat):Int):=by rw [wrap_in (by omega) (by omega)];omega
    refine Ev.step (fun k=>by apply jobshellref23_Same.l0.eq_2) (zZ (by omega) (zZ (by omega) (zZ (by omega) (ev_neg (by simp) ?_))))
    rw [hw]
    exact same36_l0 l hl m (i + 1) (by omega)
theorem same36_f (l:List S36) (hl:l.length≤2000):Ev (fun k=>jobshellref23_Same.f k l l) true:=zZ rfl (same36_l0 l hl l.length 0 (by omega))
theorem nums_l0 (l:List Int) (hl:l.length≤2000):∀ (m i:Nat),i + m=l.length→Ev (fun k=>jobshelllaw23_numbers.l0 k l l (i:Int)) true
  |0,i,h=>Ev.step (fun k=>by apply jobshelllaw23_numbers.l0.eq_2) (ev_neg (by omega) (ev_some rfl))
  |m + 1,i,h=>by
    have hw:wrap64 ((i:Int) + 1)=((i + 1:Nat):Int):=by rw [wrap_in (by omega) (by omega)];omega
    refine Ev.step (fun k=>by apply jobshelllaw23_numbers.l0.eq_2) (zZ (by omega) (zZ (by omega) (zZ (by omega) (zZ rfl ?_))))
    rw [hw]
    exact nums_l0 l hl m (i + 1) (by omega)
theorem nums_f (l:List Int) (hl:l.length≤2000):Ev (fun k=>jobshelllaw23_numbers.f k l l) true:=zZ rfl (nums_l0 l hl l.length 0 (by omega))
end Go.Proofs.Ytpljggoogodhlaa.La

end
section
namespace Go.Proofs.Ytpljggoogodhlaa.Pure
open Go.RowKit Go.Proofs.Ytpljggoogodhlaa.Q Go.Proofs.YtpljggoogodhlaaW.PrintWords Go.Proofs.YtpljggoogodhlaaW.PrintLast Go.Proofs.YtpljggoogodhlaaM Go.Proofs.Ytpljggoogodhlaa.La
theorem FdtabChanges:StFdtabChanges.Pure:=by
  intro l a b c _ _ _ _ _
  apply Ev.rounds
  unfold jobshelllaw23_FdtabChanges.f
  have out:Ev (fun k=>jobshelllaw23_FdtabChanges.j0 k l true a b c) true:=Ev.step (fun k=>by apply jobshelllaw23_FdtabChanges.j0.eq_2) (zZ rfl (Ev.bind awake_ev (ev_some rfl)))
  by_cases h:l.length≤60
  · have hl:l.length≤1000:=by omega
    refine ev_bindc (short_fds l h) (zZ rfl (Ev.bind (ref_val_f l hl) ?_))
    by_cases hr:valFrom l l.length 0=0
    · have ok:=(val_okT l).1 hr
      rw [bne_eq_false_iff_eq.2 hr]
      refine Ev.step (fun k=>by apply jobshelllaw23_FdtabChanges.j0.eq_2) (ev_neg Bool.false_ne_true ?_)
      refine Ev.bind (put_f l a b c (by omega)) (Ev.bind (ref_put_f l a b c hl ok) (ev_bindc (drop_f l a hl ok) (Ev.bind (ref_drop_f l a hl) (Ev.bind (exec_f l hl) (Ev.bind (ref_exec_f l hl) ?_)))))
      have l1:(putSpec l ⟨a,b,c⟩).1.length≤2000:=by
        unfold putSpec
        have:=insL_len l ⟨a,b,c⟩
        split
        · show (insL l ⟨a,b,c⟩).length≤2000;omega
        · show l.length≤2000;omega
      have l2:(dropSpec l a).1.length≤2000:=by
        unfold dropSpec
        have:=dropL_len l a
        split
        · show l.length≤2000;omega
        · show (dropL l a).length≤2000;omega
      have l3:(execSpec l).1.length≤2000:=by
        have:=List.length_filter_le (fun x:S36=>!x.f2) l
        show (l.filter fun x=>!x.f2).length≤2000
        omega
      have l4:(execSpec l).2.length≤2000:=by
        have:=List.length_filter_le (fun x:S36=>x.f2) l
        show ((l.filter fun x=>x.f2).map fun x=>x.f1).length≤2000
        rw [List.length_map];omega
      refine Ev.bind (same36_f _ l1) (zZ rfl (zZ rfl (Ev.bind (same36_f _ l2) (zZ rfl (zZ rfl ?_)))))
      exact Ev.bind (same36_f _ l3) (zZ rfl (Ev.bind (nums_f _ l4) (zZ rfl (Ev.bind awake_ev (ev_some rfl)))))
    · rw [bne_iff_ne.2 hr]
      exact out
  · exact ev_bindc (long_fds l h) (ev_neg (by simp) out)
end Go.Proofs.Ytpljggoogodhlaa.Pure

end
section
namespace Go.Proofs.YtpljggoogodhlaaM
open Go Go.RowKit Go.Proofs.YtpljggoogodhlaaW.PrintWords Go.WideShapes Go.ChangeShapes
def Opens {α:Type} (P:Program) (d:Kd α) (t:TypeId) (G:α→Prop):Prop:=
  ∀ (H:Type) (enc:TypeId × Value→H) (w:World) (spare:Nat→Bool) (held:Bool) (fuel:Nat) (cs:List Value) (dd:DataW H) (ps:List MemPlace),
    DataW.trod enc P w 0 spare held fuel t cs=some (dd,ps)→(dd.weights P t).all (·≤reachBytes)=true→∃ x:α,d.K w x cs∧G x
theorem Opens.imp {α:Type} {P:Program} {d:Kd α} {t:TypeId} {G G':α→Prop} (h:Opens P d t G) (hg:∀ x,G x→G' x):Opens P d t G':=fun H enc w s hd f cs dd ps h1 h2=>by
  obtain ⟨x,hk,hx⟩:=h H enc w s hd f cs dd ps h1 h2
  exact ⟨x,hk,hg x hx⟩
theorem opens_int {P:Program} {t:TypeId} {k:IntKind} (ht:P.underlying t=some (.int k)):Opens P (Kd.int k) t (fun x=>(Lit.int k x).wf=true):=by
  intro H enc w s hd fuel cs dd ps h _
  obtain ⟨n,rfl,_,hw⟩:=DataW.trod_int ht h
  exact ⟨n,rfl,hw⟩
theorem opens_bool {P:Program} {t:TypeId} (ht:P.underlying t=some .bool):Opens P Kd.bool t (fun _=>True):=by
  intro H enc w s hd fuel cs dd ps h _
  obtain ⟨b,rfl,_⟩:=DataW.trod_bool ht h
  exact ⟨b,rfl,trivial⟩
theorem weightsAll_mem {H:Type} {P:Program} {e:TypeId} {d:DataW H}:∀ {l:List (DataW H)},d ∈ l→(DataW.weightsAll P e l).all (·≤reachBytes)=true→(d.weights P e).all (·≤reachBytes)=true
  |a :: l,hd,h=>by
    rw [DataW.weightsAll,List.all_append,Bool.and_eq_true] at h
    rcases List.mem_cons.1 hd with rfl|hd
    · exact h.1
    · exact weightsAll_mem hd h.2
theorem collect {α:Type} {Q:Nat→α→Prop}:∀ {n:Nat},(∀ i,i < n→∃ x,Q i x)→∃ l:List α,l.length=n∧∀ j x,l[j]?=some x→Q j x
  |0,_=>⟨[],rfl,fun j x hx=>by simp at hx⟩
  |n + 1,h=>by
    obtain ⟨l,hl,hq⟩:=collect (n:=n) (fun i hi=>h i (by omega))
    obtain ⟨x,hx⟩:=h n (by omega)
    refine ⟨l ++ [x],by simp [hl],fun j y hy=>?_⟩
    rcases Nat.lt_or_ge j l.length with hj|hj
    · rw [List.getElem?_append_left hj] at hy
      exact hq j y hy
    · rw [List.getElem?_append_right hj] at hy
      have h0:j - l.length=0:=by
        rcases Nat.eq_zero_or_pos (j - l.length) with h0|h0
        · exact h0
        · rw [List.getElem?_eq_none (by simp;omega)] at hy
          cases hy
      rw [h0] at hy
      obtain rfl:x=y:=by simpa using hy
      obtain rfl:j=n:=by omega
      exact hx
theorem add_add_ (a:Addr) (i j:Nat):(a.add i).add j=a.add (i + j):=by
  by_cases hi:i=0
  · subst hi
    simp [Addr.add]
  · by_cases hj:j=0
    · subst hj
      simp [Addr.add,hi]
    · simp [Addr.add,hi,hj,Nat.add_assoc]
theorem opens_slice {α:Type} {P:Program} {d:Kd α} {t e:TypeId} {G:α→Prop} (ht:P.underlying t=some (.slice e)) (he:Opens P d e G) (hsz:P.cellsOf e=d.sz) :
    Opens P (Kd.slice e d) t (fun l=>l.length * P.bytesOf e≤140737488351232∧l.length≤maxLen∧∀ x ∈ l,G x):=by
  intro H enc w s hd fuel cs dd ps h hw
  rcases Go.Deep.open_slice ht h with ⟨rfl,_⟩|⟨a,len,cap,m,n,D,Pl,rfl,hb,hl,hm,hmm,hx,hget⟩
  · exact ⟨[],⟨none,0,rfl,Nat.le_refl _,rfl,by simp,fun h0=>absurd h0 (by simp)⟩,by simp,by simp,by simp⟩
  · injection hx with h1 h2
    subst h1
    have hlm:len≤m:=by rw [hmm];split <;> omega
    have hw1:(len * P.bytesOf e≤reachBytes)∧∀ i,i < len→((D i).weights P e).all (·≤reachBytes)=true:=by
      simp only [DataW.weights,ht,List.all_cons,List.all_append,Bool.and_eq_true,decide_eq_true_eq,List.length_map,List.length_range] at hw
      obtain ⟨hw1,hw2,_⟩:=hw
      refine ⟨Nat.le_trans (Nat.mul_le_mul_right _ (Nat.le_add_right _ _)) hw1,fun i hi=>weightsAll_mem (List.mem_map.2 ⟨i,List.mem_range.2 hi,rfl⟩) hw2⟩
    have hex:∀ i:Nat,i < len→∃ x:α,G x∧∃ c,c.length=d.sz∧d.K w x c∧∀ q u,c[q]?=some u→w.cell? ((a.add (i * P.cellsOf e)).add q)=some u:=by
      intro i hi
      obtain ⟨cs',h1,h2⟩:=hget i (by omega)
      obtain ⟨x,hk,hg⟩:=he H enc w s hd n cs' (D i) (Pl i) h2 (hw1.2 i hi)
      obtain ⟨_,hlen,hc⟩:=World.cells?_some h1
      refine ⟨x,hg,cs',hlen.trans hsz,hk,fun q u hq=>?_⟩
      have hq':q < P.cellsOf e:=by rw [← hlen];exact (List.getElem?_eq_some_iff.1 hq).1
      rw [hc q hq']
      exact hq
    obtain ⟨l,hll,hl2⟩:=collect hex
    subst hll
    have hmax:cap≤9223372036854775807:=hm
    refine ⟨l,⟨some a,cap,rfl,hl,rfl,by omega,fun _=>⟨a,rfl,fun j x hj=>?_⟩⟩,hw1.1,Nat.le_trans hl hm,fun x hx=>?_⟩
    · obtain ⟨_,c,hc,hk,hcell⟩:=hl2 j x hj
      refine ⟨c,hc,hk,fun q u hq=>?_⟩
      rw [← add_add_ a (j * d.sz) q,← hsz]
      exact hcell q u hq
    · obtain ⟨j,hj⟩:=List.getElem?_of_mem hx
      exact (hl2 j x hj).1
def OpensF {γ:Type} (P:Program) (fs:List Field) (o n:Nat) (d:Kd γ) (G:γ→Prop):Prop:=
  ∀ (H:Type) (enc:TypeId × Value→H) (w:World) (spare:Nat→Bool) (held:Bool) (fuel:Nat) (cs:List Value) (xs:List (DataW H × List MemPlace)),cs.length=n→xs.length=fs.length→
    (∀ (i:Nat) (f:Field),fs[i]?=some f→DataW.trod enc P w 0 spare held fuel f.type ((cs.drop f.offset).take (P.cellsOf f.type))=xs[i]?)→
    (DataW.weightsEach P (fs.map (·.type)) (xs.map (·.1))).all (·≤reachBytes)=true→∃ x:γ,d.K w x (cs.drop o)∧G x
theorem OpensF.last {γ:Type} {P:Program} {f:Field} {o n:Nat} {d:Kd γ} {G:γ→Prop} (h:Opens P d f.type G) (ho:f.offset=o) (hn:n=o + P.cellsOf f.type):OpensF P [f] o n d G:=by
  intro H enc w s hd fuel cs xs hl hx hf hw
  obtain ⟨x0,rfl⟩:∃ x0,xs=[x0]:=by
    rcases xs with _|⟨x0,_|⟨x1,r⟩⟩
    · cases hx
    · exact ⟨x0,rfl⟩
    · simp at hx
  have h0:=hf 0 f rfl
  rw [ho,List.take_of_length_le (by rw [List.length_drop];omega)] at h0
  obtain ⟨x1,x2⟩:=x0
  refine h H enc w s hd fuel _ x1 x2 (by rw [h0];rfl) ?_
  simpa [DataW.weightsEach] using hw
theorem OpensF.next {α γ:Type} {P:Program} {f:Field} {fs:List Field} {o n:Nat} {a:Kd α} {b:Kd γ} {Ga:α→Prop} {Gb:γ→Prop} (h:Opens P a f.type Ga) (ho:f.offset=o) (m:Nat) (hm:m=o + P.cellsOf f.type) (hr:OpensF P fs m n b Gb) :
    OpensF P (f :: fs) o n (Kd.pair a b) (fun x=>Ga x.1∧Gb x.2):=by
  intro H enc w s hd fuel cs xs hl hx hf hw
  rcases xs with _|⟨⟨x1,x2⟩,xs⟩
  · cases hx
  have h0:=hf 0 f rfl
  rw [ho] at h0
  simp only [List.map_cons,DataW.weightsEach,List.all_append,Bool.and_eq_true] at hw
  obtain ⟨x,hk,hg⟩:=h H enc w s hd fuel _ x1 x2 (by rw [h0];rfl) hw.1
  obtain ⟨y,hk2,hg2⟩:=hr H enc w s hd fuel cs xs hl (by simpa using hx) (fun i f' hf'=>hf (i + 1) f' (by simpa using hf')) hw.2
  refine ⟨(x,y),⟨_,_,?_,hk,hk2⟩,hg,hg2⟩
  rw [hm,← List.drop_drop,List.take_append_drop]
theorem Opens.struct {γ:Type} {P:Program} {t:TypeId} {fs:Array Field} {n:Nat} {d:Kd γ} {G:γ→Prop} (ht:P.underlying t=some (.struct fs)) (hn:P.cellsOf t=n) (h:OpensF P fs.toList 0 n d G):Opens P d t G:=by
  intro H enc w s hd fuel cs dd ps h1 hw
  obtain ⟨xs,m,_,hx,hl,hlen,hf⟩:=DataW.trod_struct ht h1
  injection hx with h2 h3
  subst h2
  have:=h H enc w s hd m cs xs (hl.trans hn) (by simpa using hlen) (fun i f hf'=>hf i f (by simpa using hf')) (by simpa [DataW.weights,ht] using hw)
  simpa using this
theorem Opens.iso {α β:Type} {P:Program} {t:TypeId} {d:Kd α} {G:α→Prop} (h:Opens P d t G) (f:β→α) (g:α→β) (hfg:∀ x,f (g x)=x):Opens P (Kd.iso d f) t (fun y=>G (f y)):=by
  intro H enc w s hd fuel cs dd ps h1 hw
  obtain ⟨x,hk,hg⟩:=h H enc w s hd fuel cs dd ps h1 hw
  exact ⟨g x,by show d.K w (f (g x)) cs;rw [hfg];exact hk,by show G (f (g x));rw [hfg];exact hg⟩
theorem Opens.arg {α:Type} {P:Program} {d:Kd α} {t:TypeId} {G:α→Prop} (h:Opens P d t G) {H:Type} {enc:TypeId × Value→H} {w:World} {spare:Nat→Bool} {held:Bool} {v:Value} {dd:DataW H} {ps:List MemPlace} {ts:List TypeId} {ds:List (DataW H)}
    (hT:DataW.Trod enc P w 0 spare held t v dd ps) (hs:(DataW.weightsEach P ts ds).all (·≤reachBytes)=true) {j:Nat} (h1:ts[j]?=some t) (h2:ds[j]?=some dd):∃ x:α,d.K w x v.cells.toList∧G x:=by
  obtain ⟨fuel,hf⟩:=hT
  exact h H enc w spare held fuel _ dd ps hf (List.all_eq_true.2 (fun n hn=>List.all_eq_true.1 hs n (DataW.weights_mem_each h1 h2 n hn)))
end Go.Proofs.YtpljggoogodhlaaM

end
