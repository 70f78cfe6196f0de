/- Own texts of one claim, put one behind the other by wip/tool/pack.py: words beside the print's, what each printed function computes, and the plain laws. -/
import Derived.Test.YtnkkdpjipfjdaaaDoorKStB
section

namespace Go.Proofs.YtnkkdpjipfjdaaaDoor.Q
open Go.RowKit Go.Proofs.YtnkkdpjipfjdaaaDoorW.PrintWords Go.Proofs.YtnkkdpjipfjdaaaDoorW.PrintLast Go.Proofs.YtnkkdpjipfjdaaaDoorW.PrintMore Go.Proofs.YtnkkdpjipfjdaaaDoorM
open Kd
attribute [local go_sem] max2_int min2_int max_two min_two max_three min_three max_four min_four
set_option linter.unusedVariables false
set_option linter.unusedSimpArgs false
def slices_BinarySearch_int_int.l0:Nat→List Int→Int→Int→Int→Int→Option (Int × Bool)
 |0,_,_,_,_,_=>none
 |k + 1,x0,x1,x6,x7,x8=>if x7 < x8 then (if 0≤(wrap64 ((IntKind.u64.wrap (wrap64 (x7 + x8))) / 2)) then (if (wrap64 ((IntKind.u64.wrap (wrap64 (x7 + x8))) / 2)) < (x0.length:Int) then ((cmp_Less_int.f (rd x0 (wrap64 ((IntKind.u64.wrap (wrap64 (x7 + x8))) / 2))) x1).bind fun t152=>(if t152=true then (slices_BinarySearch_int_int.l0 k x0 x1 x6 (wrap64 ((wrap64 ((IntKind.u64.wrap (wrap64 (x7 + x8))) / 2)) + 1)) x8) else (slices_BinarySearch_int_int.l0 k x0 x1 x6 x7 (wrap64 ((IntKind.u64.wrap (wrap64 (x7 + x8))) / 2))))) else (none)) else (none)) else (if x7 < x6 then (if 0≤x7 then (if x7 < (x0.length:Int) then (if (rd x0 x7)=x1 then (some (x7,true)) else ((slices_isNaN_int.f (rd x0 x7)).bind fun t155=>(if t155=true then ((slices_isNaN_int.f x1).bind fun t156=>(some (x7,t156))) else (some (x7,false))))) else (none)) else (none)) else (some (x7,false)))
def slices_BinarySearch_int_int.f (k:Nat) (l0:List Int) (a1:Int):Option (Int × Bool):=slices_BinarySearch_int_int.l0 k l0 a1 (l0.length:Int) 0 (l0.length:Int)
theorem slices_BinarySearch_int_int.mono_l:∀ k,(∀ y0 y1 y2 y3 y4,LeO (slices_BinarySearch_int_int.l0 k y0 y1 y2 y3 y4) (slices_BinarySearch_int_int.l0 (k + 1) y0 y1 y2 y3 y4))
 |0=>fun _ _ _ _ _ r h=>by simp [slices_BinarySearch_int_int.l0] at h
 |k + 1=>by
  have ih0:=slices_BinarySearch_int_int.mono_l k
  ·intro y0 y1 y2 y3 y4
   unfold slices_BinarySearch_int_int.l0
   repeat' first
   |(with_reducible exact ih0 _ _ _ _ _)
   |(with_reducible exact LeO.refl _)
   |(with_reducible exact LeO.none _)
   |(with_reducible refine LeO.ite ?_ ?_)
   |(with_reducible refine LeO.bind ?_ (fun _=>?_))
   |exact ih0 _ _ _ _ _
   |exact LeO.none _
   |refine LeO.ite ?_ ?_
   |refine LeO.bind ?_ (fun _=>?_)
theorem slices_BinarySearch_int_int.mono:∀ a0 a1 k,LeO (slices_BinarySearch_int_int.f k a0 a1) (slices_BinarySearch_int_int.f (k + 1) a0 a1):=by
 intro a0 a1 k
 have ih0:=slices_BinarySearch_int_int.mono_l k
 unfold slices_BinarySearch_int_int.f
 repeat' first
   |(with_reducible exact ih0 _ _ _ _ _)
   |(with_reducible exact LeO.refl _)
   |(with_reducible exact LeO.none _)
   |(with_reducible refine LeO.ite ?_ ?_)
   |(with_reducible refine LeO.bind ?_ (fun _=>?_))
   |exact ih0 _ _ _ _ _
   |exact LeO.none _
   |refine LeO.ite ?_ ?_
   |refine LeO.bind ?_ (fun _=>?_)
set_option maxHeartbeats 8000000 in
set_option maxRecDepth 10000000 in
theorem slices_BinarySearch_int_int.calls (k:Nat) (A0:Option Addr) (c0:Nat) (l0:List Int) (a1:Int) (r1:Int) (r2:Bool) (w:World) (hr0:Kd.C (Kd.int .i64) w A0 l0.length l0) (hc0:l0.length≤c0) (h:slices_BinarySearch_int_int.f k l0 a1=some (r1,r2)) :
  Calls Tryd.prog 55 #[.slice A0 l0.length c0,.int .i64 a1] w fun e w'=>e=.returned (.tuple #[.int .i64 r1,.bool r2])∧Drawn0 w w':=by
 have HR0:=Zk hr0
 have HC0:=Zk hc0
 clear hr0 hc0
 have H:(slices_BinarySearch_int_int.l0 k l0 a1 (l0.length:Int) 0 (l0.length:Int))=some (r1,r2):=h
 clear h
 have H':=Zk H
 clear H
 go_enter Tryd.func55,Tryd.ntmps55
 go_wp2
 go_loopg [7,8] k (fun kq v7 v8 w'=>∃ (x7_1:Int) (x8_1:Int),v7=.int .i64 x7_1∧v8=.int .i64 x8_1∧zN (slices_BinarySearch_int_int.l0 kq l0 a1 (l0.length:Int) x7_1 x8_1=some (r1,r2))∧zN (kq≤k)∧Drawn0 w w')
 case atStart=>exact ⟨(0),((l0.length:Int)),(by first|rfl|(simp;done)|(simp [*];done)|(generalize ByteArray.toList _=l_;cases l_ <;> rfl)),(by first|rfl|(simp;done)|(simp [*];done)|(generalize ByteArray.toList _=l_;cases l_ <;> rfl)),H',⟨Nat.le_refl _⟩,by repeat (first|exact Drawn0.refl _|apply Drawn0.step)⟩
 case round=>
  clear H'
  try clear p2
  obtain ⟨x7_1,x8_1,rfl,rfl,HA,HK1,⟨m1,rfl⟩⟩:=hrel
  cases gk with
  |zero=>exact absurd HA.out (by simp [slices_BinarySearch_int_int.l0])
  |succ k1=>
   have H:=HA.out
   clear HA
   simp only [slices_BinarySearch_int_int.l0] at H
   by_cases c3:x7_1 < x8_1
   ·rw [if_pos c3] at H
    have c3b0:decide (x7_1 < x8_1)=true:=decide_eq_true c3
    clear c3
    obtain ⟨ji4,hji4⟩:∃ j_:Int,(wrap64 ((IntKind.u64.wrap (wrap64 (x7_1 + x8_1))) / 2))=j_:=⟨_,rfl⟩
    replace H:(if 0≤(ji4) then (if (ji4) < (l0.length:Int) then ((cmp_Less_int.f (rd l0 (ji4)) a1).bind fun t152=>(if t152=true then (slices_BinarySearch_int_int.l0 k1 l0 a1 (l0.length:Int) (wrap64 ((ji4) + 1)) x8_1) else (slices_BinarySearch_int_int.l0 k1 l0 a1 (l0.length:Int) x7_1 ji4))) else (none)) else (none))=some (r1,r2):=by first|(rw [hji4] at H;exact H)|(simp only [hji4] at H ⊢;exact H)
    have hji4w:(IntKind.i64.wrap ((IntKind.u64.wrap (wrap64 (x7_1 + x8_1))) / 2))=ji4:=(yX _).trans hji4
    by_cases c5:0≤(ji4)
    ·rw [if_pos c5] at H
     have c5b0:decide (0≤(ji4))=true:=decide_eq_true c5
     clear c5
     by_cases c6:(ji4) < (l0.length:Int)
     ·rw [if_pos c6] at H
      have c6b0:decide ((ji4) < (l0.length:Int))=true:=decide_eq_true c6
      clear c6
      replace H:=Option.bind_eq_some_iff.mp H
      obtain ⟨t152,A70,H⟩:=H
      replace H:(if t152=true then (slices_BinarySearch_int_int.l0 k1 l0 a1 (l0.length:Int) (wrap64 ((ji4) + 1)) x8_1) else (slices_BinarySearch_int_int.l0 k1 l0 a1 (l0.length:Int) x7_1 ji4))=some (r1,r2):=H
      have A7:=Zk A70
      clear A70
      by_cases c8:t152=true
      ·subst c8
       have H1:(slices_BinarySearch_int_int.l0 k1 l0 a1 (l0.length:Int) (wrap64 ((ji4) + 1)) x8_1)=some (r1,r2):=by rw [if_pos rfl] at H;exact H
       clear H
       have H:=H1
       clear H1
       have H':=Zk H
       clear H
       have p151:0≤((ji4):Int):=of_decide_eq_true (by first|(with_reducible assumption)|assumption)
       have q151:(ji4) < (l0.length:Int):=of_decide_eq_true (by first|(with_reducible assumption)|assumption)
       obtain ⟨ad151,e151,hx151_0⟩:=Kd.at_int HR0.out (ji4) p151 q151
       cases e151
       replace p151:=eq_true p151
       replace q151:=eq_true q151
       go_wp2_with (first|((with_reducible refine yD (f:=59) rfl ?_);refine yM (some 27) rfl rfl Tryd.func59 (by kernel_rfl) rfl #[.int .i64 (rd l0 (ji4)),.int .i64 a1] rfl (by (try simp only [List.map_toArray,List.map_cons,List.map_nil]);first|done|(simp only [hji4];rfl)|rfl|(simp only [List.length_drop,List.length_take];rfl)) ?_;(with_reducible refine (cmp_Less_int.calls (rd l0 (ji4)) a1 true _ A7.out).mono ?_);rintro e w' ⟨rfl,⟨nd,rfl⟩⟩;refine ⟨_,rfl,?_⟩))
       go_roundg k1
       case measure=>have:=HK1.out;omega
       case rel=>exact ⟨(wrap64 ((ji4) + 1)),(x8_1),(by first|rfl|(simp;done)|(simp only [← hji4] <;> (first|rfl|simp))|(simp [*];done)|(generalize ByteArray.toList _=l_;cases l_ <;> rfl)),(by first|rfl|(simp;done)|(simp [*];done)|(generalize ByteArray.toList _=l_;cases l_ <;> rfl)),H',⟨by have:=HK1.out;omega⟩,by repeat (first|exact Drawn0.refl _|apply Drawn0.step)⟩
      ·replace c8:=Bool.eq_false_iff.mpr c8
       subst c8
       have H1:(slices_BinarySearch_int_int.l0 k1 l0 a1 (l0.length:Int) x7_1 ji4)=some (r1,r2):=by rw [if_neg (show ¬ (false=true) by decide)] at H;exact H
       clear H
       have H:=H1
       clear H1
       have H':=Zk H
       clear H
       have p151:0≤((ji4):Int):=of_decide_eq_true (by first|(with_reducible assumption)|assumption)
       have q151:(ji4) < (l0.length:Int):=of_decide_eq_true (by first|(with_reducible assumption)|assumption)
       obtain ⟨ad151,e151,hx151_0⟩:=Kd.at_int HR0.out (ji4) p151 q151
       cases e151
       replace p151:=eq_true p151
       replace q151:=eq_true q151
       go_wp2_with (first|((with_reducible refine yD (f:=59) rfl ?_);refine yM (some 27) rfl rfl Tryd.func59 (by kernel_rfl) rfl #[.int .i64 (rd l0 (ji4)),.int .i64 a1] rfl (by (try simp only [List.map_toArray,List.map_cons,List.map_nil]);first|done|(simp only [hji4];rfl)|rfl|(simp only [List.length_drop,List.length_take];rfl)) ?_;(with_reducible refine (cmp_Less_int.calls (rd l0 (ji4)) a1 false _ A7.out).mono ?_);rintro e w' ⟨rfl,⟨nd,rfl⟩⟩;refine ⟨_,rfl,?_⟩))
       go_roundg k1
       case measure=>have:=HK1.out;omega
       case rel=>exact ⟨(x7_1),(ji4),(by first|rfl|(simp;done)|(simp [*];done)|(generalize ByteArray.toList _=l_;cases l_ <;> rfl)),(by first|rfl|(simp;done)|(simp only [← hji4] <;> (first|rfl|simp))|(simp [*];done)|(generalize ByteArray.toList _=l_;cases l_ <;> rfl)),H',⟨by have:=HK1.out;omega⟩,by repeat (first|exact Drawn0.refl _|apply Drawn0.step)⟩
     ·rw [if_neg c6] at H
      exact absurd H (by simp)
    ·rw [if_neg c5] at H
     exact absurd H (by simp)
   ·rw [if_neg c3] at H
    have c3b0:decide (x7_1 < x8_1)=false:=decide_eq_false c3
    clear c3
    by_cases c9:x7_1 < (l0.length:Int)
    ·rw [if_pos c9] at H
     have c9b0:decide (x7_1 < (l0.length:Int))=true:=decide_eq_true c9
     clear c9
     by_cases c10:0≤x7_1
     ·rw [if_pos c10] at H
      have c10b0:decide (0≤x7_1)=true:=decide_eq_true c10
      clear c10
      by_cases c11:x7_1 < (l0.length:Int)
      ·rw [if_pos c11] at H
       have c11b0:decide (x7_1 < (l0.length:Int))=true:=decide_eq_true c11
       clear c11
       by_cases c12:(rd l0 x7_1)=a1
       ·rw [if_pos c12] at H
        have c12b0:((rd l0 x7_1) == a1)=true:=beq_iff_eq.mpr c12
        have c12b1:((rd l0 x7_1) != a1)=false:=bne_eq_false_iff_eq.mpr c12
        clear c12
        simp only [Option.some.injEq,Prod.mk.injEq] at H
        obtain ⟨rfl,rfl⟩:=H
        have p153:0≤(x7_1:Int):=of_decide_eq_true (by first|(with_reducible assumption)|assumption)
        have q153:x7_1 < (l0.length:Int):=of_decide_eq_true (by first|(with_reducible assumption)|assumption)
        obtain ⟨ad153,e153,hx153_0⟩:=Kd.at_int HR0.out x7_1 p153 q153
        cases e153
        replace p153:=eq_true p153
        replace q153:=eq_true q153
        go_wp2
        go_ret2
        exact ⟨by first|rfl|(simp;done)|(simp [*];done),by repeat (first|exact Drawn0.refl _|apply Drawn0.step)⟩
       ·rw [if_neg c12] at H
        have c12b0:((rd l0 x7_1) == a1)=false:=beq_eq_false_iff_ne.mpr c12
        have c12b1:((rd l0 x7_1) != a1)=true:=bne_iff_ne.mpr c12
        replace H:=Option.bind_eq_some_iff.mp H
        obtain ⟨t155,A130,H⟩:=H
        replace H:(if t155=true then ((slices_isNaN_int.f a1).bind fun t156=>(some (x7_1,t156))) else (some (x7_1,false)))=some (r1,r2):=H
        have A13:=Zk A130
        clear A130
        by_cases c14:t155=true
        ·subst c14
         have H1:((slices_isNaN_int.f a1).bind fun t156=>(some (x7_1,t156)))=some (r1,r2):=by rw [if_pos rfl] at H;exact H
         clear H
         have H:=H1
         clear H1
         replace H:=Option.bind_eq_some_iff.mp H
         obtain ⟨t156,A150,H⟩:=H
         replace H:(some (x7_1,t156))=some (r1,r2):=H
         have A15:=Zk A150
         clear A150
         simp only [Option.some.injEq,Prod.mk.injEq] at H
         obtain ⟨rfl,rfl⟩:=H
         have p153:0≤(x7_1:Int):=of_decide_eq_true (by first|(with_reducible assumption)|assumption)
         have q153:x7_1 < (l0.length:Int):=of_decide_eq_true (by first|(with_reducible assumption)|assumption)
         obtain ⟨ad153,e153,hx153_0⟩:=Kd.at_int HR0.out x7_1 p153 q153
         cases e153
         replace p153:=eq_true p153
         replace q153:=eq_true q153
         have p154:0≤(x7_1:Int):=of_decide_eq_true (by first|(with_reducible assumption)|assumption)
         have q154:x7_1 < (l0.length:Int):=of_decide_eq_true (by first|(with_reducible assumption)|assumption)
         obtain ⟨ad154,e154,hx154_0⟩:=Kd.at_int HR0.out x7_1 p154 q154
         obtain rfl:ad153=ad154:=(by injection e154)
         replace p154:=eq_true p154
         replace q154:=eq_true q154
         go_wp2_with (first|(go_at_call 60;(with_reducible refine (slices_isNaN_int.calls (rd l0 x7_1) true _ A13.out).mono ?_);rintro e w' ⟨rfl,⟨nd,rfl⟩⟩)|(go_at_call 60;(with_reducible refine (slices_isNaN_int.calls a1 t156 _ A15.out).mono ?_);rintro e w' ⟨rfl,⟨nd,rfl⟩⟩))
         go_ret2
         exact ⟨by first|rfl|(simp;done)|(simp [*];done),by repeat (first|exact Drawn0.refl _|apply Drawn0.step)⟩
        ·replace c14:=Bool.eq_false_iff.mpr c14
         subst c14
         have H1:(some (x7_1,false))=some (r1,r2):=by rw [if_neg (show ¬ (false=true) by decide)] at H;exact H
         clear H
         have H:=H1
         clear H1
         simp only [Option.some.injEq,Prod.mk.injEq] at H
         obtain ⟨rfl,rfl⟩:=H
         have p153:0≤(x7_1:Int):=of_decide_eq_true (by first|(with_reducible assumption)|assumption)
         have q153:x7_1 < (l0.length:Int):=of_decide_eq_true (by first|(with_reducible assumption)|assumption)
         obtain ⟨ad153,e153,hx153_0⟩:=Kd.at_int HR0.out x7_1 p153 q153
         cases e153
         replace p153:=eq_true p153
         replace q153:=eq_true q153
         have p154:0≤(x7_1:Int):=of_decide_eq_true (by first|(with_reducible assumption)|assumption)
         have q154:x7_1 < (l0.length:Int):=of_decide_eq_true (by first|(with_reducible assumption)|assumption)
         obtain ⟨ad154,e154,hx154_0⟩:=Kd.at_int HR0.out x7_1 p154 q154
         obtain rfl:ad153=ad154:=(by injection e154)
         replace p154:=eq_true p154
         replace q154:=eq_true q154
         go_wp2_with (first|(go_at_call 60;(with_reducible refine (slices_isNaN_int.calls (rd l0 x7_1) false _ A13.out).mono ?_);rintro e w' ⟨rfl,⟨nd,rfl⟩⟩))
         go_ret2
         exact ⟨by first|rfl|(simp;done)|(simp [*];done),by repeat (first|exact Drawn0.refl _|apply Drawn0.step)⟩
      ·rw [if_neg c11] at H
       exact absurd H (by simp)
     ·rw [if_neg c10] at H
      exact absurd H (by simp)
    ·rw [if_neg c9] at H
     have c9b0:decide (x7_1 < (l0.length:Int))=false:=decide_eq_false c9
     clear c9
     simp only [Option.some.injEq,Prod.mk.injEq] at H
     obtain ⟨rfl,rfl⟩:=H
     go_wp2
     go_ret2
     exact ⟨by first|rfl|(simp;done)|(simp [*];done),by repeat (first|exact Drawn0.refl _|apply Drawn0.step)⟩
def signal_with.f (k:Nat) (l0:List Int) (a1:Int):Option (List Int):=(slices_BinarySearch_int_int.f k l0 a1).bind fun b=>if l0.length < 17592186044416 then (if b.2=true then some l0 else if 0≤b.1∧b.1≤(l0.length:Int) then some (l0.take b.1.toNat ++ a1 :: l0.drop b.1.toNat) else none) else none
theorem signal_with.mono:∀ a0 a1 k,LeO (signal_with.f k a0 a1) (signal_with.f (k + 1) a0 a1):=by
 intro a0 a1 k
 unfold signal_with.f
 exact LeO.bind (slices_BinarySearch_int_int.mono _ _ _) (fun _=>LeO.refl _)
theorem signal_with.calls (k:Nat) (A0:Option Addr) (c0:Nat) (l0:List Int) (a1:Int) (r:List Int) (w:World) (hr0:Kd.C (Kd.int .i64) w A0 l0.length l0) (hc0:l0.length≤c0) (h:signal_with.f k l0 a1=some r) :
  Calls Tryd.prog 45 #[.slice A0 l0.length c0,.int .i64 a1] w fun e w'=>∃ v0_:Value,e=.returned v0_∧Kd.R (Kd.int .i64) 3 w' w.heap.size (fun _=>True) v0_ r∧Below w.heap.size w w':=by
 unfold signal_with.f at h
 obtain ⟨⟨r1,r2⟩,hb,h⟩:=Option.bind_eq_some_iff.mp h
 dsimp only at h
 by_cases c2:l0.length < 17592186044416
 ·rw [if_pos c2] at h
  have hbs:=slices_BinarySearch_int_int.calls k A0 c0 l0 a1 r1 r2 w hr0 hc0 hb
  have hcl:=fun m=>slices_Clone_int_int.calls A0 c0 l0 l0 (w.drewN m) (yF hr0 m) hc0 (by unfold slices_Clone_int_int.f;rw [if_pos c2])
  cases r2 with
  |true=>
   rw [if_pos rfl] at h
   obtain rfl:=Option.some.inj h
   exact Go.Proofs.YtnkkdpjipfjdaaaDoor.Ix.with_hit A0 c0 l0 a1 r1 w hbs hcl
  |false=>
   rw [if_neg (by simp)] at h
   by_cases c3:0≤r1∧r1≤(l0.length:Int)
   ·rw [if_pos c3] at h
    obtain rfl:=Option.some.inj h
    obtain ⟨i,rfl⟩:=Int.eq_ofNat_of_zero_le c3.1
    exact Go.Proofs.YtnkkdpjipfjdaaaDoor.Ix.with_miss A0 c0 l0 a1 i (by omega) c2 w hbs hcl
   ·rw [if_neg c3] at h;cases h
 ·rw [if_neg c2] at h;cases h
def signal_Send.j0:Nat→Int→List Int→List Int→List Int→Option (List Int × List Int × List Int)
 |0,_,_,_,_=>none
 |k + 1,x1,x158000,x158001,x158002=>if x1=18 then ((signal_with.f k x158000 x1).bind fun t176=>(some (t176,x158001,x158002))) else ((slices_Contains_int_int.f k x158001 x1).bind fun t179=>(if t179=true then (some (x158000,x158001,x158002)) else ((signal_with.f k x158000 x1).bind fun t180=>(some (t180,x158001,x158002)))))
def signal_Send.f (k:Nat) (l0_0:List Int) (l0_1:List Int) (l0_2:List Int) (a1:Int):Option (List Int × List Int × List Int):=(signal_Name.f a1).bind fun t159=>(if t159.toList=([]:List UInt8) then (some (l0_0,l0_1,l0_2)) else ((signal_copied.f l0_0 l0_1 l0_2).bind fun bt160=>(if a1=18 then ((signal_without_stops.f bt160.1 0).bind fun t169=>(signal_Send.j0 k a1 t169 bt160.2.1 bt160.2.2)) else ((signal_stops.f a1).bind fun t172=>(if t172=true then ((signal_without_1_44.f bt160.1 0).bind fun t173=>(signal_Send.j0 k a1 t173 bt160.2.1 bt160.2.2)) else (signal_Send.j0 k a1 bt160.1 bt160.2.1 bt160.2.2))))))
theorem signal_Send.mono_l:∀ k,(∀ y0 y1 y2 y3,LeO (signal_Send.j0 k y0 y1 y2 y3) (signal_Send.j0 (k + 1) y0 y1 y2 y3))
 |0=>fun _ _ _ _ r h=>by simp [signal_Send.j0] at h
 |k + 1=>by
  have ih0:=signal_Send.mono_l k
  ·intro y0 y1 y2 y3
   unfold signal_Send.j0
   repeat' first
   |(with_reducible exact ih0 _ _ _ _)
   |(with_reducible exact signal_with.mono _ _ _)
   |(with_reducible exact slices_Contains_int_int.mono _ _ _)
   |(with_reducible exact LeO.refl _)
   |(with_reducible exact LeO.none _)
   |(with_reducible refine LeO.ite ?_ ?_)
   |(with_reducible refine LeO.bind ?_ (fun _=>?_))
   |exact ih0 _ _ _ _
   |exact signal_with.mono _ _ _
   |exact slices_Contains_int_int.mono _ _ _
   |exact LeO.none _
   |refine LeO.ite ?_ ?_
   |refine LeO.bind ?_ (fun _=>?_)
theorem signal_Send.mono:∀ a0 a1 a2 a3 k,LeO (signal_Send.f k a0 a1 a2 a3) (signal_Send.f (k + 1) a0 a1 a2 a3):=by
 intro a0 a1 a2 a3 k
 have ih0:=signal_Send.mono_l k
 unfold signal_Send.f
 repeat' first
   |(with_reducible exact ih0 _ _ _ _)
   |(with_reducible exact signal_with.mono _ _ _)
   |(with_reducible exact slices_Contains_int_int.mono _ _ _)
   |(with_reducible exact LeO.refl _)
   |(with_reducible exact LeO.none _)
   |(with_reducible refine LeO.ite ?_ ?_)
   |(with_reducible refine LeO.bind ?_ (fun _=>?_))
   |exact ih0 _ _ _ _
   |exact signal_with.mono _ _ _
   |exact slices_Contains_int_int.mono _ _ _
   |exact LeO.none _
   |refine LeO.ite ?_ ?_
   |refine LeO.bind ?_ (fun _=>?_)
set_option maxHeartbeats 8000000 in
set_option maxRecDepth 10000000 in
theorem signal_Send.calls (k:Nat) (P0_0_:Nat→Prop) (A0_0:Option Addr) (c0_0:Nat) (l0_0:List Int) (P0_1_:Nat→Prop) (A0_1:Option Addr) (c0_1:Nat) (l0_1:List Int) (P0_2_:Nat→Prop) (A0_2:Option Addr) (c0_2:Nat) (l0_2:List Int) (a1:Int) (r1:List Int) (r2:List Int) (r3:List Int) (w:World) (hs0_0:Kd.V (Kd.int .i64) 3 w w.heap.size (fun k_=>P0_0_ k_) (.slice A0_0 l0_0.length c0_0) l0_0) (hs0_1:Kd.V (Kd.int .i64) 3 w w.heap.size (fun k_=>P0_1_ k_) (.slice A0_1 l0_1.length c0_1) l0_1) (hs0_2:Kd.V (Kd.int .i64) 3 w w.heap.size (fun k_=>P0_2_ k_) (.slice A0_2 l0_2.length c0_2) l0_2) (h:signal_Send.f k l0_0 l0_1 l0_2 a1=some (r1,r2,r3)) :
  Calls Tryd.prog 22 #[.agg #[.slice A0_0 l0_0.length c0_0,.slice A0_1 l0_1.length c0_1,.slice A0_2 l0_2.length c0_2],.int .i64 a1] w fun e w'=>∃ v0_ v1_ v2_:Value,e=.returned (.agg #[v0_,v1_,v2_])∧Kd.V (Kd.int .i64) 3 w' w.heap.size (fun k_=>((P0_0_ k_∨P0_1_ k_∨P0_2_ k_)∨w.heap.size≤k_)) v0_ r1∧Kd.V (Kd.int .i64) 3 w' w.heap.size (fun k_=>((P0_0_ k_∨P0_1_ k_∨P0_2_ k_)∨w.heap.size≤k_)) v1_ r2∧Kd.V (Kd.int .i64) 3 w' w.heap.size (fun k_=>((P0_0_ k_∨P0_1_ k_∨P0_2_ k_)∨w.heap.size≤k_)) v2_ r3∧Below w.heap.size w w':=by
 have hu30:=Tryd.underlying30
 have HO0_0:=Zk (show Kd.V (Kd.int .i64) 3 w w.heap.size (fun k_=>((P0_0_ k_∨P0_1_ k_∨P0_2_ k_)∨w.heap.size≤k_)) (.slice A0_0 l0_0.length c0_0) l0_0 from zO hs0_0 (fun k_ hk=>.inl (.inl hk)))
 have HO0_1:=Zk (show Kd.V (Kd.int .i64) 3 w w.heap.size (fun k_=>((P0_0_ k_∨P0_1_ k_∨P0_2_ k_)∨w.heap.size≤k_)) (.slice A0_1 l0_1.length c0_1) l0_1 from zO hs0_1 (fun k_ hk=>.inl (.inr (.inl hk))))
 have HO0_2:=Zk (show Kd.V (Kd.int .i64) 3 w w.heap.size (fun k_=>((P0_0_ k_∨P0_1_ k_∨P0_2_ k_)∨w.heap.size≤k_)) (.slice A0_2 l0_2.length c0_2) l0_2 from zO hs0_2 (fun k_ hk=>.inl (.inr (.inr hk))))
 have HB:=Zk (Below.refl w.heap.size w)
 have H:((signal_Name.f a1).bind fun t159=>(if t159.toList=([]:List UInt8) then (some (l0_0,l0_1,l0_2)) else ((signal_copied.f l0_0 l0_1 l0_2).bind fun bt160=>(if a1=18 then ((signal_without_stops.f bt160.1 0).bind fun t169=>(signal_Send.j0 k a1 t169 bt160.2.1 bt160.2.2)) else ((signal_stops.f a1).bind fun t172=>(if t172=true then ((signal_without_1_44.f bt160.1 0).bind fun t173=>(signal_Send.j0 k a1 t173 bt160.2.1 bt160.2.2)) else (signal_Send.j0 k a1 bt160.1 bt160.2.1 bt160.2.2)))))))=some (r1,r2,r3):=h
 clear h
 replace H:=Option.bind_eq_some_iff.mp H
 obtain ⟨t159,A30,H⟩:=H
 replace H:(if t159.toList=([]:List UInt8) then (some (l0_0,l0_1,l0_2)) else ((signal_copied.f l0_0 l0_1 l0_2).bind fun bt160=>(if a1=18 then ((signal_without_stops.f bt160.1 0).bind fun t169=>(signal_Send.j0 k a1 t169 bt160.2.1 bt160.2.2)) else ((signal_stops.f a1).bind fun t172=>(if t172=true then ((signal_without_1_44.f bt160.1 0).bind fun t173=>(signal_Send.j0 k a1 t173 bt160.2.1 bt160.2.2)) else (signal_Send.j0 k a1 bt160.1 bt160.2.1 bt160.2.2))))))=some (r1,r2,r3):=H
 have A3:=Zk A30
 clear A30
 by_cases c4:t159.toList=([]:List UInt8)
 ·rw [if_pos c4] at H
  have c4b0:(t159.toList == ([]:List UInt8))=true:=beq_iff_eq.mpr c4
  have c4b1:(t159.toList != ([]:List UInt8))=false:=bne_eq_false_iff_eq.mpr c4
  clear c4
  simp only [Option.some.injEq,Prod.mk.injEq] at H
  obtain ⟨rfl,rfl,rfl⟩:=H
  go_enter Tryd.func22,Tryd.ntmps22
  go_wp2_with (first|((with_reducible refine yT (N:=2) rfl ?_);refine yV ?hg (N:=2) ?hd (cs:=#[.slice A0_0 l0_0.length c0_0,.slice A0_1 l0_1.length c0_1,.slice A0_2 l0_2.length c0_2]) (t:=30) ?hr ?_;(case hd=>rfl);(case hg=>rfl);(case hr=>first|(go_simp;done)|(go_simp;rfl));intro gb157 hg w5 hbox hb;have n0_:=Zk (zV (yC (by (with_reducible repeat (first|apply zL|apply zK|apply zM));exact HO0_0.out) gb157 (Nat.le_of_eq hg.symm)) hb);have n1_:=Zk (zV (yC (by (with_reducible repeat (first|apply zL|apply zK|apply zM));exact HO0_1.out) gb157 (Nat.le_of_eq hg.symm)) hb);have n2_:=Zk (zV (yC (by (with_reducible repeat (first|apply zL|apply zK|apply zM));exact HO0_2.out) gb157 (Nat.le_of_eq hg.symm)) hb);have n3_:=Zk (yA (by repeat (first|(with_reducible first|exact HB.out|apply zG|apply zD|apply zH)|exact HB.out)) hb);have n4_:=Zk (hbox);have n5_:=Zk ((by rw [hg];exact (zP (by repeat (first|(with_reducible first|exact HB.out|apply zG|apply zD|apply zH)|exact HB.out))):w.heap.size≤gb157));have n6_:=Zk ((by rw [hg];exact (zP (by repeat (first|(with_reducible first|exact HB.out|apply zG|apply zD|apply zH)|exact HB.out))):w.heap.size≤gb157));clear HO0_0;clear HO0_1;clear HO0_2;clear HB;have HO0_0:=n0_;have HO0_1:=n1_;have HO0_2:=n2_;have HB:=n3_;have BK157:=n4_;have GW157:=n5_;have GE157:=n6_;clear n0_ n1_ n2_ n3_ n4_ n5_ n6_;clear hb hbox hg)|((with_reducible refine yT (N:=4) rfl ?_);refine yV ?hg (N:=4) ?hd (cs:=#[.slice none 0 0,.slice none 0 0,.slice none 0 0]) (t:=30) ?hr ?_;(case hd=>rfl);(case hg=>rfl);(case hr=>first|(go_simp;done)|(go_simp;rfl));intro gb158 hg w6 hbox hb;have n0_:=Zk (zV (yC (by (with_reducible repeat (first|apply zL|apply zK|apply zM));exact HO0_0.out) gb158 (Nat.le_of_eq hg.symm)) hb);have n1_:=Zk (zV (yC (by (with_reducible repeat (first|apply zL|apply zK|apply zM));exact HO0_1.out) gb158 (Nat.le_of_eq hg.symm)) hb);have n2_:=Zk (zV (yC (by (with_reducible repeat (first|apply zL|apply zK|apply zM));exact HO0_2.out) gb158 (Nat.le_of_eq hg.symm)) hb);have n3_:=Zk (zW (g:=gb157) (o:=.cells #[.slice A0_0 l0_0.length c0_0,.slice A0_1 l0_1.length c0_1,.slice A0_2 l0_2.length c0_2] 30 (0,0)) (by (with_reducible repeat (first|refine zB ?_ _|refine zF ?_|refine zA ?_ _));exact BK157.out) hb);have n4_:=Zk (yA (by repeat (first|(with_reducible first|exact HB.out|apply zG|apply zD|apply zH|refine zC ?_ GE157.out)|exact HB.out)) hb);have n5_:=Zk (hbox);have n6_:=Zk ((by rw [hg];exact (zP (by repeat (first|(with_reducible first|exact HB.out|apply zG|apply zD|apply zH|refine zC ?_ GE157.out)|exact HB.out))):w.heap.size≤gb158));have n7_:=Zk ((by rw [hg];exact (zP (by repeat (first|(with_reducible first|exact HB.out|apply zG|apply zD|apply zH|refine zC ?_ GE157.out)|exact HB.out))):w.heap.size≤gb158));have n8_:=Zk ((by rw [hg];exact Nat.ne_of_lt (yN (g:=gb157) (o:=.cells #[.slice A0_0 l0_0.length c0_0,.slice A0_1 l0_1.length c0_1,.slice A0_2 l0_2.length c0_2] 30 (0,0)) (by (with_reducible repeat (first|refine zB ?_ _|refine zF ?_|refine zA ?_ _));exact BK157.out)):gb157≠gb158));have n9_:=Zk ((by rw [hg];exact Nat.ne_of_gt (yN (g:=gb157) (o:=.cells #[.slice A0_0 l0_0.length c0_0,.slice A0_1 l0_1.length c0_1,.slice A0_2 l0_2.length c0_2] 30 (0,0)) (by (with_reducible repeat (first|refine zB ?_ _|refine zF ?_|refine zA ?_ _));exact BK157.out)):gb158≠gb157));clear HO0_0;clear HO0_1;clear HO0_2;clear BK157;clear HB;have HO0_0:=n0_;have HO0_1:=n1_;have HO0_2:=n2_;have BK157:=n3_;have HB:=n4_;have BK158:=n5_;have GW158:=n6_;have GE158:=n7_;have NB157_158:=n8_;have NB158_157:=n9_;clear n0_ n1_ n2_ n3_ n4_ n5_ n6_ n7_ n8_ n9_;clear hb hbox hg)|((with_reducible refine yD (f:=13) rfl ?_);refine yM (some 6) rfl rfl Tryd.func13 (by kernel_rfl) rfl #[.int .i64 a1] rfl (by (try simp only [List.map_toArray,List.map_cons,List.map_nil]);first|done|rfl|(simp only [List.length_drop,List.length_take];rfl)) ?_;(with_reducible refine (signal_Name.calls a1 t159 _ A3.out).mono ?_);rintro e w7 ⟨rfl,hb⟩;refine ⟨_,rfl,?_⟩;have n0_:=Zk (zV (by (with_reducible repeat (first|apply zL|apply zK|apply zM));exact HO0_0.out) hb);have n1_:=Zk (zV (by (with_reducible repeat (first|apply zL|apply zK|apply zM));exact HO0_1.out) hb);have n2_:=Zk (zV (by (with_reducible repeat (first|apply zL|apply zK|apply zM));exact HO0_2.out) hb);have n3_:=Zk (zW (g:=gb157) (o:=.cells #[.slice A0_0 l0_0.length c0_0,.slice A0_1 l0_1.length c0_1,.slice A0_2 l0_2.length c0_2] 30 (0,0)) (by (with_reducible repeat (first|refine zB ?_ _|refine zF ?_|refine zA ?_ _));exact BK157.out) hb);have n4_:=Zk (zW (g:=gb158) (o:=.cells #[.slice none 0 0,.slice none 0 0,.slice none 0 0] 30 (0,0)) (by (with_reducible repeat (first|refine zB ?_ _|refine zF ?_|refine zA ?_ _));exact BK158.out) hb);have n5_:=Zk (yA (by repeat (first|(with_reducible first|exact HB.out|apply zG|apply zD|apply zH|refine zC ?_ GE157.out|refine zC ?_ GE158.out)|exact HB.out)) hb);clear HO0_0;clear HO0_1;clear HO0_2;clear BK157;clear BK158;clear HB;have HO0_0:=n0_;have HO0_1:=n1_;have HO0_2:=n2_;have BK157:=n3_;have BK158:=n4_;have HB:=n5_;clear n0_ n1_ n2_ n3_ n4_ n5_;(try clear hb);(try clear hb2);(try clear hk);(try clear hi);have hnb8:=NB157_158.out;have hnc8:=NB158_157.out;have hcz9_0:w7.cell? ⟨gb157,0,none⟩=some (.slice A0_0 l0_0.length c0_0):=(zJ BK157.out 0).trans rfl;have hcz9_1:w7.cell? ⟨gb157,1,none⟩=some (.slice A0_1 l0_1.length c0_1):=(zJ BK157.out 1).trans rfl;have hcz9_2:w7.cell? ⟨gb157,2,none⟩=some (.slice A0_2 l0_2.length c0_2):=(zJ BK157.out 2).trans rfl;have hfz9_0:=zI BK157.out 0;have hfz9_1:=zI BK157.out 1;have hfz9_2:=zI BK157.out 2;have hcz10_0:w7.cell? ⟨gb158,0,none⟩=some (.slice none 0 0):=(zJ BK158.out 0).trans rfl;have hcz10_1:w7.cell? ⟨gb158,1,none⟩=some (.slice none 0 0):=(zJ BK158.out 1).trans rfl;have hcz10_2:w7.cell? ⟨gb158,2,none⟩=some (.slice none 0 0):=(zJ BK158.out 2).trans rfl;have hfz10_0:=zI BK158.out 0;have hfz10_1:=zI BK158.out 1;have hfz10_2:=zI BK158.out 2)|((with_reducible refine xA (t:=30) (p:=4) rfl ?_);refine yY (t:=30) (p:=4) (v:=?vo_w11) (w1:=(((w7.setCell ⟨gb158,0,none⟩ (.slice A0_0 l0_0.length c0_0)).setCell ⟨gb158,1,none⟩ (.slice A0_1 l0_1.length c0_1)).setCell ⟨gb158,2,none⟩ (.slice A0_2 l0_2.length c0_2))) ?hg ?ho ?hn ?hr ?_;(case ho=>rfl);(case hg=>rfl);(case hn=>rfl);(case hr=>first|(go_simp;done)|(go_simp;rfl));intro w11 hw;have n0_:zN (Kd.V (Kd.int .i64) 3 w11 w.heap.size (fun k_=>((P0_0_ k_∨P0_1_ k_∨P0_2_ k_)∨w.heap.size≤k_)∧k_≠gb157∧k_≠gb158) (.slice A0_0 l0_0.length c0_0) l0_0):=⟨(by rw [hw];exact (by (with_reducible repeat (first|apply zL|apply zK|apply zM));exact zO (zS (p:=⟨gb158,2,none⟩) (zS (p:=⟨gb158,1,none⟩) (zS (p:=⟨gb158,0,none⟩) (zO HO0_0.out (fun k_ hk=>(⟨hk,hk.2⟩:_∧k_≠gb158))) (fun _ hk=>hk.2) (.slice A0_0 l0_0.length c0_0)) (fun _ hk=>hk.2) (.slice A0_1 l0_1.length c0_1)) (fun _ hk=>hk.2) (.slice A0_2 l0_2.length c0_2)) (fun _ hk=>⟨hk.1.1.1,⟨hk.1.1.2,hk.1.2⟩⟩)))⟩;have n1_:zN (Kd.V (Kd.int .i64) 3 w11 w.heap.size (fun k_=>((P0_0_ k_∨P0_1_ k_∨P0_2_ k_)∨w.heap.size≤k_)∧k_≠gb157∧k_≠gb158) (.slice A0_1 l0_1.length c0_1) l0_1):=⟨(by rw [hw];exact (by (with_reducible repeat (first|apply zL|apply zK|apply zM));exact zO (zS (p:=⟨gb158,2,none⟩) (zS (p:=⟨gb158,1,none⟩) (zS (p:=⟨gb158,0,none⟩) (zO HO0_1.out (fun k_ hk=>(⟨hk,hk.2⟩:_∧k_≠gb158))) (fun _ hk=>hk.2) (.slice A0_0 l0_0.length c0_0)) (fun _ hk=>hk.2) (.slice A0_1 l0_1.length c0_1)) (fun _ hk=>hk.2) (.slice A0_2 l0_2.length c0_2)) (fun _ hk=>⟨hk.1.1.1,⟨hk.1.1.2,hk.1.2⟩⟩)))⟩;have n2_:zN (Kd.V (Kd.int .i64) 3 w11 w.heap.size (fun k_=>((P0_0_ k_∨P0_1_ k_∨P0_2_ k_)∨w.heap.size≤k_)∧k_≠gb157∧k_≠gb158) (.slice A0_2 l0_2.length c0_2) l0_2):=⟨(by rw [hw];exact (by (with_reducible repeat (first|apply zL|apply zK|apply zM));exact zO (zS (p:=⟨gb158,2,none⟩) (zS (p:=⟨gb158,1,none⟩) (zS (p:=⟨gb158,0,none⟩) (zO HO0_2.out (fun k_ hk=>(⟨hk,hk.2⟩:_∧k_≠gb158))) (fun _ hk=>hk.2) (.slice A0_0 l0_0.length c0_0)) (fun _ hk=>hk.2) (.slice A0_1 l0_1.length c0_1)) (fun _ hk=>hk.2) (.slice A0_2 l0_2.length c0_2)) (fun _ hk=>⟨hk.1.1.1,⟨hk.1.1.2,hk.1.2⟩⟩)))⟩;have n3_:zN (w11.heap[gb157]?=some (.cells #[.slice A0_0 l0_0.length c0_0,.slice A0_1 l0_1.length c0_1,.slice A0_2 l0_2.length c0_2] 30 (0,0))):=⟨(by rw [hw];exact (by (with_reducible repeat (first|refine zB ?_ _|refine zF ?_|refine zA ?_ _));refine zY ?_ NB157_158.out _;(with_reducible repeat (first|refine zB ?_ _|refine zF ?_|refine zA ?_ _));refine zY ?_ NB157_158.out _;(with_reducible repeat (first|refine zB ?_ _|refine zF ?_|refine zA ?_ _));refine zY ?_ NB157_158.out _;(with_reducible repeat (first|refine zB ?_ _|refine zF ?_|refine zA ?_ _));exact BK157.out))⟩;have n4_:zN (w11.heap[gb158]?=some (.cells #[.slice A0_0 l0_0.length c0_0,.slice A0_1 l0_1.length c0_1,.slice A0_2 l0_2.length c0_2] 30 (0,0))):=⟨(by rw [hw];exact (by (with_reducible repeat (first|refine zB ?_ _|refine zF ?_|refine zA ?_ _));refine yE (cs:=#[.slice A0_0 l0_0.length c0_0,.slice A0_1 l0_1.length c0_1,.slice none 0 0]) ?_ 2 _ rfl;(with_reducible repeat (first|refine zB ?_ _|refine zF ?_|refine zA ?_ _));refine yE (cs:=#[.slice A0_0 l0_0.length c0_0,.slice none 0 0,.slice none 0 0]) ?_ 1 _ rfl;(with_reducible repeat (first|refine zB ?_ _|refine zF ?_|refine zA ?_ _));refine yE (cs:=#[.slice none 0 0,.slice none 0 0,.slice none 0 0]) ?_ 0 _ rfl;(with_reducible repeat (first|refine zB ?_ _|refine zF ?_|refine zA ?_ _));exact BK158.out))⟩;have n5_:zN (Below w.heap.size w w11):=⟨(by rw [hw];exact (by repeat (first|(with_reducible first|exact HB.out|apply zG|apply zD|apply zH|refine zC ?_ GE157.out|refine zC ?_ GE158.out)|exact HB.out)))⟩;clear hw;clear HO0_0;clear HO0_1;clear HO0_2;clear BK157;clear BK158;clear HB;have HO0_0:=n0_;have HO0_1:=n1_;have HO0_2:=n2_;have BK157:=n3_;have BK158:=n4_;have HB:=n5_;clear n0_ n1_ n2_ n3_ n4_ n5_))
  refine bodyPost_ret (results_cell_row rfl _ _ gb158 30 #[.slice A0_0 l0_0.length c0_0,.slice A0_1 l0_1.length c0_1,.slice A0_2 l0_2.length c0_2] (0,0) _ rfl (by (with_reducible repeat (first|refine zB ?_ _|refine zF ?_|refine zA ?_ _));exact BK158.out) Tryd.underlying30 rfl (by kernel_rfl)) rfl ?_
  exact ⟨_,_,_,by first|rfl|(simp [errW_none,errW_some] <;> rfl)|(simp [*,errW_none,errW_some] <;> rfl),by (with_reducible repeat (first|apply zL|apply zK|apply zM));exact zO HO0_0.out (fun _ hk=>hk.1),by (with_reducible repeat (first|apply zL|apply zK|apply zM));exact zO HO0_1.out (fun _ hk=>hk.1),by (with_reducible repeat (first|apply zL|apply zK|apply zM));exact zO HO0_2.out (fun _ hk=>hk.1),by repeat (first|(with_reducible first|exact HB.out|apply zG|apply zD|apply zH|refine zC ?_ GE157.out|refine zC ?_ GE158.out)|exact HB.out)⟩
 ·rw [if_neg c4] at H
  have c4b0:(t159.toList == ([]:List UInt8))=false:=beq_eq_false_iff_ne.mpr c4
  have c4b1:(t159.toList != ([]:List UInt8))=true:=bne_iff_ne.mpr c4
  replace H:=Option.bind_eq_some_iff.mp H
  obtain ⟨⟨t160,t163,t166⟩,A120,H⟩:=H
  replace H:(if a1=18 then ((signal_without_stops.f t160 0).bind fun t169=>(signal_Send.j0 k a1 t169 t163 t166)) else ((signal_stops.f a1).bind fun t172=>(if t172=true then ((signal_without_1_44.f t160 0).bind fun t173=>(signal_Send.j0 k a1 t173 t163 t166)) else (signal_Send.j0 k a1 t160 t163 t166))))=some (r1,r2,r3):=H
  have A12:=Zk A120
  clear A120
  have HC13:=Zk H
  clear H
  go_enter Tryd.func22,Tryd.ntmps22
  go_upto_if 12 with (first|((with_reducible refine yT (N:=2) rfl ?_);refine yV ?hg (N:=2) ?hd (cs:=#[.slice A0_0 l0_0.length c0_0,.slice A0_1 l0_1.length c0_1,.slice A0_2 l0_2.length c0_2]) (t:=30) ?hr ?_;(case hd=>rfl);(case hg=>rfl);(case hr=>first|(go_simp;done)|(go_simp;rfl));intro gb157 hg w14 hbox hb;have n0_:=Zk (zV (yC (by (with_reducible repeat (first|apply zL|apply zK|apply zM));exact HO0_0.out) gb157 (Nat.le_of_eq hg.symm)) hb);have n1_:=Zk (zV (yC (by (with_reducible repeat (first|apply zL|apply zK|apply zM));exact HO0_1.out) gb157 (Nat.le_of_eq hg.symm)) hb);have n2_:=Zk (zV (yC (by (with_reducible repeat (first|apply zL|apply zK|apply zM));exact HO0_2.out) gb157 (Nat.le_of_eq hg.symm)) hb);have n3_:=Zk (yA (by repeat (first|(with_reducible first|exact HB.out|apply zG|apply zD|apply zH)|exact HB.out)) hb);have n4_:=Zk (hbox);have n5_:=Zk ((by rw [hg];exact (zP (by repeat (first|(with_reducible first|exact HB.out|apply zG|apply zD|apply zH)|exact HB.out))):w.heap.size≤gb157));have n6_:=Zk ((by rw [hg];exact (zP (by repeat (first|(with_reducible first|exact HB.out|apply zG|apply zD|apply zH)|exact HB.out))):w.heap.size≤gb157));clear HO0_0;clear HO0_1;clear HO0_2;clear HB;have HO0_0:=n0_;have HO0_1:=n1_;have HO0_2:=n2_;have HB:=n3_;have BK157:=n4_;have GW157:=n5_;have GE157:=n6_;clear n0_ n1_ n2_ n3_ n4_ n5_ n6_;clear hb hbox hg)|((with_reducible refine yT (N:=4) rfl ?_);refine yV ?hg (N:=4) ?hd (cs:=#[.slice none 0 0,.slice none 0 0,.slice none 0 0]) (t:=30) ?hr ?_;(case hd=>rfl);(case hg=>rfl);(case hr=>first|(go_simp;done)|(go_simp;rfl));intro gb158 hg w15 hbox hb;have n0_:=Zk (zV (yC (by (with_reducible repeat (first|apply zL|apply zK|apply zM));exact HO0_0.out) gb158 (Nat.le_of_eq hg.symm)) hb);have n1_:=Zk (zV (yC (by (with_reducible repeat (first|apply zL|apply zK|apply zM));exact HO0_1.out) gb158 (Nat.le_of_eq hg.symm)) hb);have n2_:=Zk (zV (yC (by (with_reducible repeat (first|apply zL|apply zK|apply zM));exact HO0_2.out) gb158 (Nat.le_of_eq hg.symm)) hb);have n3_:=Zk (zW (g:=gb157) (o:=.cells #[.slice A0_0 l0_0.length c0_0,.slice A0_1 l0_1.length c0_1,.slice A0_2 l0_2.length c0_2] 30 (0,0)) (by (with_reducible repeat (first|refine zB ?_ _|refine zF ?_|refine zA ?_ _));exact BK157.out) hb);have n4_:=Zk (yA (by repeat (first|(with_reducible first|exact HB.out|apply zG|apply zD|apply zH|refine zC ?_ GE157.out)|exact HB.out)) hb);have n5_:=Zk (hbox);have n6_:=Zk ((by rw [hg];exact (zP (by repeat (first|(with_reducible first|exact HB.out|apply zG|apply zD|apply zH|refine zC ?_ GE157.out)|exact HB.out))):w.heap.size≤gb158));have n7_:=Zk ((by rw [hg];exact (zP (by repeat (first|(with_reducible first|exact HB.out|apply zG|apply zD|apply zH|refine zC ?_ GE157.out)|exact HB.out))):w.heap.size≤gb158));have n8_:=Zk ((by rw [hg];exact Nat.ne_of_lt (yN (g:=gb157) (o:=.cells #[.slice A0_0 l0_0.length c0_0,.slice A0_1 l0_1.length c0_1,.slice A0_2 l0_2.length c0_2] 30 (0,0)) (by (with_reducible repeat (first|refine zB ?_ _|refine zF ?_|refine zA ?_ _));exact BK157.out)):gb157≠gb158));have n9_:=Zk ((by rw [hg];exact Nat.ne_of_gt (yN (g:=gb157) (o:=.cells #[.slice A0_0 l0_0.length c0_0,.slice A0_1 l0_1.length c0_1,.slice A0_2 l0_2.length c0_2] 30 (0,0)) (by (with_reducible repeat (first|refine zB ?_ _|refine zF ?_|refine zA ?_ _));exact BK157.out)):gb158≠gb157));clear HO0_0;clear HO0_1;clear HO0_2;clear BK157;clear HB;have HO0_0:=n0_;have HO0_1:=n1_;have HO0_2:=n2_;have BK157:=n3_;have HB:=n4_;have BK158:=n5_;have GW158:=n6_;have GE158:=n7_;have NB157_158:=n8_;have NB158_157:=n9_;clear n0_ n1_ n2_ n3_ n4_ n5_ n6_ n7_ n8_ n9_;clear hb hbox hg)|((with_reducible refine yD (f:=13) rfl ?_);refine yM (some 6) rfl rfl Tryd.func13 (by kernel_rfl) rfl #[.int .i64 a1] rfl (by (try simp only [List.map_toArray,List.map_cons,List.map_nil]);first|done|rfl|(simp only [List.length_drop,List.length_take];rfl)) ?_;(with_reducible refine (signal_Name.calls a1 t159 _ A3.out).mono ?_);rintro e w16 ⟨rfl,hb⟩;refine ⟨_,rfl,?_⟩;have n0_:=Zk (zV (by (with_reducible repeat (first|apply zL|apply zK|apply zM));exact HO0_0.out) hb);have n1_:=Zk (zV (by (with_reducible repeat (first|apply zL|apply zK|apply zM));exact HO0_1.out) hb);have n2_:=Zk (zV (by (with_reducible repeat (first|apply zL|apply zK|apply zM));exact HO0_2.out) hb);have n3_:=Zk (zW (g:=gb157) (o:=.cells #[.slice A0_0 l0_0.length c0_0,.slice A0_1 l0_1.length c0_1,.slice A0_2 l0_2.length c0_2] 30 (0,0)) (by (with_reducible repeat (first|refine zB ?_ _|refine zF ?_|refine zA ?_ _));exact BK157.out) hb);have n4_:=Zk (zW (g:=gb158) (o:=.cells #[.slice none 0 0,.slice none 0 0,.slice none 0 0] 30 (0,0)) (by (with_reducible repeat (first|refine zB ?_ _|refine zF ?_|refine zA ?_ _));exact BK158.out) hb);have n5_:=Zk (yA (by repeat (first|(with_reducible first|exact HB.out|apply zG|apply zD|apply zH|refine zC ?_ GE157.out|refine zC ?_ GE158.out)|exact HB.out)) hb);clear HO0_0;clear HO0_1;clear HO0_2;clear BK157;clear BK158;clear HB;have HO0_0:=n0_;have HO0_1:=n1_;have HO0_2:=n2_;have BK157:=n3_;have BK158:=n4_;have HB:=n5_;clear n0_ n1_ n2_ n3_ n4_ n5_;(try clear hb);(try clear hb2);(try clear hk);(try clear hi);have hnb17:=NB157_158.out;have hnc17:=NB158_157.out;have hcz18_0:w16.cell? ⟨gb157,0,none⟩=some (.slice A0_0 l0_0.length c0_0):=(zJ BK157.out 0).trans rfl;have hcz18_1:w16.cell? ⟨gb157,1,none⟩=some (.slice A0_1 l0_1.length c0_1):=(zJ BK157.out 1).trans rfl;have hcz18_2:w16.cell? ⟨gb157,2,none⟩=some (.slice A0_2 l0_2.length c0_2):=(zJ BK157.out 2).trans rfl;have hfz18_0:=zI BK157.out 0;have hfz18_1:=zI BK157.out 1;have hfz18_2:=zI BK157.out 2)|((with_reducible refine yD (f:=39) rfl ?_);refine yM (some 10) rfl rfl Tryd.func39 (by kernel_rfl) rfl #[.agg #[.slice A0_0 l0_0.length c0_0,.slice A0_1 l0_1.length c0_1,.slice A0_2 l0_2.length c0_2]] rfl (by (try simp only [List.map_toArray,List.map_cons,List.map_nil]);first|done|rfl|(simp only [List.length_drop,List.length_take];rfl)) ?_;(with_reducible refine (signal_copied.calls _ _ l0_0 _ _ l0_1 _ _ l0_2 t160 t163 t166 _ ?side1 ?side2 ?side3 ?side4 ?side5 ?side6 A12.out).mono ?_);(case side1=>repeat (first|exact (yH HO0_0.out).2.2|(with_reducible refine yG ?_ _)|(with_reducible refine yF ?_ _)|(with_reducible refine yI ?_)));(case side2=>exact (yH HO0_0.out).2.1);(case side3=>repeat (first|exact (yH HO0_1.out).2.2|(with_reducible refine yG ?_ _)|(with_reducible refine yF ?_ _)|(with_reducible refine yI ?_)));(case side4=>exact (yH HO0_1.out).2.1);(case side5=>repeat (first|exact (yH HO0_2.out).2.2|(with_reducible refine yG ?_ _)|(with_reducible refine yF ?_ _)|(with_reducible refine yI ?_)));(case side6=>exact (yH HO0_2.out).2.1);rintro e w19 ⟨v161,v164,v167,rfl,ho0,ho1,ho2,hb⟩;refine ⟨_,rfl,?_⟩;have n0_:=Zk (zO (yO (yO (yO (V_old (by (with_reducible repeat (first|apply zL|apply zK|apply zM));exact HO0_0.out) hb) (zZ ho0)) (zZ ho1)) (zZ ho2)) (fun _ h_=>h_.1));have n1_:=Zk (zO (yO (yO (yO (V_old (by (with_reducible repeat (first|apply zL|apply zK|apply zM));exact HO0_1.out) hb) (zZ ho0)) (zZ ho1)) (zZ ho2)) (fun _ h_=>h_.1));have n2_:=Zk (zO (yO (yO (yO (V_old (by (with_reducible repeat (first|apply zL|apply zK|apply zM));exact HO0_2.out) hb) (zZ ho0)) (zZ ho1)) (zZ ho2)) (fun _ h_=>h_.1));have n3_:=Zk (yU (R_newM (M:=fun k_=>(w.heap.size≤k_)) ho0 (zP (by repeat (first|(with_reducible first|exact HB.out|apply zG|apply zD|apply zH|refine zC ?_ GE157.out|refine zC ?_ GE158.out)|exact HB.out))) (fun k_ h_=>h_)) (zP (by repeat (first|(with_reducible first|exact HB.out|apply zG|apply zD|apply zH|refine zC ?_ GE157.out|refine zC ?_ GE158.out)|exact HB.out))));have n4_:=Zk (yU (R_newM (M:=fun k_=>(w.heap.size≤k_)) ho1 (zP (by repeat (first|(with_reducible first|exact HB.out|apply zG|apply zD|apply zH|refine zC ?_ GE157.out|refine zC ?_ GE158.out)|exact HB.out))) (fun k_ h_=>h_)) (zP (by repeat (first|(with_reducible first|exact HB.out|apply zG|apply zD|apply zH|refine zC ?_ GE157.out|refine zC ?_ GE158.out)|exact HB.out))));have n5_:=Zk (yU (R_newM (M:=fun k_=>(w.heap.size≤k_)) ho2 (zP (by repeat (first|(with_reducible first|exact HB.out|apply zG|apply zD|apply zH|refine zC ?_ GE157.out|refine zC ?_ GE158.out)|exact HB.out))) (fun k_ h_=>h_)) (zP (by repeat (first|(with_reducible first|exact HB.out|apply zG|apply zD|apply zH|refine zC ?_ GE157.out|refine zC ?_ GE158.out)|exact HB.out))));have n6_:=Zk (zW (g:=gb157) (o:=.cells #[.slice A0_0 l0_0.length c0_0,.slice A0_1 l0_1.length c0_1,.slice A0_2 l0_2.length c0_2] 30 (0,0)) (by (with_reducible repeat (first|refine zB ?_ _|refine zF ?_|refine zA ?_ _));exact BK157.out) hb);have n7_:=Zk (zW (g:=gb158) (o:=.cells #[.slice none 0 0,.slice none 0 0,.slice none 0 0] 30 (0,0)) (by (with_reducible repeat (first|refine zB ?_ _|refine zF ?_|refine zA ?_ _));exact BK158.out) hb);have n8_:=Zk (yA (by repeat (first|(with_reducible first|exact HB.out|apply zG|apply zD|apply zH|refine zC ?_ GE157.out|refine zC ?_ GE158.out)|exact HB.out)) hb);clear HO0_0;clear HO0_1;clear HO0_2;clear BK157;clear BK158;clear HB;have HO0_0:=n0_;have HO0_1:=n1_;have HO0_2:=n2_;have HO162:=n3_;have HO165:=n4_;have HO168:=n5_;have BK157:=n6_;have BK158:=n7_;have HB:=n8_;clear n0_ n1_ n2_ n3_ n4_ n5_ n6_ n7_ n8_;(try clear hb);(try clear hb2);(try clear hk);(try clear hi);(try clear ho0);(try clear ho1);(try clear ho2);obtain ⟨Ao20,co20,eo20⟩:=yQ HO162.out;subst eo20;have hcz21_0:w19.cell? ⟨gb157,0,none⟩=some (.slice A0_0 l0_0.length c0_0):=(zJ BK157.out 0).trans rfl;have hcz21_1:w19.cell? ⟨gb157,1,none⟩=some (.slice A0_1 l0_1.length c0_1):=(zJ BK157.out 1).trans rfl;have hcz21_2:w19.cell? ⟨gb157,2,none⟩=some (.slice A0_2 l0_2.length c0_2):=(zJ BK157.out 2).trans rfl;have hfz21_0:=zI BK157.out 0;have hfz21_1:=zI BK157.out 1;have hfz21_2:=zI BK157.out 2;obtain ⟨Ao22,co22,eo22⟩:=yQ HO165.out;subst eo22;obtain ⟨Ao23,co23,eo23⟩:=yQ HO168.out;subst eo23)|((with_reducible refine xA (t:=30) (p:=2) rfl ?_);refine yY (t:=30) (p:=2) (v:=?vo_w24) (w1:=(((w19.setCell ⟨gb157,0,none⟩ (.slice Ao20 t160.length co20)).setCell ⟨gb157,1,none⟩ (.slice Ao22 t163.length co22)).setCell ⟨gb157,2,none⟩ (.slice Ao23 t166.length co23))) ?hg ?ho ?hn ?hr ?_;(case ho=>rfl);(case hg=>rfl);(case hn=>rfl);(case hr=>first|(go_simp;done)|(go_simp;rfl));intro w24 hw;have n0_:zN (Kd.V (Kd.int .i64) 3 w24 w.heap.size (fun k_=>((P0_0_ k_∨P0_1_ k_∨P0_2_ k_)∨w.heap.size≤k_)∧some k_≠(.slice Ao20 t160.length co20:Value).ownBlock∧some k_≠(.slice Ao22 t163.length co22:Value).ownBlock∧some k_≠(.slice Ao23 t166.length co23:Value).ownBlock∧k_≠gb157∧k_≠gb158) (.slice A0_0 l0_0.length c0_0) l0_0):=⟨(by rw [hw];exact (by (with_reducible repeat (first|apply zL|apply zK|apply zM));exact zO (zS (p:=⟨gb157,2,none⟩) (zS (p:=⟨gb157,1,none⟩) (zS (p:=⟨gb157,0,none⟩) (zO HO0_0.out (fun k_ hk=>(⟨hk,hk.1.1.1.1.2⟩:_∧k_≠gb157))) (fun _ hk=>hk.2) (.slice Ao20 t160.length co20)) (fun _ hk=>hk.2) (.slice Ao22 t163.length co22)) (fun _ hk=>hk.2) (.slice Ao23 t166.length co23)) (fun _ hk=>⟨hk.1.1.1.1.1.1,⟨hk.1.1.1.2,⟨hk.1.1.2,⟨hk.1.2,⟨hk.1.1.1.1.1.2,hk.1.1.1.1.2⟩⟩⟩⟩⟩)))⟩;have n1_:zN (Kd.V (Kd.int .i64) 3 w24 w.heap.size (fun k_=>((P0_0_ k_∨P0_1_ k_∨P0_2_ k_)∨w.heap.size≤k_)∧some k_≠(.slice Ao20 t160.length co20:Value).ownBlock∧some k_≠(.slice Ao22 t163.length co22:Value).ownBlock∧some k_≠(.slice Ao23 t166.length co23:Value).ownBlock∧k_≠gb157∧k_≠gb158) (.slice A0_1 l0_1.length c0_1) l0_1):=⟨(by rw [hw];exact (by (with_reducible repeat (first|apply zL|apply zK|apply zM));exact zO (zS (p:=⟨gb157,2,none⟩) (zS (p:=⟨gb157,1,none⟩) (zS (p:=⟨gb157,0,none⟩) (zO HO0_1.out (fun k_ hk=>(⟨hk,hk.1.1.1.1.2⟩:_∧k_≠gb157))) (fun _ hk=>hk.2) (.slice Ao20 t160.length co20)) (fun _ hk=>hk.2) (.slice Ao22 t163.length co22)) (fun _ hk=>hk.2) (.slice Ao23 t166.length co23)) (fun _ hk=>⟨hk.1.1.1.1.1.1,⟨hk.1.1.1.2,⟨hk.1.1.2,⟨hk.1.2,⟨hk.1.1.1.1.1.2,hk.1.1.1.1.2⟩⟩⟩⟩⟩)))⟩;have n2_:zN (Kd.V (Kd.int .i64) 3 w24 w.heap.size (fun k_=>((P0_0_ k_∨P0_1_ k_∨P0_2_ k_)∨w.heap.size≤k_)∧some k_≠(.slice Ao20 t160.length co20:Value).ownBlock∧some k_≠(.slice Ao22 t163.length co22:Value).ownBlock∧some k_≠(.slice Ao23 t166.length co23:Value).ownBlock∧k_≠gb157∧k_≠gb158) (.slice A0_2 l0_2.length c0_2) l0_2):=⟨(by rw [hw];exact (by (with_reducible repeat (first|apply zL|apply zK|apply zM));exact zO (zS (p:=⟨gb157,2,none⟩) (zS (p:=⟨gb157,1,none⟩) (zS (p:=⟨gb157,0,none⟩) (zO HO0_2.out (fun k_ hk=>(⟨hk,hk.1.1.1.1.2⟩:_∧k_≠gb157))) (fun _ hk=>hk.2) (.slice Ao20 t160.length co20)) (fun _ hk=>hk.2) (.slice Ao22 t163.length co22)) (fun _ hk=>hk.2) (.slice Ao23 t166.length co23)) (fun _ hk=>⟨hk.1.1.1.1.1.1,⟨hk.1.1.1.2,⟨hk.1.1.2,⟨hk.1.2,⟨hk.1.1.1.1.1.2,hk.1.1.1.1.2⟩⟩⟩⟩⟩)))⟩;have n3_:zN (Kd.R (Kd.int .i64) 3 w24 w.heap.size (fun k_=>(w.heap.size≤k_)∧some k_≠(.slice Ao22 t163.length co22:Value).ownBlock∧some k_≠(.slice Ao23 t166.length co23:Value).ownBlock) (.slice Ao20 t160.length co20) t160):=⟨(by rw [hw];exact (by (with_reducible repeat (first|apply zR|apply zQ|apply zU));exact yB (zT (p:=⟨gb157,2,none⟩) (zT (p:=⟨gb157,1,none⟩) (zT (p:=⟨gb157,0,none⟩) (zX HO162.out BK157.out (by decide)) (fun _ hk=>hk.2) (.slice Ao20 t160.length co20)) (fun _ hk=>hk.2) (.slice Ao22 t163.length co22)) (fun _ hk=>hk.2) (.slice Ao23 t166.length co23)) (fun _ hk=>⟨hk.1.1,⟨hk.1.2.1,hk.1.2.2⟩⟩)))⟩;have n4_:zN (Kd.R (Kd.int .i64) 3 w24 w.heap.size (fun k_=>(w.heap.size≤k_)∧some k_≠(.slice Ao20 t160.length co20:Value).ownBlock∧some k_≠(.slice Ao23 t166.length co23:Value).ownBlock) (.slice Ao22 t163.length co22) t163):=⟨(by rw [hw];exact (by (with_reducible repeat (first|apply zR|apply zQ|apply zU));exact yB (zT (p:=⟨gb157,2,none⟩) (zT (p:=⟨gb157,1,none⟩) (zT (p:=⟨gb157,0,none⟩) (zX HO165.out BK157.out (by decide)) (fun _ hk=>hk.2) (.slice Ao20 t160.length co20)) (fun _ hk=>hk.2) (.slice Ao22 t163.length co22)) (fun _ hk=>hk.2) (.slice Ao23 t166.length co23)) (fun _ hk=>⟨hk.1.1,⟨hk.1.2.1,hk.1.2.2⟩⟩)))⟩;have n5_:zN (Kd.R (Kd.int .i64) 3 w24 w.heap.size (fun k_=>(w.heap.size≤k_)∧some k_≠(.slice Ao20 t160.length co20:Value).ownBlock∧some k_≠(.slice Ao22 t163.length co22:Value).ownBlock) (.slice Ao23 t166.length co23) t166):=⟨(by rw [hw];exact (by (with_reducible repeat (first|apply zR|apply zQ|apply zU));exact yB (zT (p:=⟨gb157,2,none⟩) (zT (p:=⟨gb157,1,none⟩) (zT (p:=⟨gb157,0,none⟩) (zX HO168.out BK157.out (by decide)) (fun _ hk=>hk.2) (.slice Ao20 t160.length co20)) (fun _ hk=>hk.2) (.slice Ao22 t163.length co22)) (fun _ hk=>hk.2) (.slice Ao23 t166.length co23)) (fun _ hk=>⟨hk.1.1,⟨hk.1.2.1,hk.1.2.2⟩⟩)))⟩;have n6_:zN (w24.heap[gb157]?=some (.cells #[.slice Ao20 t160.length co20,.slice Ao22 t163.length co22,.slice Ao23 t166.length co23] 30 (0,0))):=⟨(by rw [hw];exact (by (with_reducible repeat (first|refine zB ?_ _|refine zF ?_|refine zA ?_ _));refine yE (cs:=#[.slice Ao20 t160.length co20,.slice Ao22 t163.length co22,.slice A0_2 l0_2.length c0_2]) ?_ 2 _ rfl;(with_reducible repeat (first|refine zB ?_ _|refine zF ?_|refine zA ?_ _));refine yE (cs:=#[.slice Ao20 t160.length co20,.slice A0_1 l0_1.length c0_1,.slice A0_2 l0_2.length c0_2]) ?_ 1 _ rfl;(with_reducible repeat (first|refine zB ?_ _|refine zF ?_|refine zA ?_ _));refine yE (cs:=#[.slice A0_0 l0_0.length c0_0,.slice A0_1 l0_1.length c0_1,.slice A0_2 l0_2.length c0_2]) ?_ 0 _ rfl;(with_reducible repeat (first|refine zB ?_ _|refine zF ?_|refine zA ?_ _));exact BK157.out))⟩;have n7_:zN (w24.heap[gb158]?=some (.cells #[.slice none 0 0,.slice none 0 0,.slice none 0 0] 30 (0,0))):=⟨(by rw [hw];exact (by (with_reducible repeat (first|refine zB ?_ _|refine zF ?_|refine zA ?_ _));refine zY ?_ NB158_157.out _;(with_reducible repeat (first|refine zB ?_ _|refine zF ?_|refine zA ?_ _));refine zY ?_ NB158_157.out _;(with_reducible repeat (first|refine zB ?_ _|refine zF ?_|refine zA ?_ _));refine zY ?_ NB158_157.out _;(with_reducible repeat (first|refine zB ?_ _|refine zF ?_|refine zA ?_ _));exact BK158.out))⟩;have n8_:zN (Below w.heap.size w w24):=⟨(by rw [hw];exact (by repeat (first|(with_reducible first|exact HB.out|apply zG|apply zD|apply zH|refine zC ?_ GE157.out|refine zC ?_ GE158.out)|exact HB.out)))⟩;clear hw;clear HO0_0;clear HO0_1;clear HO0_2;clear HO162;clear HO165;clear HO168;clear BK157;clear BK158;clear HB;have HO0_0:=n0_;have HO0_1:=n1_;have HO0_2:=n2_;have HO162:=n3_;have HO165:=n4_;have HO168:=n5_;have BK157:=n6_;have BK158:=n7_;have HB:=n8_;clear n0_ n1_ n2_ n3_ n4_ n5_ n6_ n7_ n8_))
  (try simp only [Act.put,List.setIfInBounds_toArray,List.set_cons_zero,List.set_cons_succ])
  go_cut [] (fun wc=>∃ (kq:Nat) (x158000_12:List Int) (u158000:Value),zN (signal_Send.j0 kq a1 x158000_12 t163 t166=some (r1,r2,r3))∧zN (kq≤k)∧zN (Kd.R (Kd.int .i64) 3 wc w.heap.size (fun k_=>(w.heap.size≤k_)∧some k_≠((.slice Ao22 t163.length co22):Value).ownBlock∧some k_≠((.slice Ao23 t166.length co23):Value).ownBlock) u158000 x158000_12)∧zN (Kd.R (Kd.int .i64) 3 wc w.heap.size (fun k_=>(w.heap.size≤k_)∧some k_≠(u158000:Value).ownBlock∧some k_≠((.slice Ao23 t166.length co23):Value).ownBlock) (.slice Ao22 t163.length co22) t163)∧zN (Kd.R (Kd.int .i64) 3 wc w.heap.size (fun k_=>(w.heap.size≤k_)∧some k_≠(u158000:Value).ownBlock∧some k_≠((.slice Ao22 t163.length co22):Value).ownBlock) (.slice Ao23 t166.length co23) t166)∧zN (wc.heap[gb157]?=some (.cells #[u158000,(.slice Ao22 t163.length co22),(.slice Ao23 t166.length co23)] 30 (0,0)))∧zN (wc.heap[gb158]?=some (.cells #[(.slice none 0 0),(.slice none 0 0),(.slice none 0 0)] 30 (0,0)))∧zN (Below w.heap.size w wc))
  case first=>
   have H:=HC13.out
   clear HC13
   by_cases c25:a1=18
   ·rw [if_pos c25] at H
    have c25b0:(a1 == 18)=true:=beq_iff_eq.mpr c25
    have c25b1:(a1 != 18)=false:=bne_eq_false_iff_eq.mpr c25
    clear c25
    (first|rw [c25b0]|(simp only [yX,i32_w];rw [c25b0])|skip)
    replace H:=Option.bind_eq_some_iff.mp H
    obtain ⟨t169,A260,H⟩:=H
    replace H:(signal_Send.j0 k a1 t169 t163 t166)=some (r1,r2,r3):=H
    have A26:=Zk A260
    clear A260
    have H':=Zk H
    clear H
    have hnb27:=NB157_158.out
    have hnc27:=NB158_157.out
    have hcz28_0:w24.cell? ⟨gb157,0,none⟩=some (.slice Ao20 t160.length co20):=(zJ BK157.out 0).trans rfl
    have hcz28_1:w24.cell? ⟨gb157,1,none⟩=some (.slice Ao22 t163.length co22):=(zJ BK157.out 1).trans rfl
    have hcz28_2:w24.cell? ⟨gb157,2,none⟩=some (.slice Ao23 t166.length co23):=(zJ BK157.out 2).trans rfl
    have hfz28_0:=zI BK157.out 0
    have hfz28_1:=zI BK157.out 1
    have hfz28_2:=zI BK157.out 2
    go_wp2_with (first|((with_reducible refine yD (f:=40) rfl ?_);refine yM (some 15) rfl rfl Tryd.func40 (by kernel_rfl) rfl #[.slice Ao20 t160.length co20,.func (.func 34) #[] #[]] rfl (by (try simp only [List.map_toArray,List.map_cons,List.map_nil]);first|done|rfl|(simp only [List.length_drop,List.length_take];rfl)) ?_;(with_reducible refine (signal_without_stops.calls _ _ t160 0 t169 _ ?side1 ?side2 A26.out).mono ?_);(case side1=>repeat (first|exact (yZ HO162.out).2.2|(with_reducible refine yG ?_ _)|(with_reducible refine yF ?_ _)|(with_reducible refine yI ?_)));(case side2=>exact (yZ HO162.out).2.1);rintro e w29 ⟨v170,rfl,ho0,hb⟩;refine ⟨_,rfl,?_⟩;have n0_:=Zk (yL (by (with_reducible repeat (first|apply zL|apply zK|apply zM));exact HO0_0.out) (zZ ho0) hb);have n1_:=Zk (yL (by (with_reducible repeat (first|apply zL|apply zK|apply zM));exact HO0_1.out) (zZ ho0) hb);have n2_:=Zk (yL (by (with_reducible repeat (first|apply zL|apply zK|apply zM));exact HO0_2.out) (zZ ho0) hb);have n3_:=Zk (yK (by (with_reducible repeat (first|apply zR|apply zQ|apply zU));exact HO162.out) (zZ ho0) hb);have n4_:=Zk (yK (by (with_reducible repeat (first|apply zR|apply zQ|apply zU));exact HO165.out) (zZ ho0) hb);have n5_:=Zk (yK (by (with_reducible repeat (first|apply zR|apply zQ|apply zU));exact HO168.out) (zZ ho0) hb);have n6_:=Zk (yU (yR (yR (yR (R_newM (M:=fun k_=>(w.heap.size≤k_)) ho0 (zP (by repeat (first|(with_reducible first|exact HB.out|apply zG|apply zD|apply zH|refine zC ?_ GE157.out|refine zC ?_ GE158.out)|exact HB.out))) (fun k_ h_=>h_)) (R_lt (by (with_reducible repeat (first|apply zR|apply zQ|apply zU));exact HO162.out))) (R_lt (by (with_reducible repeat (first|apply zR|apply zQ|apply zU));exact HO165.out))) (R_lt (by (with_reducible repeat (first|apply zR|apply zQ|apply zU));exact HO168.out))) (zP (by repeat (first|(with_reducible first|exact HB.out|apply zG|apply zD|apply zH|refine zC ?_ GE157.out|refine zC ?_ GE158.out)|exact HB.out))));have n7_:=Zk (zW (g:=gb157) (o:=.cells #[.slice Ao20 t160.length co20,.slice Ao22 t163.length co22,.slice Ao23 t166.length co23] 30 (0,0)) (by (with_reducible repeat (first|refine zB ?_ _|refine zF ?_|refine zA ?_ _));exact BK157.out) hb);have n8_:=Zk (zW (g:=gb158) (o:=.cells #[.slice none 0 0,.slice none 0 0,.slice none 0 0] 30 (0,0)) (by (with_reducible repeat (first|refine zB ?_ _|refine zF ?_|refine zA ?_ _));exact BK158.out) hb);have n9_:=Zk (yA (by repeat (first|(with_reducible first|exact HB.out|apply zG|apply zD|apply zH|refine zC ?_ GE157.out|refine zC ?_ GE158.out)|exact HB.out)) hb);clear HO0_0;clear HO0_1;clear HO0_2;clear HO162;clear HO165;clear HO168;clear BK157;clear BK158;clear HB;have HO0_0:=n0_;have HO0_1:=n1_;have HO0_2:=n2_;have HO162:=n3_;have HO165:=n4_;have HO168:=n5_;have HO171:=n6_;have BK157:=n7_;have BK158:=n8_;have HB:=n9_;clear n0_ n1_ n2_ n3_ n4_ n5_ n6_ n7_ n8_ n9_;(try clear hb);(try clear hb2);(try clear hk);(try clear hi);(try clear ho0);obtain ⟨Ao30,co30,eo30⟩:=yQ HO171.out;subst eo30;have hcz31_0:w29.cell? ⟨gb157,0,none⟩=some (.slice Ao20 t160.length co20):=(zJ BK157.out 0).trans rfl;have hcz31_1:w29.cell? ⟨gb157,1,none⟩=some (.slice Ao22 t163.length co22):=(zJ BK157.out 1).trans rfl;have hcz31_2:w29.cell? ⟨gb157,2,none⟩=some (.slice Ao23 t166.length co23):=(zJ BK157.out 2).trans rfl;have hfz31_0:=zI BK157.out 0;have hfz31_1:=zI BK157.out 1;have hfz31_2:=zI BK157.out 2))
    go_meet
    case rel=>exact ⟨_,(t169),(.slice Ao30 t169.length co30),H',⟨by first|omega|exact Nat.le_refl _⟩,⟨by (with_reducible repeat (first|apply zR|apply zQ|apply zU));exact yB (zT (p:=⟨gb157,0,none⟩) (zX HO171.out BK157.out (by decide)) (fun _ hk=>hk.2) (.slice Ao30 t169.length co30)) (fun _ hk=>⟨hk.1.1.1.1.1,⟨hk.1.1.2,hk.1.2⟩⟩)⟩,⟨by (with_reducible repeat (first|apply zR|apply zQ|apply zU));exact yB (zT (p:=⟨gb157,0,none⟩) (zX HO165.out BK157.out (by decide)) (fun _ hk=>hk.2) (.slice Ao30 t169.length co30)) (fun _ hk=>⟨hk.1.1.1,⟨hk.1.2,hk.1.1.2.2⟩⟩)⟩,⟨by (with_reducible repeat (first|apply zR|apply zQ|apply zU));exact yB (zT (p:=⟨gb157,0,none⟩) (zX HO168.out BK157.out (by decide)) (fun _ hk=>hk.2) (.slice Ao30 t169.length co30)) (fun _ hk=>⟨hk.1.1.1,⟨hk.1.2,hk.1.1.2.2⟩⟩)⟩,⟨by (with_reducible repeat (first|refine zB ?_ _|refine zF ?_|refine zA ?_ _));refine yE (cs:=#[.slice Ao20 t160.length co20,.slice Ao22 t163.length co22,.slice Ao23 t166.length co23]) ?_ 0 _ rfl;(with_reducible repeat (first|refine zB ?_ _|refine zF ?_|refine zA ?_ _));exact BK157.out⟩,⟨by (with_reducible repeat (first|refine zB ?_ _|refine zF ?_|refine zA ?_ _));refine zY ?_ NB158_157.out _;(with_reducible repeat (first|refine zB ?_ _|refine zF ?_|refine zA ?_ _));exact BK158.out⟩,⟨by repeat (first|(with_reducible first|exact HB.out|apply zG|apply zD|apply zH|refine zC ?_ GE157.out|refine zC ?_ GE158.out)|exact HB.out)⟩⟩
   ·rw [if_neg c25] at H
    have c25b0:(a1 == 18)=false:=beq_eq_false_iff_ne.mpr c25
    have c25b1:(a1 != 18)=true:=bne_iff_ne.mpr c25
    (first|rw [c25b0]|(simp only [yX,i32_w];rw [c25b0])|skip)
    replace H:=Option.bind_eq_some_iff.mp H
    obtain ⟨t172,A320,H⟩:=H
    replace H:(if t172=true then ((signal_without_1_44.f t160 0).bind fun t173=>(signal_Send.j0 k a1 t173 t163 t166)) else (signal_Send.j0 k a1 t160 t163 t166))=some (r1,r2,r3):=H
    have A32:=Zk A320
    clear A320
    by_cases c33:t172=true
    ·subst c33
     have H1:((signal_without_1_44.f t160 0).bind fun t173=>(signal_Send.j0 k a1 t173 t163 t166))=some (r1,r2,r3):=by rw [if_pos rfl] at H;exact H
     clear H
     have H:=H1
     clear H1
     replace H:=Option.bind_eq_some_iff.mp H
     obtain ⟨t173,A340,H⟩:=H
     replace H:(signal_Send.j0 k a1 t173 t163 t166)=some (r1,r2,r3):=H
     have A34:=Zk A340
     clear A340
     have H':=Zk H
     clear H
     go_wp2_with (first|((with_reducible refine yD (f:=34) rfl ?_);refine yM (some 18) rfl rfl Tryd.func34 (by kernel_rfl) rfl #[.int .i64 a1] rfl (by (try simp only [List.map_toArray,List.map_cons,List.map_nil]);first|done|rfl|(simp only [List.length_drop,List.length_take];rfl)) ?_;(with_reducible refine (signal_stops.calls a1 true _ A32.out).mono ?_);rintro e w' ⟨rfl,⟨nd,rfl⟩⟩;refine ⟨_,rfl,?_⟩;(try (rw [drewN_self w24];generalize hq_:World.drewN w24 _=w24;have n0_:=Zk (V_att hq_ HO0_0.out);have n1_:=Zk (V_att hq_ HO0_1.out);have n2_:=Zk (V_att hq_ HO0_2.out);have n3_:=Zk (R_at hq_ HO162.out);have n4_:=Zk (R_at hq_ HO165.out);have n5_:=Zk (R_at hq_ HO168.out);have n6_:=Zk (blk_at hq_ BK157.out);have n7_:=Zk (blk_at hq_ BK158.out);have n8_:=Zk (below_at hq_ HB.out);clear hq_ HO0_0 HO0_1 HO0_2 HO162 HO165 HO168 BK157 BK158 HB;have HO0_0:=n0_;have HO0_1:=n1_;have HO0_2:=n2_;have HO162:=n3_;have HO165:=n4_;have HO168:=n5_;have BK157:=n6_;have BK158:=n7_;have HB:=n8_;clear n0_ n1_ n2_ n3_ n4_ n5_ n6_ n7_ n8_));have hnb35:=NB157_158.out;have hnc35:=NB158_157.out;have hcz36_0:w24.cell? ⟨gb157,0,none⟩=some (.slice Ao20 t160.length co20):=(zJ BK157.out 0).trans rfl;have hcz36_1:w24.cell? ⟨gb157,1,none⟩=some (.slice Ao22 t163.length co22):=(zJ BK157.out 1).trans rfl;have hcz36_2:w24.cell? ⟨gb157,2,none⟩=some (.slice Ao23 t166.length co23):=(zJ BK157.out 2).trans rfl;have hfz36_0:=zI BK157.out 0;have hfz36_1:=zI BK157.out 1;have hfz36_2:=zI BK157.out 2)|((with_reducible refine yD (f:=40) rfl ?_);refine yM (some 21) rfl rfl Tryd.func40 (by kernel_rfl) rfl #[.slice Ao20 t160.length co20,.func (.func 44) #[] #[]] rfl (by (try simp only [List.map_toArray,List.map_cons,List.map_nil]);first|done|rfl|(simp only [List.length_drop,List.length_take];rfl)) ?_;(with_reducible refine (signal_without_1_44.calls _ _ t160 0 t173 _ ?side1 ?side2 A34.out).mono ?_);(case side1=>repeat (first|exact (yZ HO162.out).2.2|(with_reducible refine yG ?_ _)|(with_reducible refine yF ?_ _)|(with_reducible refine yI ?_)));(case side2=>exact (yZ HO162.out).2.1);rintro e w37 ⟨v174,rfl,ho0,hb⟩;refine ⟨_,rfl,?_⟩;have n0_:=Zk (yL (by (with_reducible repeat (first|apply zL|apply zK|apply zM));exact HO0_0.out) (zZ ho0) hb);have n1_:=Zk (yL (by (with_reducible repeat (first|apply zL|apply zK|apply zM));exact HO0_1.out) (zZ ho0) hb);have n2_:=Zk (yL (by (with_reducible repeat (first|apply zL|apply zK|apply zM));exact HO0_2.out) (zZ ho0) hb);have n3_:=Zk (yK (by (with_reducible repeat (first|apply zR|apply zQ|apply zU));exact HO162.out) (zZ ho0) hb);have n4_:=Zk (yK (by (with_reducible repeat (first|apply zR|apply zQ|apply zU));exact HO165.out) (zZ ho0) hb);have n5_:=Zk (yK (by (with_reducible repeat (first|apply zR|apply zQ|apply zU));exact HO168.out) (zZ ho0) hb);have n6_:=Zk (yU (yR (yR (yR (R_newM (M:=fun k_=>(w.heap.size≤k_)) ho0 (zP (by repeat (first|(with_reducible first|exact HB.out|apply zG|apply zD|apply zH|refine zC ?_ GE157.out|refine zC ?_ GE158.out)|exact HB.out))) (fun k_ h_=>h_)) (R_lt (by (with_reducible repeat (first|apply zR|apply zQ|apply zU));exact HO162.out))) (R_lt (by (with_reducible repeat (first|apply zR|apply zQ|apply zU));exact HO165.out))) (R_lt (by (with_reducible repeat (first|apply zR|apply zQ|apply zU));exact HO168.out))) (zP (by repeat (first|(with_reducible first|exact HB.out|apply zG|apply zD|apply zH|refine zC ?_ GE157.out|refine zC ?_ GE158.out)|exact HB.out))));have n7_:=Zk (zW (g:=gb157) (o:=.cells #[.slice Ao20 t160.length co20,.slice Ao22 t163.length co22,.slice Ao23 t166.length co23] 30 (0,0)) (by (with_reducible repeat (first|refine zB ?_ _|refine zF ?_|refine zA ?_ _));exact BK157.out) hb);have n8_:=Zk (zW (g:=gb158) (o:=.cells #[.slice none 0 0,.slice none 0 0,.slice none 0 0] 30 (0,0)) (by (with_reducible repeat (first|refine zB ?_ _|refine zF ?_|refine zA ?_ _));exact BK158.out) hb);have n9_:=Zk (yA (by repeat (first|(with_reducible first|exact HB.out|apply zG|apply zD|apply zH|refine zC ?_ GE157.out|refine zC ?_ GE158.out)|exact HB.out)) hb);clear HO0_0;clear HO0_1;clear HO0_2;clear HO162;clear HO165;clear HO168;clear BK157;clear BK158;clear HB;have HO0_0:=n0_;have HO0_1:=n1_;have HO0_2:=n2_;have HO162:=n3_;have HO165:=n4_;have HO168:=n5_;have HO175:=n6_;have BK157:=n7_;have BK158:=n8_;have HB:=n9_;clear n0_ n1_ n2_ n3_ n4_ n5_ n6_ n7_ n8_ n9_;(try clear hb);(try clear hb2);(try clear hk);(try clear hi);(try clear ho0);obtain ⟨Ao38,co38,eo38⟩:=yQ HO175.out;subst eo38;have hcz39_0:w37.cell? ⟨gb157,0,none⟩=some (.slice Ao20 t160.length co20):=(zJ BK157.out 0).trans rfl;have hcz39_1:w37.cell? ⟨gb157,1,none⟩=some (.slice Ao22 t163.length co22):=(zJ BK157.out 1).trans rfl;have hcz39_2:w37.cell? ⟨gb157,2,none⟩=some (.slice Ao23 t166.length co23):=(zJ BK157.out 2).trans rfl;have hfz39_0:=zI BK157.out 0;have hfz39_1:=zI BK157.out 1;have hfz39_2:=zI BK157.out 2))
     go_meet
     case rel=>exact ⟨_,(t173),(.slice Ao38 t173.length co38),H',⟨by first|omega|exact Nat.le_refl _⟩,⟨by (with_reducible repeat (first|apply zR|apply zQ|apply zU));exact yB (zT (p:=⟨gb157,0,none⟩) (zX HO175.out BK157.out (by decide)) (fun _ hk=>hk.2) (.slice Ao38 t173.length co38)) (fun _ hk=>⟨hk.1.1.1.1.1,⟨hk.1.1.2,hk.1.2⟩⟩)⟩,⟨by (with_reducible repeat (first|apply zR|apply zQ|apply zU));exact yB (zT (p:=⟨gb157,0,none⟩) (zX HO165.out BK157.out (by decide)) (fun _ hk=>hk.2) (.slice Ao38 t173.length co38)) (fun _ hk=>⟨hk.1.1.1,⟨hk.1.2,hk.1.1.2.2⟩⟩)⟩,⟨by (with_reducible repeat (first|apply zR|apply zQ|apply zU));exact yB (zT (p:=⟨gb157,0,none⟩) (zX HO168.out BK157.out (by decide)) (fun _ hk=>hk.2) (.slice Ao38 t173.length co38)) (fun _ hk=>⟨hk.1.1.1,⟨hk.1.2,hk.1.1.2.2⟩⟩)⟩,⟨by (with_reducible repeat (first|refine zB ?_ _|refine zF ?_|refine zA ?_ _));refine yE (cs:=#[.slice Ao20 t160.length co20,.slice Ao22 t163.length co22,.slice Ao23 t166.length co23]) ?_ 0 _ rfl;(with_reducible repeat (first|refine zB ?_ _|refine zF ?_|refine zA ?_ _));exact BK157.out⟩,⟨by (with_reducible repeat (first|refine zB ?_ _|refine zF ?_|refine zA ?_ _));refine zY ?_ NB158_157.out _;(with_reducible repeat (first|refine zB ?_ _|refine zF ?_|refine zA ?_ _));exact BK158.out⟩,⟨by repeat (first|(with_reducible first|exact HB.out|apply zG|apply zD|apply zH|refine zC ?_ GE157.out|refine zC ?_ GE158.out)|exact HB.out)⟩⟩
    ·replace c33:=Bool.eq_false_iff.mpr c33
     subst c33
     have H1:(signal_Send.j0 k a1 t160 t163 t166)=some (r1,r2,r3):=by rw [if_neg (show ¬ (false=true) by decide)] at H;exact H
     clear H
     have H:=H1
     clear H1
     have H':=Zk H
     clear H
     go_wp2_with (first|((with_reducible refine yD (f:=34) rfl ?_);refine yM (some 18) rfl rfl Tryd.func34 (by kernel_rfl) rfl #[.int .i64 a1] rfl (by (try simp only [List.map_toArray,List.map_cons,List.map_nil]);first|done|rfl|(simp only [List.length_drop,List.length_take];rfl)) ?_;(with_reducible refine (signal_stops.calls a1 false _ A32.out).mono ?_);rintro e w' ⟨rfl,⟨nd,rfl⟩⟩;refine ⟨_,rfl,?_⟩))
     go_meet
     case rel=>exact ⟨_,(t160),(.slice Ao20 t160.length co20),H',⟨by first|omega|exact Nat.le_refl _⟩,⟨by (with_reducible repeat (first|apply zR|apply zQ|apply zU));exact HO162.out⟩,⟨by (with_reducible repeat (first|apply zR|apply zQ|apply zU));exact HO165.out⟩,⟨by (with_reducible repeat (first|apply zR|apply zQ|apply zU));exact HO168.out⟩,⟨by (with_reducible repeat (first|refine zB ?_ _|refine zF ?_|refine zA ?_ _));exact BK157.out⟩,⟨by (with_reducible repeat (first|refine zB ?_ _|refine zF ?_|refine zA ?_ _));exact BK158.out⟩,⟨by repeat (first|(with_reducible first|exact HB.out|apply zG|apply zD|apply zH|refine zC ?_ GE157.out|refine zC ?_ GE158.out)|exact HB.out)⟩⟩
  case rest=>
   clear HC13
   try clear c1
   try clear c2
   try clear p2
   try clear c3
   try clear c4
   try clear c4b0
   try clear c4b1
   try clear c8
   try clear c9
   try clear c13
   try clear c17
   try clear c22
   try clear c25
   try clear c25b0
   try clear c25b1
   try clear c27
   try clear c33
   try clear c34
   try clear c35
   try clear c39
   try clear hcz10_0
   try clear hcz10_1
   try clear hcz10_2
   try clear hcz18_0
   try clear hcz18_1
   try clear hcz18_2
   try clear hcz21_0
   try clear hcz21_1
   try clear hcz21_2
   try clear hcz28_0
   try clear hcz28_1
   try clear hcz28_2
   try clear hcz31_0
   try clear hcz31_1
   try clear hcz31_2
   try clear hcz36_0
   try clear hcz36_1
   try clear hcz36_2
   try clear hcz39_0
   try clear hcz39_1
   try clear hcz39_2
   try clear hcz9_0
   try clear hcz9_1
   try clear hcz9_2
   try clear hfz10_0
   try clear hfz10_1
   try clear hfz10_2
   try clear hfz18_0
   try clear hfz18_1
   try clear hfz18_2
   try clear hfz21_0
   try clear hfz21_1
   try clear hfz21_2
   try clear hfz28_0
   try clear hfz28_1
   try clear hfz28_2
   try clear hfz31_0
   try clear hfz31_1
   try clear hfz31_2
   try clear hfz36_0
   try clear hfz36_1
   try clear hfz36_2
   try clear hfz39_0
   try clear hfz39_1
   try clear hfz39_2
   try clear hfz9_0
   try clear hfz9_1
   try clear hfz9_2
   obtain ⟨kq,x158000_12,u158000,HA,HJ12,HO_158000,HO_158001,HO_158002,BK157,BK158,HB⟩:=hcut
   cases kq with
   |zero=>exact absurd HA.out (by simp [signal_Send.j0])
   |succ kj12=>
    have H:=HA.out
    clear HA
    simp only [signal_Send.j0] at H
    by_cases c40:a1=18
    ·rw [if_pos c40] at H
     have c40b0:(a1 == 18)=true:=beq_iff_eq.mpr c40
     have c40b1:(a1 != 18)=false:=bne_eq_false_iff_eq.mpr c40
     clear c40
     replace H:=Option.bind_eq_some_iff.mp H
     obtain ⟨t176,A410,H⟩:=H
     replace H:(some (t176,t163,t166))=some (r1,r2,r3):=H
     have A41:=Zk A410
     clear A410
     simp only [Option.some.injEq,Prod.mk.injEq] at H
     obtain ⟨rfl,rfl,rfl⟩:=H
     have hnb42:=NB157_158.out
     have hnc42:=NB158_157.out
     have hcz43_0:wc.cell? ⟨gb157,0,none⟩=some (u158000):=(zJ BK157.out 0).trans rfl
     have hcz43_1:wc.cell? ⟨gb157,1,none⟩=some (.slice Ao22 t163.length co22):=(zJ BK157.out 1).trans rfl
     have hcz43_2:wc.cell? ⟨gb157,2,none⟩=some (.slice Ao23 t166.length co23):=(zJ BK157.out 2).trans rfl
     have hfz43_0:=zI BK157.out 0
     have hfz43_1:=zI BK157.out 1
     have hfz43_2:=zI BK157.out 2
     obtain ⟨Ao44,co44,eo44⟩:=yQ HO_158000.out
     subst eo44
     go_wp2_with (first|((with_reducible refine yD (f:=45) rfl ?_);refine yM (some 35) rfl rfl Tryd.func45 (by kernel_rfl) rfl #[.slice Ao44 x158000_12.length co44,.int .i64 a1] rfl (by (try simp only [List.map_toArray,List.map_cons,List.map_nil]);first|done|rfl|(simp only [List.length_drop,List.length_take];rfl)) ?_;(with_reducible refine (signal_with.calls kj12 _ _ x158000_12 a1 t176 _ ?side1 ?side2 A41.out).mono ?_);(case side1=>repeat (first|exact (yZ HO_158000.out).2.2|(with_reducible refine yG ?_ _)|(with_reducible refine yF ?_ _)|(with_reducible refine yI ?_)));(case side2=>exact (yZ HO_158000.out).2.1);rintro e w45 ⟨v177,rfl,ho0,hb⟩;refine ⟨_,rfl,?_⟩;have n0_:=Zk (yK (by (with_reducible repeat (first|apply zR|apply zQ|apply zU));exact HO_158000.out) (zZ ho0) hb);have n1_:=Zk (yK (by (with_reducible repeat (first|apply zR|apply zQ|apply zU));exact HO_158001.out) (zZ ho0) hb);have n2_:=Zk (yK (by (with_reducible repeat (first|apply zR|apply zQ|apply zU));exact HO_158002.out) (zZ ho0) hb);have n3_:=Zk (yU (yR (yR (yR (R_newM (M:=fun k_=>(w.heap.size≤k_)) ho0 (zP (by repeat (first|(with_reducible first|exact HB.out|apply zG|apply zD|apply zH|refine zC ?_ GE157.out|refine zC ?_ GE158.out)|exact HB.out))) (fun k_ h_=>h_)) (R_lt (by (with_reducible repeat (first|apply zR|apply zQ|apply zU));exact HO_158000.out))) (R_lt (by (with_reducible repeat (first|apply zR|apply zQ|apply zU));exact HO_158001.out))) (R_lt (by (with_reducible repeat (first|apply zR|apply zQ|apply zU));exact HO_158002.out))) (zP (by repeat (first|(with_reducible first|exact HB.out|apply zG|apply zD|apply zH|refine zC ?_ GE157.out|refine zC ?_ GE158.out)|exact HB.out))));have n4_:=Zk (zW (g:=gb157) (o:=.cells #[.slice Ao44 x158000_12.length co44,.slice Ao22 t163.length co22,.slice Ao23 t166.length co23] 30 (0,0)) (by (with_reducible repeat (first|refine zB ?_ _|refine zF ?_|refine zA ?_ _));exact BK157.out) hb);have n5_:=Zk (zW (g:=gb158) (o:=.cells #[.slice none 0 0,.slice none 0 0,.slice none 0 0] 30 (0,0)) (by (with_reducible repeat (first|refine zB ?_ _|refine zF ?_|refine zA ?_ _));exact BK158.out) hb);have n6_:=Zk (yA (by repeat (first|(with_reducible first|exact HB.out|apply zG|apply zD|apply zH|refine zC ?_ GE157.out|refine zC ?_ GE158.out)|exact HB.out)) hb);clear HO_158000;clear HO_158001;clear HO_158002;clear BK157;clear BK158;clear HB;have HO_158000:=n0_;have HO_158001:=n1_;have HO_158002:=n2_;have HO178:=n3_;have BK157:=n4_;have BK158:=n5_;have HB:=n6_;clear n0_ n1_ n2_ n3_ n4_ n5_ n6_;(try clear hb);(try clear hb2);(try clear hk);(try clear hi);(try clear ho0);obtain ⟨Ao46,co46,eo46⟩:=yQ HO178.out;subst eo46;have hcz47_0:w45.cell? ⟨gb157,0,none⟩=some (.slice Ao44 x158000_12.length co44):=(zJ BK157.out 0).trans rfl;have hcz47_1:w45.cell? ⟨gb157,1,none⟩=some (.slice Ao22 t163.length co22):=(zJ BK157.out 1).trans rfl;have hcz47_2:w45.cell? ⟨gb157,2,none⟩=some (.slice Ao23 t166.length co23):=(zJ BK157.out 2).trans rfl;have hfz47_0:=zI BK157.out 0;have hfz47_1:=zI BK157.out 1;have hfz47_2:=zI BK157.out 2;have hcz48_0:w45.cell? ⟨gb158,0,none⟩=some (.slice none 0 0):=(zJ BK158.out 0).trans rfl;have hcz48_1:w45.cell? ⟨gb158,1,none⟩=some (.slice none 0 0):=(zJ BK158.out 1).trans rfl;have hcz48_2:w45.cell? ⟨gb158,2,none⟩=some (.slice none 0 0):=(zJ BK158.out 2).trans rfl;have hfz48_0:=zI BK158.out 0;have hfz48_1:=zI BK158.out 1;have hfz48_2:=zI BK158.out 2)|((with_reducible refine xA (t:=30) (p:=4) rfl ?_);refine yY (t:=30) (p:=4) (v:=?vo_w49) (w1:=((((w45.setCell ⟨gb157,0,none⟩ (.slice Ao46 t176.length co46)).setCell ⟨gb158,0,none⟩ (.slice Ao46 t176.length co46)).setCell ⟨gb158,1,none⟩ (.slice Ao22 t163.length co22)).setCell ⟨gb158,2,none⟩ (.slice Ao23 t166.length co23))) ?hg ?ho ?hn ?hr ?_;(case ho=>rfl);(case hg=>rfl);(case hn=>rfl);(case hr=>first|(go_simp;done)|(go_simp;rfl));intro w49 hw;have n0_:zN (Kd.R (Kd.int .i64) 3 w49 w.heap.size (fun k_=>(w.heap.size≤k_)∧some k_≠(.slice Ao22 t163.length co22:Value).ownBlock∧some k_≠(.slice Ao23 t166.length co23:Value).ownBlock∧some k_≠(.slice Ao46 t176.length co46:Value).ownBlock) (.slice Ao44 x158000_12.length co44) x158000_12):=⟨(by rw [hw];exact (by (with_reducible repeat (first|apply zR|apply zQ|apply zU));exact yB (zT (p:=⟨gb158,2,none⟩) (zT (p:=⟨gb158,1,none⟩) (zT (p:=⟨gb158,0,none⟩) (zT (p:=⟨gb157,0,none⟩) (zX (zX HO_158000.out BK157.out (by decide)) BK158.out (by decide)) (fun _ hk=>hk.1.2) (.slice Ao46 t176.length co46)) (fun _ hk=>hk.2) (.slice Ao46 t176.length co46)) (fun _ hk=>hk.2) (.slice Ao22 t163.length co22)) (fun _ hk=>hk.2) (.slice Ao23 t166.length co23)) (fun _ hk=>⟨hk.1.1.1.1,⟨hk.1.1.1.2.1,⟨hk.1.1.1.2.2,hk.1.1.2⟩⟩⟩)))⟩;have n1_:zN (Kd.R (Kd.int .i64) 3 w49 w.heap.size (fun k_=>(w.heap.size≤k_)∧some k_≠(.slice Ao44 x158000_12.length co44:Value).ownBlock∧some k_≠(.slice Ao23 t166.length co23:Value).ownBlock∧some k_≠(.slice Ao46 t176.length co46:Value).ownBlock) (.slice Ao22 t163.length co22) t163):=⟨(by rw [hw];exact (by (with_reducible repeat (first|apply zR|apply zQ|apply zU));exact yB (zT (p:=⟨gb158,2,none⟩) (zT (p:=⟨gb158,1,none⟩) (zT (p:=⟨gb158,0,none⟩) (zT (p:=⟨gb157,0,none⟩) (zX (zX HO_158001.out BK157.out (by decide)) BK158.out (by decide)) (fun _ hk=>hk.1.2) (.slice Ao46 t176.length co46)) (fun _ hk=>hk.2) (.slice Ao46 t176.length co46)) (fun _ hk=>hk.2) (.slice Ao22 t163.length co22)) (fun _ hk=>hk.2) (.slice Ao23 t166.length co23)) (fun _ hk=>⟨hk.1.1.1.1,⟨hk.1.1.1.2.1,⟨hk.1.1.1.2.2,hk.1.1.2⟩⟩⟩)))⟩;have n2_:zN (Kd.R (Kd.int .i64) 3 w49 w.heap.size (fun k_=>(w.heap.size≤k_)∧some k_≠(.slice Ao44 x158000_12.length co44:Value).ownBlock∧some k_≠(.slice Ao22 t163.length co22:Value).ownBlock∧some k_≠(.slice Ao46 t176.length co46:Value).ownBlock) (.slice Ao23 t166.length co23) t166):=⟨(by rw [hw];exact (by (with_reducible repeat (first|apply zR|apply zQ|apply zU));exact yB (zT (p:=⟨gb158,2,none⟩) (zT (p:=⟨gb158,1,none⟩) (zT (p:=⟨gb158,0,none⟩) (zT (p:=⟨gb157,0,none⟩) (zX (zX HO_158002.out BK157.out (by decide)) BK158.out (by decide)) (fun _ hk=>hk.1.2) (.slice Ao46 t176.length co46)) (fun _ hk=>hk.2) (.slice Ao46 t176.length co46)) (fun _ hk=>hk.2) (.slice Ao22 t163.length co22)) (fun _ hk=>hk.2) (.slice Ao23 t166.length co23)) (fun _ hk=>⟨hk.1.1.1.1,⟨hk.1.1.1.2.1,⟨hk.1.1.1.2.2,hk.1.1.2⟩⟩⟩)))⟩;have n3_:zN (Kd.R (Kd.int .i64) 3 w49 w.heap.size (fun k_=>(w.heap.size≤k_)∧some k_≠(.slice Ao44 x158000_12.length co44:Value).ownBlock∧some k_≠(.slice Ao22 t163.length co22:Value).ownBlock∧some k_≠(.slice Ao23 t166.length co23:Value).ownBlock) (.slice Ao46 t176.length co46) t176):=⟨(by rw [hw];exact (by (with_reducible repeat (first|apply zR|apply zQ|apply zU));exact yB (zT (p:=⟨gb158,2,none⟩) (zT (p:=⟨gb158,1,none⟩) (zT (p:=⟨gb158,0,none⟩) (zT (p:=⟨gb157,0,none⟩) (zX (zX HO178.out BK157.out (by decide)) BK158.out (by decide)) (fun _ hk=>hk.1.2) (.slice Ao46 t176.length co46)) (fun _ hk=>hk.2) (.slice Ao46 t176.length co46)) (fun _ hk=>hk.2) (.slice Ao22 t163.length co22)) (fun _ hk=>hk.2) (.slice Ao23 t166.length co23)) (fun _ hk=>⟨hk.1.1.1.1.1.1,⟨hk.1.1.1.1.2,⟨hk.1.1.1.2,hk.1.1.2⟩⟩⟩)))⟩;have n4_:zN (w49.heap[gb157]?=some (.cells #[.slice Ao46 t176.length co46,.slice Ao22 t163.length co22,.slice Ao23 t166.length co23] 30 (0,0))):=⟨(by rw [hw];exact (by (with_reducible repeat (first|refine zB ?_ _|refine zF ?_|refine zA ?_ _));refine zY ?_ NB157_158.out _;(with_reducible repeat (first|refine zB ?_ _|refine zF ?_|refine zA ?_ _));refine zY ?_ NB157_158.out _;(with_reducible repeat (first|refine zB ?_ _|refine zF ?_|refine zA ?_ _));refine zY ?_ NB157_158.out _;(with_reducible repeat (first|refine zB ?_ _|refine zF ?_|refine zA ?_ _));refine yE (cs:=#[.slice Ao44 x158000_12.length co44,.slice Ao22 t163.length co22,.slice Ao23 t166.length co23]) ?_ 0 _ rfl;(with_reducible repeat (first|refine zB ?_ _|refine zF ?_|refine zA ?_ _));exact BK157.out))⟩;have n5_:zN (w49.heap[gb158]?=some (.cells #[.slice Ao46 t176.length co46,.slice Ao22 t163.length co22,.slice Ao23 t166.length co23] 30 (0,0))):=⟨(by rw [hw];exact (by (with_reducible repeat (first|refine zB ?_ _|refine zF ?_|refine zA ?_ _));refine yE (cs:=#[.slice Ao46 t176.length co46,.slice Ao22 t163.length co22,.slice none 0 0]) ?_ 2 _ rfl;(with_reducible repeat (first|refine zB ?_ _|refine zF ?_|refine zA ?_ _));refine yE (cs:=#[.slice Ao46 t176.length co46,.slice none 0 0,.slice none 0 0]) ?_ 1 _ rfl;(with_reducible repeat (first|refine zB ?_ _|refine zF ?_|refine zA ?_ _));refine yE (cs:=#[.slice none 0 0,.slice none 0 0,.slice none 0 0]) ?_ 0 _ rfl;(with_reducible repeat (first|refine zB ?_ _|refine zF ?_|refine zA ?_ _));refine zY ?_ NB158_157.out _;(with_reducible repeat (first|refine zB ?_ _|refine zF ?_|refine zA ?_ _));exact BK158.out))⟩;have n6_:zN (Below w.heap.size w w49):=⟨(by rw [hw];exact (by repeat (first|(with_reducible first|exact HB.out|apply zG|apply zD|apply zH|refine zC ?_ GE157.out|refine zC ?_ GE158.out)|exact HB.out)))⟩;clear hw;clear HO_158000;clear HO_158001;clear HO_158002;clear HO178;clear BK157;clear BK158;clear HB;have HO_158000:=n0_;have HO_158001:=n1_;have HO_158002:=n2_;have HO178:=n3_;have BK157:=n4_;have BK158:=n5_;have HB:=n6_;clear n0_ n1_ n2_ n3_ n4_ n5_ n6_))
     refine bodyPost_ret (results_cell_row rfl _ _ gb158 30 #[.slice Ao46 t176.length co46,.slice Ao22 t163.length co22,.slice Ao23 t166.length co23] (0,0) _ rfl (by (with_reducible repeat (first|refine zB ?_ _|refine zF ?_|refine zA ?_ _));exact BK158.out) Tryd.underlying30 rfl (by kernel_rfl)) rfl ?_
     exact ⟨_,_,_,by first|rfl|(simp [errW_none,errW_some] <;> rfl)|(simp [*,errW_none,errW_some] <;> rfl),zO (R_V (by (with_reducible repeat (first|apply zR|apply zQ|apply zU));exact yB HO178.out (fun _ hk=>hk.1))) (fun k_ hk=>by first|exact ⟨(.inr (hk.1)),hk.2⟩|exact (.inr (hk))),zO (R_V (by (with_reducible repeat (first|apply zR|apply zQ|apply zU));exact yB HO_158001.out (fun _ hk=>hk.1))) (fun k_ hk=>by first|exact ⟨(.inr (hk.1)),hk.2⟩|exact (.inr (hk))),zO (R_V (by (with_reducible repeat (first|apply zR|apply zQ|apply zU));exact yB HO_158002.out (fun _ hk=>hk.1))) (fun k_ hk=>by first|exact ⟨(.inr (hk.1)),hk.2⟩|exact (.inr (hk))),by repeat (first|(with_reducible first|exact HB.out|apply zG|apply zD|apply zH|refine zC ?_ GE157.out|refine zC ?_ GE158.out)|exact HB.out)⟩
    ·rw [if_neg c40] at H
     have c40b0:(a1 == 18)=false:=beq_eq_false_iff_ne.mpr c40
     have c40b1:(a1 != 18)=true:=bne_iff_ne.mpr c40
     replace H:=Option.bind_eq_some_iff.mp H
     obtain ⟨t179,A500,H⟩:=H
     replace H:(if t179=true then (some (x158000_12,t163,t166)) else ((signal_with.f kj12 x158000_12 a1).bind fun t180=>(some (t180,t163,t166))))=some (r1,r2,r3):=H
     have A50:=Zk A500
     clear A500
     by_cases c51:t179=true
     ·subst c51
      have H1:(some (x158000_12,t163,t166))=some (r1,r2,r3):=by rw [if_pos rfl] at H;exact H
      clear H
      have H:=H1
      clear H1
      simp only [Option.some.injEq,Prod.mk.injEq] at H
      obtain ⟨rfl,rfl,rfl⟩:=H
      have hnb52:=NB157_158.out
      have hnc52:=NB158_157.out
      have hcz53_0:wc.cell? ⟨gb157,0,none⟩=some (u158000):=(zJ BK157.out 0).trans rfl
      have hcz53_1:wc.cell? ⟨gb157,1,none⟩=some (.slice Ao22 t163.length co22):=(zJ BK157.out 1).trans rfl
      have hcz53_2:wc.cell? ⟨gb157,2,none⟩=some (.slice Ao23 t166.length co23):=(zJ BK157.out 2).trans rfl
      have hfz53_0:=zI BK157.out 0
      have hfz53_1:=zI BK157.out 1
      have hfz53_2:=zI BK157.out 2
      go_wp2_with (first|(go_at_call 38;(with_reducible refine (slices_Contains_int_int.calls kj12 _ _ t163 a1 true _ ?side1 ?side2 A50.out).mono ?_);(case side1=>repeat (first|exact (yZ HO_158001.out).2.2|(with_reducible refine yG ?_ _)|(with_reducible refine yF ?_ _)|(with_reducible refine yI ?_)));(case side2=>exact (yZ HO_158001.out).2.1);rintro e w' ⟨rfl,⟨nd,rfl⟩⟩;(try (rw [drewN_self wc];generalize hq_:World.drewN wc _=wc;(try replace hcz53_0:=cz_at hq_ hcz53_0);(try replace hcz53_1:=cz_at hq_ hcz53_1);(try replace hcz53_2:=cz_at hq_ hcz53_2);(try replace hfz53_0:=fz_at hq_ hfz53_0);(try replace hfz53_1:=fz_at hq_ hfz53_1);(try replace hfz53_2:=fz_at hq_ hfz53_2);have n0_:=Zk (R_at hq_ HO_158000.out);have n1_:=Zk (R_at hq_ HO_158001.out);have n2_:=Zk (R_at hq_ HO_158002.out);have n3_:=Zk (blk_at hq_ BK157.out);have n4_:=Zk (blk_at hq_ BK158.out);have n5_:=Zk (below_at hq_ HB.out);clear hq_ HO_158000 HO_158001 HO_158002 BK157 BK158 HB;have HO_158000:=n0_;have HO_158001:=n1_;have HO_158002:=n2_;have BK157:=n3_;have BK158:=n4_;have HB:=n5_;clear n0_ n1_ n2_ n3_ n4_ n5_));obtain ⟨Ao54,co54,eo54⟩:=yQ HO_158000.out;subst eo54;have hcz55_0:wc.cell? ⟨gb158,0,none⟩=some (.slice none 0 0):=(zJ BK158.out 0).trans rfl;have hcz55_1:wc.cell? ⟨gb158,1,none⟩=some (.slice none 0 0):=(zJ BK158.out 1).trans rfl;have hcz55_2:wc.cell? ⟨gb158,2,none⟩=some (.slice none 0 0):=(zJ BK158.out 2).trans rfl;have hfz55_0:=zI BK158.out 0;have hfz55_1:=zI BK158.out 1;have hfz55_2:=zI BK158.out 2)|((with_reducible refine xA (t:=30) (p:=4) rfl ?_);refine yY (t:=30) (p:=4) (v:=?vo_w56) (w1:=(((wc.setCell ⟨gb158,0,none⟩ (.slice Ao54 x158000_12.length co54)).setCell ⟨gb158,1,none⟩ (.slice Ao22 t163.length co22)).setCell ⟨gb158,2,none⟩ (.slice Ao23 t166.length co23))) ?hg ?ho ?hn ?hr ?_;(case ho=>rfl);(case hg=>rfl);(case hn=>rfl);(case hr=>first|(go_simp;done)|(go_simp;rfl));intro w56 hw;have n0_:zN (Kd.R (Kd.int .i64) 3 w56 w.heap.size (fun k_=>(w.heap.size≤k_)∧some k_≠(.slice Ao22 t163.length co22:Value).ownBlock∧some k_≠(.slice Ao23 t166.length co23:Value).ownBlock) (.slice Ao54 x158000_12.length co54) x158000_12):=⟨(by rw [hw];exact (by (with_reducible repeat (first|apply zR|apply zQ|apply zU));exact yB (zT (p:=⟨gb158,2,none⟩) (zT (p:=⟨gb158,1,none⟩) (zT (p:=⟨gb158,0,none⟩) (zX HO_158000.out BK158.out (by decide)) (fun _ hk=>hk.2) (.slice Ao54 x158000_12.length co54)) (fun _ hk=>hk.2) (.slice Ao22 t163.length co22)) (fun _ hk=>hk.2) (.slice Ao23 t166.length co23)) (fun _ hk=>⟨hk.1.1,⟨hk.1.2.1,hk.1.2.2⟩⟩)))⟩;have n1_:zN (Kd.R (Kd.int .i64) 3 w56 w.heap.size (fun k_=>(w.heap.size≤k_)∧some k_≠(.slice Ao54 x158000_12.length co54:Value).ownBlock∧some k_≠(.slice Ao23 t166.length co23:Value).ownBlock) (.slice Ao22 t163.length co22) t163):=⟨(by rw [hw];exact (by (with_reducible repeat (first|apply zR|apply zQ|apply zU));exact yB (zT (p:=⟨gb158,2,none⟩) (zT (p:=⟨gb158,1,none⟩) (zT (p:=⟨gb158,0,none⟩) (zX HO_158001.out BK158.out (by decide)) (fun _ hk=>hk.2) (.slice Ao54 x158000_12.length co54)) (fun _ hk=>hk.2) (.slice Ao22 t163.length co22)) (fun _ hk=>hk.2) (.slice Ao23 t166.length co23)) (fun _ hk=>⟨hk.1.1,⟨hk.1.2.1,hk.1.2.2⟩⟩)))⟩;have n2_:zN (Kd.R (Kd.int .i64) 3 w56 w.heap.size (fun k_=>(w.heap.size≤k_)∧some k_≠(.slice Ao54 x158000_12.length co54:Value).ownBlock∧some k_≠(.slice Ao22 t163.length co22:Value).ownBlock) (.slice Ao23 t166.length co23) t166):=⟨(by rw [hw];exact (by (with_reducible repeat (first|apply zR|apply zQ|apply zU));exact yB (zT (p:=⟨gb158,2,none⟩) (zT (p:=⟨gb158,1,none⟩) (zT (p:=⟨gb158,0,none⟩) (zX HO_158002.out BK158.out (by decide)) (fun _ hk=>hk.2) (.slice Ao54 x158000_12.length co54)) (fun _ hk=>hk.2) (.slice Ao22 t163.length co22)) (fun _ hk=>hk.2) (.slice Ao23 t166.length co23)) (fun _ hk=>⟨hk.1.1,⟨hk.1.2.1,hk.1.2.2⟩⟩)))⟩;have n3_:zN (w56.heap[gb157]?=some (.cells #[.slice Ao54 x158000_12.length co54,.slice Ao22 t163.length co22,.slice Ao23 t166.length co23] 30 (0,0))):=⟨(by rw [hw];exact (by (with_reducible repeat (first|refine zB ?_ _|refine zF ?_|refine zA ?_ _));refine zY ?_ NB157_158.out _;(with_reducible repeat (first|refine zB ?_ _|refine zF ?_|refine zA ?_ _));refine zY ?_ NB157_158.out _;(with_reducible repeat (first|refine zB ?_ _|refine zF ?_|refine zA ?_ _));refine zY ?_ NB157_158.out _;(with_reducible repeat (first|refine zB ?_ _|refine zF ?_|refine zA ?_ _));exact BK157.out))⟩;have n4_:zN (w56.heap[gb158]?=some (.cells #[.slice Ao54 x158000_12.length co54,.slice Ao22 t163.length co22,.slice Ao23 t166.length co23] 30 (0,0))):=⟨(by rw [hw];exact (by (with_reducible repeat (first|refine zB ?_ _|refine zF ?_|refine zA ?_ _));refine yE (cs:=#[.slice Ao54 x158000_12.length co54,.slice Ao22 t163.length co22,.slice none 0 0]) ?_ 2 _ rfl;(with_reducible repeat (first|refine zB ?_ _|refine zF ?_|refine zA ?_ _));refine yE (cs:=#[.slice Ao54 x158000_12.length co54,.slice none 0 0,.slice none 0 0]) ?_ 1 _ rfl;(with_reducible repeat (first|refine zB ?_ _|refine zF ?_|refine zA ?_ _));refine yE (cs:=#[.slice none 0 0,.slice none 0 0,.slice none 0 0]) ?_ 0 _ rfl;(with_reducible repeat (first|refine zB ?_ _|refine zF ?_|refine zA ?_ _));exact BK158.out))⟩;have n5_:zN (Below w.heap.size w w56):=⟨(by rw [hw];exact (by repeat (first|(with_reducible first|exact HB.out|apply zG|apply zD|apply zH|refine zC ?_ GE157.out|refine zC ?_ GE158.out)|exact HB.out)))⟩;clear hw;clear HO_158000;clear HO_158001;clear HO_158002;clear BK157;clear BK158;clear HB;have HO_158000:=n0_;have HO_158001:=n1_;have HO_158002:=n2_;have BK157:=n3_;have BK158:=n4_;have HB:=n5_;clear n0_ n1_ n2_ n3_ n4_ n5_))
      refine bodyPost_ret (results_cell_row rfl _ _ gb158 30 #[.slice Ao54 x158000_12.length co54,.slice Ao22 t163.length co22,.slice Ao23 t166.length co23] (0,0) _ rfl (by (with_reducible repeat (first|refine zB ?_ _|refine zF ?_|refine zA ?_ _));exact BK158.out) Tryd.underlying30 rfl (by kernel_rfl)) rfl ?_
      exact ⟨_,_,_,by first|rfl|(simp [errW_none,errW_some] <;> rfl)|(simp [*,errW_none,errW_some] <;> rfl),zO (R_V (by (with_reducible repeat (first|apply zR|apply zQ|apply zU));exact yB HO_158000.out (fun _ hk=>hk.1))) (fun k_ hk=>by first|exact ⟨(.inr (hk.1)),hk.2⟩|exact (.inr (hk))),zO (R_V (by (with_reducible repeat (first|apply zR|apply zQ|apply zU));exact yB HO_158001.out (fun _ hk=>hk.1))) (fun k_ hk=>by first|exact ⟨(.inr (hk.1)),hk.2⟩|exact (.inr (hk))),zO (R_V (by (with_reducible repeat (first|apply zR|apply zQ|apply zU));exact yB HO_158002.out (fun _ hk=>hk.1))) (fun k_ hk=>by first|exact ⟨(.inr (hk.1)),hk.2⟩|exact (.inr (hk))),by repeat (first|(with_reducible first|exact HB.out|apply zG|apply zD|apply zH|refine zC ?_ GE157.out|refine zC ?_ GE158.out)|exact HB.out)⟩
     ·replace c51:=Bool.eq_false_iff.mpr c51
      subst c51
      have H1:((signal_with.f kj12 x158000_12 a1).bind fun t180=>(some (t180,t163,t166)))=some (r1,r2,r3):=by rw [if_neg (show ¬ (false=true) by decide)] at H;exact H
      clear H
      have H:=H1
      clear H1
      replace H:=Option.bind_eq_some_iff.mp H
      obtain ⟨t180,A570,H⟩:=H
      replace H:(some (t180,t163,t166))=some (r1,r2,r3):=H
      have A57:=Zk A570
      clear A570
      simp only [Option.some.injEq,Prod.mk.injEq] at H
      obtain ⟨rfl,rfl,rfl⟩:=H
      have hnb58:=NB157_158.out
      have hnc58:=NB158_157.out
      have hcz59_0:wc.cell? ⟨gb157,0,none⟩=some (u158000):=(zJ BK157.out 0).trans rfl
      have hcz59_1:wc.cell? ⟨gb157,1,none⟩=some (.slice Ao22 t163.length co22):=(zJ BK157.out 1).trans rfl
      have hcz59_2:wc.cell? ⟨gb157,2,none⟩=some (.slice Ao23 t166.length co23):=(zJ BK157.out 2).trans rfl
      have hfz59_0:=zI BK157.out 0
      have hfz59_1:=zI BK157.out 1
      have hfz59_2:=zI BK157.out 2
      go_wp2_with (first|(go_at_call 38;(with_reducible refine (slices_Contains_int_int.calls kj12 _ _ t163 a1 false _ ?side1 ?side2 A50.out).mono ?_);(case side1=>repeat (first|exact (yZ HO_158001.out).2.2|(with_reducible refine yG ?_ _)|(with_reducible refine yF ?_ _)|(with_reducible refine yI ?_)));(case side2=>exact (yZ HO_158001.out).2.1);rintro e w' ⟨rfl,⟨nd,rfl⟩⟩;(try (rw [drewN_self wc];generalize hq_:World.drewN wc _=wc;(try replace hcz59_0:=cz_at hq_ hcz59_0);(try replace hcz59_1:=cz_at hq_ hcz59_1);(try replace hcz59_2:=cz_at hq_ hcz59_2);(try replace hfz59_0:=fz_at hq_ hfz59_0);(try replace hfz59_1:=fz_at hq_ hfz59_1);(try replace hfz59_2:=fz_at hq_ hfz59_2);have n0_:=Zk (R_at hq_ HO_158000.out);have n1_:=Zk (R_at hq_ HO_158001.out);have n2_:=Zk (R_at hq_ HO_158002.out);have n3_:=Zk (blk_at hq_ BK157.out);have n4_:=Zk (blk_at hq_ BK158.out);have n5_:=Zk (below_at hq_ HB.out);clear hq_ HO_158000 HO_158001 HO_158002 BK157 BK158 HB;have HO_158000:=n0_;have HO_158001:=n1_;have HO_158002:=n2_;have BK157:=n3_;have BK158:=n4_;have HB:=n5_;clear n0_ n1_ n2_ n3_ n4_ n5_));obtain ⟨Ao60,co60,eo60⟩:=yQ HO_158000.out;subst eo60)|((with_reducible refine yD (f:=45) rfl ?_);refine yM (some 35) rfl rfl Tryd.func45 (by kernel_rfl) rfl #[.slice Ao60 x158000_12.length co60,.int .i64 a1] rfl (by (try simp only [List.map_toArray,List.map_cons,List.map_nil]);first|done|rfl|(simp only [List.length_drop,List.length_take];rfl)) ?_;(with_reducible refine (signal_with.calls kj12 _ _ x158000_12 a1 t180 _ ?side1 ?side2 A57.out).mono ?_);(case side1=>repeat (first|exact (yZ HO_158000.out).2.2|(with_reducible refine yG ?_ _)|(with_reducible refine yF ?_ _)|(with_reducible refine yI ?_)));(case side2=>exact (yZ HO_158000.out).2.1);rintro e w61 ⟨v181,rfl,ho0,hb⟩;refine ⟨_,rfl,?_⟩;have n0_:=Zk (yK (by (with_reducible repeat (first|apply zR|apply zQ|apply zU));exact HO_158000.out) (zZ ho0) hb);have n1_:=Zk (yK (by (with_reducible repeat (first|apply zR|apply zQ|apply zU));exact HO_158001.out) (zZ ho0) hb);have n2_:=Zk (yK (by (with_reducible repeat (first|apply zR|apply zQ|apply zU));exact HO_158002.out) (zZ ho0) hb);have n3_:=Zk (yU (yR (yR (yR (R_newM (M:=fun k_=>(w.heap.size≤k_)) ho0 (zP (by repeat (first|(with_reducible first|exact HB.out|apply zG|apply zD|apply zH|refine zC ?_ GE157.out|refine zC ?_ GE158.out)|exact HB.out))) (fun k_ h_=>h_)) (R_lt (by (with_reducible repeat (first|apply zR|apply zQ|apply zU));exact HO_158000.out))) (R_lt (by (with_reducible repeat (first|apply zR|apply zQ|apply zU));exact HO_158001.out))) (R_lt (by (with_reducible repeat (first|apply zR|apply zQ|apply zU));exact HO_158002.out))) (zP (by repeat (first|(with_reducible first|exact HB.out|apply zG|apply zD|apply zH|refine zC ?_ GE157.out|refine zC ?_ GE158.out)|exact HB.out))));have n4_:=Zk (zW (g:=gb157) (o:=.cells #[.slice Ao60 x158000_12.length co60,.slice Ao22 t163.length co22,.slice Ao23 t166.length co23] 30 (0,0)) (by (with_reducible repeat (first|refine zB ?_ _|refine zF ?_|refine zA ?_ _));exact BK157.out) hb);have n5_:=Zk (zW (g:=gb158) (o:=.cells #[.slice none 0 0,.slice none 0 0,.slice none 0 0] 30 (0,0)) (by (with_reducible repeat (first|refine zB ?_ _|refine zF ?_|refine zA ?_ _));exact BK158.out) hb);have n6_:=Zk (yA (by repeat (first|(with_reducible first|exact HB.out|apply zG|apply zD|apply zH|refine zC ?_ GE157.out|refine zC ?_ GE158.out)|exact HB.out)) hb);clear HO_158000;clear HO_158001;clear HO_158002;clear BK157;clear BK158;clear HB;have HO_158000:=n0_;have HO_158001:=n1_;have HO_158002:=n2_;have HO182:=n3_;have BK157:=n4_;have BK158:=n5_;have HB:=n6_;clear n0_ n1_ n2_ n3_ n4_ n5_ n6_;(try clear hb);(try clear hb2);(try clear hk);(try clear hi);(try clear ho0);obtain ⟨Ao62,co62,eo62⟩:=yQ HO182.out;subst eo62;have hcz63_0:w61.cell? ⟨gb157,0,none⟩=some (.slice Ao60 x158000_12.length co60):=(zJ BK157.out 0).trans rfl;have hcz63_1:w61.cell? ⟨gb157,1,none⟩=some (.slice Ao22 t163.length co22):=(zJ BK157.out 1).trans rfl;have hcz63_2:w61.cell? ⟨gb157,2,none⟩=some (.slice Ao23 t166.length co23):=(zJ BK157.out 2).trans rfl;have hfz63_0:=zI BK157.out 0;have hfz63_1:=zI BK157.out 1;have hfz63_2:=zI BK157.out 2;have hcz64_0:w61.cell? ⟨gb158,0,none⟩=some (.slice none 0 0):=(zJ BK158.out 0).trans rfl;have hcz64_1:w61.cell? ⟨gb158,1,none⟩=some (.slice none 0 0):=(zJ BK158.out 1).trans rfl;have hcz64_2:w61.cell? ⟨gb158,2,none⟩=some (.slice none 0 0):=(zJ BK158.out 2).trans rfl;have hfz64_0:=zI BK158.out 0;have hfz64_1:=zI BK158.out 1;have hfz64_2:=zI BK158.out 2)|((with_reducible refine xA (t:=30) (p:=4) rfl ?_);refine yY (t:=30) (p:=4) (v:=?vo_w65) (w1:=((((w61.setCell ⟨gb157,0,none⟩ (.slice Ao62 t180.length co62)).setCell ⟨gb158,0,none⟩ (.slice Ao62 t180.length co62)).setCell ⟨gb158,1,none⟩ (.slice Ao22 t163.length co22)).setCell ⟨gb158,2,none⟩ (.slice Ao23 t166.length co23))) ?hg ?ho ?hn ?hr ?_;(case ho=>rfl);(case hg=>rfl);(case hn=>rfl);(case hr=>first|(go_simp;done)|(go_simp;rfl));intro w65 hw;have n0_:zN (Kd.R (Kd.int .i64) 3 w65 w.heap.size (fun k_=>(w.heap.size≤k_)∧some k_≠(.slice Ao22 t163.length co22:Value).ownBlock∧some k_≠(.slice Ao23 t166.length co23:Value).ownBlock∧some k_≠(.slice Ao62 t180.length co62:Value).ownBlock) (.slice Ao60 x158000_12.length co60) x158000_12):=⟨(by rw [hw];exact (by (with_reducible repeat (first|apply zR|apply zQ|apply zU));exact yB (zT (p:=⟨gb158,2,none⟩) (zT (p:=⟨gb158,1,none⟩) (zT (p:=⟨gb158,0,none⟩) (zT (p:=⟨gb157,0,none⟩) (zX (zX HO_158000.out BK157.out (by decide)) BK158.out (by decide)) (fun _ hk=>hk.1.2) (.slice Ao62 t180.length co62)) (fun _ hk=>hk.2) (.slice Ao62 t180.length co62)) (fun _ hk=>hk.2) (.slice Ao22 t163.length co22)) (fun _ hk=>hk.2) (.slice Ao23 t166.length co23)) (fun _ hk=>⟨hk.1.1.1.1,⟨hk.1.1.1.2.1,⟨hk.1.1.1.2.2,hk.1.1.2⟩⟩⟩)))⟩;have n1_:zN (Kd.R (Kd.int .i64) 3 w65 w.heap.size (fun k_=>(w.heap.size≤k_)∧some k_≠(.slice Ao60 x158000_12.length co60:Value).ownBlock∧some k_≠(.slice Ao23 t166.length co23:Value).ownBlock∧some k_≠(.slice Ao62 t180.length co62:Value).ownBlock) (.slice Ao22 t163.length co22) t163):=⟨(by rw [hw];exact (by (with_reducible repeat (first|apply zR|apply zQ|apply zU));exact yB (zT (p:=⟨gb158,2,none⟩) (zT (p:=⟨gb158,1,none⟩) (zT (p:=⟨gb158,0,none⟩) (zT (p:=⟨gb157,0,none⟩) (zX (zX HO_158001.out BK157.out (by decide)) BK158.out (by decide)) (fun _ hk=>hk.1.2) (.slice Ao62 t180.length co62)) (fun _ hk=>hk.2) (.slice Ao62 t180.length co62)) (fun _ hk=>hk.2) (.slice Ao22 t163.length co22)) (fun _ hk=>hk.2) (.slice Ao23 t166.length co23)) (fun _ hk=>⟨hk.1.1.1.1,⟨hk.1.1.1.2.1,⟨hk.1.1.1.2.2,hk.1.1.2⟩⟩⟩)))⟩;have n2_:zN (Kd.R (Kd.int .i64) 3 w65 w.heap.size (fun k_=>(w.heap.size≤k_)∧some k_≠(.slice Ao60 x158000_12.length co60:Value).ownBlock∧some k_≠(.slice Ao22 t163.length co22:Value).ownBlock∧some k_≠(.slice Ao62 t180.length co62:Value).ownBlock) (.slice Ao23 t166.length co23) t166):=⟨(by rw [hw];exact (by (with_reducible repeat (first|apply zR|apply zQ|apply zU));exact yB (zT (p:=⟨gb158,2,none⟩) (zT (p:=⟨gb158,1,none⟩) (zT (p:=⟨gb158,0,none⟩) (zT (p:=⟨gb157,0,none⟩) (zX (zX HO_158002.out BK157.out (by decide)) BK158.out (by decide)) (fun _ hk=>hk.1.2) (.slice Ao62 t180.length co62)) (fun _ hk=>hk.2) (.slice Ao62 t180.length co62)) (fun _ hk=>hk.2) (.slice Ao22 t163.length co22)) (fun _ hk=>hk.2) (.slice Ao23 t166.length co23)) (fun _ hk=>⟨hk.1.1.1.1,⟨hk.1.1.1.2.1,⟨hk.1.1.1.2.2,hk.1.1.2⟩⟩⟩)))⟩;have n3_:zN (Kd.R (Kd.int .i64) 3 w65 w.heap.size (fun k_=>(w.heap.size≤k_)∧some k_≠(.slice Ao60 x158000_12.length co60:Value).ownBlock∧some k_≠(.slice Ao22 t163.length co22:Value).ownBlock∧some k_≠(.slice Ao23 t166.length co23:Value).ownBlock) (.slice Ao62 t180.length co62) t180):=⟨(by rw [hw];exact (by (with_reducible repeat (first|apply zR|apply zQ|apply zU));exact yB (zT (p:=⟨gb158,2,none⟩) (zT (p:=⟨gb158,1,none⟩) (zT (p:=⟨gb158,0,none⟩) (zT (p:=⟨gb157,0,none⟩) (zX (zX HO182.out BK157.out (by decide)) BK158.out (by decide)) (fun _ hk=>hk.1.2) (.slice Ao62 t180.length co62)) (fun _ hk=>hk.2) (.slice Ao62 t180.length co62)) (fun _ hk=>hk.2) (.slice Ao22 t163.length co22)) (fun _ hk=>hk.2) (.slice Ao23 t166.length co23)) (fun _ hk=>⟨hk.1.1.1.1.1.1,⟨hk.1.1.1.1.2,⟨hk.1.1.1.2,hk.1.1.2⟩⟩⟩)))⟩;have n4_:zN (w65.heap[gb157]?=some (.cells #[.slice Ao62 t180.length co62,.slice Ao22 t163.length co22,.slice Ao23 t166.length co23] 30 (0,0))):=⟨(by rw [hw];exact (by (with_reducible repeat (first|refine zB ?_ _|refine zF ?_|refine zA ?_ _));refine zY ?_ NB157_158.out _;(with_reducible repeat (first|refine zB ?_ _|refine zF ?_|refine zA ?_ _));refine zY ?_ NB157_158.out _;(with_reducible repeat (first|refine zB ?_ _|refine zF ?_|refine zA ?_ _));refine zY ?_ NB157_158.out _;(with_reducible repeat (first|refine zB ?_ _|refine zF ?_|refine zA ?_ _));refine yE (cs:=#[.slice Ao60 x158000_12.length co60,.slice Ao22 t163.length co22,.slice Ao23 t166.length co23]) ?_ 0 _ rfl;(with_reducible repeat (first|refine zB ?_ _|refine zF ?_|refine zA ?_ _));exact BK157.out))⟩;have n5_:zN (w65.heap[gb158]?=some (.cells #[.slice Ao62 t180.length co62,.slice Ao22 t163.length co22,.slice Ao23 t166.length co23] 30 (0,0))):=⟨(by rw [hw];exact (by (with_reducible repeat (first|refine zB ?_ _|refine zF ?_|refine zA ?_ _));refine yE (cs:=#[.slice Ao62 t180.length co62,.slice Ao22 t163.length co22,.slice none 0 0]) ?_ 2 _ rfl;(with_reducible repeat (first|refine zB ?_ _|refine zF ?_|refine zA ?_ _));refine yE (cs:=#[.slice Ao62 t180.length co62,.slice none 0 0,.slice none 0 0]) ?_ 1 _ rfl;(with_reducible repeat (first|refine zB ?_ _|refine zF ?_|refine zA ?_ _));refine yE (cs:=#[.slice none 0 0,.slice none 0 0,.slice none 0 0]) ?_ 0 _ rfl;(with_reducible repeat (first|refine zB ?_ _|refine zF ?_|refine zA ?_ _));refine zY ?_ NB158_157.out _;(with_reducible repeat (first|refine zB ?_ _|refine zF ?_|refine zA ?_ _));exact BK158.out))⟩;have n6_:zN (Below w.heap.size w w65):=⟨(by rw [hw];exact (by repeat (first|(with_reducible first|exact HB.out|apply zG|apply zD|apply zH|refine zC ?_ GE157.out|refine zC ?_ GE158.out)|exact HB.out)))⟩;clear hw;clear HO_158000;clear HO_158001;clear HO_158002;clear HO182;clear BK157;clear BK158;clear HB;have HO_158000:=n0_;have HO_158001:=n1_;have HO_158002:=n2_;have HO182:=n3_;have BK157:=n4_;have BK158:=n5_;have HB:=n6_;clear n0_ n1_ n2_ n3_ n4_ n5_ n6_))
      refine bodyPost_ret (results_cell_row rfl _ _ gb158 30 #[.slice Ao62 t180.length co62,.slice Ao22 t163.length co22,.slice Ao23 t166.length co23] (0,0) _ rfl (by (with_reducible repeat (first|refine zB ?_ _|refine zF ?_|refine zA ?_ _));exact BK158.out) Tryd.underlying30 rfl (by kernel_rfl)) rfl ?_
      exact ⟨_,_,_,by first|rfl|(simp [errW_none,errW_some] <;> rfl)|(simp [*,errW_none,errW_some] <;> rfl),zO (R_V (by (with_reducible repeat (first|apply zR|apply zQ|apply zU));exact yB HO182.out (fun _ hk=>hk.1))) (fun k_ hk=>by first|exact ⟨(.inr (hk.1)),hk.2⟩|exact (.inr (hk))),zO (R_V (by (with_reducible repeat (first|apply zR|apply zQ|apply zU));exact yB HO_158001.out (fun _ hk=>hk.1))) (fun k_ hk=>by first|exact ⟨(.inr (hk.1)),hk.2⟩|exact (.inr (hk))),zO (R_V (by (with_reducible repeat (first|apply zR|apply zQ|apply zU));exact yB HO_158002.out (fun _ hk=>hk.1))) (fun k_ hk=>by first|exact ⟨(.inr (hk.1)),hk.2⟩|exact (.inr (hk))),by repeat (first|(with_reducible first|exact HB.out|apply zG|apply zD|apply zH|refine zC ?_ GE157.out|refine zC ?_ GE158.out)|exact HB.out)⟩
end Go.Proofs.YtnkkdpjipfjdaaaDoor.Q
end
section

namespace Go.Proofs.YtnkkdpjipfjdaaaDoor.Q
open Go.RowKit Go.Proofs.YtnkkdpjipfjdaaaDoorW.PrintWords Go.Proofs.YtnkkdpjipfjdaaaDoorW.PrintLast Go.Proofs.YtnkkdpjipfjdaaaDoorW.PrintMore Go.Proofs.YtnkkdpjipfjdaaaDoorM
open Kd
attribute [local go_sem] max2_int min2_int max_two min_two max_three min_three max_four min_four
set_option linter.unusedVariables false
set_option linter.unusedSimpArgs false
def jobshelllaw25_awake.f (k:Nat)  : Option (Bool):=(signal_Number.f k (⟨#[73,78,84]⟩:ByteArray)).bind fun bt183=>((signal_Number.f k (⟨#[48,50]⟩:ByteArray)).bind fun bt185=>((signal_Send.f k ([]:List Int) ([]:List Int) ([]:List Int) 20).bind fun bt187=>((signal_Send.f k bt187.1 bt187.2.1 bt187.2.2 18).bind fun bt196=>((signal_Send.f k ([]:List Int) (([2]:List Int)) ([]:List Int) 2).bind fun bt209=>((signal_Next.f k (([2,9,15]:List Int)) ([]:List Int) (([2]:List Int))).bind fun bt225=>((signal_Next.f k bt225.1 bt225.2.1 bt225.2.2.1).bind fun bt237=>((signal_Name.f 9).bind fun t249=>(if t249.toList=([75,73,76,76]:List UInt8) then ((signal_Name.f 6).bind fun t250=>(if t250.toList=([]:List UInt8) then (if bt183.1=2 then (if bt183.2=true then (if bt185.2=true then (none) else (if (bt196.1.length:Int)=1 then (if 0 < (bt196.1.length:Int) then (if (rd bt196.1 0)=18 then (if (bt209.1.length:Int)=0 then (if bt225.2.2.2.1=9 then (if bt225.2.2.2.2=1 then (if bt237.2.2.2.1=2 then (some (bt237.2.2.2.2 == 4)) else (none)) else (none)) else (none)) else (none)) else (none)) else (none)) else (none))) else (none)) else (none)) else (none))) else (none)))))))))
theorem jobshelllaw25_awake.mono:∀ k,LeO (jobshelllaw25_awake.f k ) (jobshelllaw25_awake.f (k + 1) ):=by
 intro  k
 unfold jobshelllaw25_awake.f
 repeat' first
   |(with_reducible exact signal_Next.mono _ _ _ _)
   |(with_reducible exact signal_Number.mono _ _)
   |(with_reducible exact signal_Send.mono _ _ _ _ _)
   |(with_reducible exact LeO.refl _)
   |(with_reducible exact LeO.none _)
   |(with_reducible refine LeO.ite ?_ ?_)
   |(with_reducible refine LeO.bind ?_ (fun _=>?_))
   |exact signal_Next.mono _ _ _ _
   |exact signal_Number.mono _ _
   |exact signal_Send.mono _ _ _ _ _
   |exact LeO.none _
   |refine LeO.ite ?_ ?_
   |refine LeO.bind ?_ (fun _=>?_)
set_option maxHeartbeats 8000000 in
set_option maxRecDepth 10000000 in
theorem jobshelllaw25_awake.calls (k:Nat)  (r:Bool) (w:World) (h:jobshelllaw25_awake.f k  = some r) :
  Calls Tryd.prog 10 #[] w fun e w'=>e=.returned (.bool r)∧Below w.heap.size w w':=by
 have hu30:=Tryd.underlying30
 have HB:=Zk (Below.refl w.heap.size w)
 have H:((signal_Number.f k (⟨#[73,78,84]⟩:ByteArray)).bind fun bt183=>((signal_Number.f k (⟨#[48,50]⟩:ByteArray)).bind fun bt185=>((signal_Send.f k ([]:List Int) ([]:List Int) ([]:List Int) 20).bind fun bt187=>((signal_Send.f k bt187.1 bt187.2.1 bt187.2.2 18).bind fun bt196=>((signal_Send.f k ([]:List Int) (([2]:List Int)) ([]:List Int) 2).bind fun bt209=>((signal_Next.f k (([2,9,15]:List Int)) ([]:List Int) (([2]:List Int))).bind fun bt225=>((signal_Next.f k bt225.1 bt225.2.1 bt225.2.2.1).bind fun bt237=>((signal_Name.f 9).bind fun t249=>(if t249.toList=([75,73,76,76]:List UInt8) then ((signal_Name.f 6).bind fun t250=>(if t250.toList=([]:List UInt8) then (if bt183.1=2 then (if bt183.2=true then (if bt185.2=true then (none) else (if (bt196.1.length:Int)=1 then (if 0 < (bt196.1.length:Int) then (if (rd bt196.1 0)=18 then (if (bt209.1.length:Int)=0 then (if bt225.2.2.2.1=9 then (if bt225.2.2.2.2=1 then (if bt237.2.2.2.1=2 then (some (bt237.2.2.2.2 == 4)) else (none)) else (none)) else (none)) else (none)) else (none)) else (none)) else (none))) else (none)) else (none)) else (none))) else (none))))))))))=some r:=h
 clear h
 replace H:=Option.bind_eq_some_iff.mp H
 obtain ⟨⟨t183,t184⟩,A10,H⟩:=H
 replace H:((signal_Number.f k (⟨#[48,50]⟩:ByteArray)).bind fun bt185=>((signal_Send.f k ([]:List Int) ([]:List Int) ([]:List Int) 20).bind fun bt187=>((signal_Send.f k bt187.1 bt187.2.1 bt187.2.2 18).bind fun bt196=>((signal_Send.f k ([]:List Int) (([2]:List Int)) ([]:List Int) 2).bind fun bt209=>((signal_Next.f k (([2,9,15]:List Int)) ([]:List Int) (([2]:List Int))).bind fun bt225=>((signal_Next.f k bt225.1 bt225.2.1 bt225.2.2.1).bind fun bt237=>((signal_Name.f 9).bind fun t249=>(if t249.toList=([75,73,76,76]:List UInt8) then ((signal_Name.f 6).bind fun t250=>(if t250.toList=([]:List UInt8) then (if t183=2 then (if t184=true then (if bt185.2=true then (none) else (if (bt196.1.length:Int)=1 then (if 0 < (bt196.1.length:Int) then (if (rd bt196.1 0)=18 then (if (bt209.1.length:Int)=0 then (if bt225.2.2.2.1=9 then (if bt225.2.2.2.2=1 then (if bt237.2.2.2.1=2 then (some (bt237.2.2.2.2 == 4)) else (none)) else (none)) else (none)) else (none)) else (none)) else (none)) else (none))) else (none)) else (none)) else (none))) else (none)))))))))=some r:=H
 have A1:=Zk A10
 clear A10
 replace H:=Option.bind_eq_some_iff.mp H
 obtain ⟨⟨t185,t186⟩,A20,H⟩:=H
 replace H:((signal_Send.f k ([]:List Int) ([]:List Int) ([]:List Int) 20).bind fun bt187=>((signal_Send.f k bt187.1 bt187.2.1 bt187.2.2 18).bind fun bt196=>((signal_Send.f k ([]:List Int) (([2]:List Int)) ([]:List Int) 2).bind fun bt209=>((signal_Next.f k (([2,9,15]:List Int)) ([]:List Int) (([2]:List Int))).bind fun bt225=>((signal_Next.f k bt225.1 bt225.2.1 bt225.2.2.1).bind fun bt237=>((signal_Name.f 9).bind fun t249=>(if t249.toList=([75,73,76,76]:List UInt8) then ((signal_Name.f 6).bind fun t250=>(if t250.toList=([]:List UInt8) then (if t183=2 then (if t184=true then (if t186=true then (none) else (if (bt196.1.length:Int)=1 then (if 0 < (bt196.1.length:Int) then (if (rd bt196.1 0)=18 then (if (bt209.1.length:Int)=0 then (if bt225.2.2.2.1=9 then (if bt225.2.2.2.2=1 then (if bt237.2.2.2.1=2 then (some (bt237.2.2.2.2 == 4)) else (none)) else (none)) else (none)) else (none)) else (none)) else (none)) else (none))) else (none)) else (none)) else (none))) else (none))))))))=some r:=H
 have A2:=Zk A20
 clear A20
 replace H:=Option.bind_eq_some_iff.mp H
 obtain ⟨⟨t187,t190,t193⟩,A30,H⟩:=H
 replace H:((signal_Send.f k t187 t190 t193 18).bind fun bt196=>((signal_Send.f k ([]:List Int) (([2]:List Int)) ([]:List Int) 2).bind fun bt209=>((signal_Next.f k (([2,9,15]:List Int)) ([]:List Int) (([2]:List Int))).bind fun bt225=>((signal_Next.f k bt225.1 bt225.2.1 bt225.2.2.1).bind fun bt237=>((signal_Name.f 9).bind fun t249=>(if t249.toList=([75,73,76,76]:List UInt8) then ((signal_Name.f 6).bind fun t250=>(if t250.toList=([]:List UInt8) then (if t183=2 then (if t184=true then (if t186=true then (none) else (if (bt196.1.length:Int)=1 then (if 0 < (bt196.1.length:Int) then (if (rd bt196.1 0)=18 then (if (bt209.1.length:Int)=0 then (if bt225.2.2.2.1=9 then (if bt225.2.2.2.2=1 then (if bt237.2.2.2.1=2 then (some (bt237.2.2.2.2 == 4)) else (none)) else (none)) else (none)) else (none)) else (none)) else (none)) else (none))) else (none)) else (none)) else (none))) else (none)))))))=some r:=H
 have A3:=Zk A30
 clear A30
 replace H:=Option.bind_eq_some_iff.mp H
 obtain ⟨⟨t196,t199,t202⟩,A40,H⟩:=H
 replace H:((signal_Send.f k ([]:List Int) (([2]:List Int)) ([]:List Int) 2).bind fun bt209=>((signal_Next.f k (([2,9,15]:List Int)) ([]:List Int) (([2]:List Int))).bind fun bt225=>((signal_Next.f k bt225.1 bt225.2.1 bt225.2.2.1).bind fun bt237=>((signal_Name.f 9).bind fun t249=>(if t249.toList=([75,73,76,76]:List UInt8) then ((signal_Name.f 6).bind fun t250=>(if t250.toList=([]:List UInt8) then (if t183=2 then (if t184=true then (if t186=true then (none) else (if (t196.length:Int)=1 then (if 0 < (t196.length:Int) then (if (rd t196 0)=18 then (if (bt209.1.length:Int)=0 then (if bt225.2.2.2.1=9 then (if bt225.2.2.2.2=1 then (if bt237.2.2.2.1=2 then (some (bt237.2.2.2.2 == 4)) else (none)) else (none)) else (none)) else (none)) else (none)) else (none)) else (none))) else (none)) else (none)) else (none))) else (none))))))=some r:=H
 have A4:=Zk A40
 clear A40
 obtain ⟨y206,hy206⟩:∃ y_:List Int,y_=(([2]:List Int)):=⟨_,rfl⟩
 replace H:((signal_Send.f k ([]:List Int) y206 ([]:List Int) 2).bind fun bt209=>((signal_Next.f k (([2,9,15]:List Int)) ([]:List Int) (([2]:List Int))).bind fun bt225=>((signal_Next.f k bt225.1 bt225.2.1 bt225.2.2.1).bind fun bt237=>((signal_Name.f 9).bind fun t249=>(if t249.toList=([75,73,76,76]:List UInt8) then ((signal_Name.f 6).bind fun t250=>(if t250.toList=([]:List UInt8) then (if t183=2 then (if t184=true then (if t186=true then (none) else (if (t196.length:Int)=1 then (if 0 < (t196.length:Int) then (if (rd t196 0)=18 then (if (bt209.1.length:Int)=0 then (if bt225.2.2.2.1=9 then (if bt225.2.2.2.2=1 then (if bt237.2.2.2.1=2 then (some (bt237.2.2.2.2 == 4)) else (none)) else (none)) else (none)) else (none)) else (none)) else (none)) else (none))) else (none)) else (none)) else (none))) else (none))))))=some r:=by first|(rw [hy206];with_reducible exact H)|(have H2_:=(Option.bind_some _ _).symm.trans H;rw [hy206];with_reducible exact H2_)|(have H2_:=(Option.bind_some _ _).symm.trans H;with_reducible exact H2_)|with_reducible exact H|(rw [hy206];exact H)|exact H
 have Ny206:=Zk hy206
 clear hy206
 replace H:=Option.bind_eq_some_iff.mp H
 obtain ⟨⟨t209,t212,t215⟩,A50,H⟩:=H
 replace H:((signal_Next.f k (([2,9,15]:List Int)) ([]:List Int) (([2]:List Int))).bind fun bt225=>((signal_Next.f k bt225.1 bt225.2.1 bt225.2.2.1).bind fun bt237=>((signal_Name.f 9).bind fun t249=>(if t249.toList=([75,73,76,76]:List UInt8) then ((signal_Name.f 6).bind fun t250=>(if t250.toList=([]:List UInt8) then (if t183=2 then (if t184=true then (if t186=true then (none) else (if (t196.length:Int)=1 then (if 0 < (t196.length:Int) then (if (rd t196 0)=18 then (if (t209.length:Int)=0 then (if bt225.2.2.2.1=9 then (if bt225.2.2.2.2=1 then (if bt237.2.2.2.1=2 then (some (bt237.2.2.2.2 == 4)) else (none)) else (none)) else (none)) else (none)) else (none)) else (none)) else (none))) else (none)) else (none)) else (none))) else (none)))))=some r:=H
 have A5:=Zk A50
 clear A50
 obtain ⟨y219,hy219⟩:∃ y_:List Int,y_=(([2,9,15]:List Int)):=⟨_,rfl⟩
 replace H:((signal_Next.f k y219 ([]:List Int) (([2]:List Int))).bind fun bt225=>((signal_Next.f k bt225.1 bt225.2.1 bt225.2.2.1).bind fun bt237=>((signal_Name.f 9).bind fun t249=>(if t249.toList=([75,73,76,76]:List UInt8) then ((signal_Name.f 6).bind fun t250=>(if t250.toList=([]:List UInt8) then (if t183=2 then (if t184=true then (if t186=true then (none) else (if (t196.length:Int)=1 then (if 0 < (t196.length:Int) then (if (rd t196 0)=18 then (if (t209.length:Int)=0 then (if bt225.2.2.2.1=9 then (if bt225.2.2.2.2=1 then (if bt237.2.2.2.1=2 then (some (bt237.2.2.2.2 == 4)) else (none)) else (none)) else (none)) else (none)) else (none)) else (none)) else (none))) else (none)) else (none)) else (none))) else (none)))))=some r:=by first|(rw [hy219];with_reducible exact H)|(have H2_:=(Option.bind_some _ _).symm.trans H;rw [hy219];with_reducible exact H2_)|(have H2_:=(Option.bind_some _ _).symm.trans H;with_reducible exact H2_)|with_reducible exact H|(rw [hy219];exact H)|exact H
 have Ny219:=Zk hy219
 clear hy219
 obtain ⟨y222,hy222⟩:∃ y_:List Int,y_=(([2]:List Int)):=⟨_,rfl⟩
 replace H:((signal_Next.f k y219 ([]:List Int) y222).bind fun bt225=>((signal_Next.f k bt225.1 bt225.2.1 bt225.2.2.1).bind fun bt237=>((signal_Name.f 9).bind fun t249=>(if t249.toList=([75,73,76,76]:List UInt8) then ((signal_Name.f 6).bind fun t250=>(if t250.toList=([]:List UInt8) then (if t183=2 then (if t184=true then (if t186=true then (none) else (if (t196.length:Int)=1 then (if 0 < (t196.length:Int) then (if (rd t196 0)=18 then (if (t209.length:Int)=0 then (if bt225.2.2.2.1=9 then (if bt225.2.2.2.2=1 then (if bt237.2.2.2.1=2 then (some (bt237.2.2.2.2 == 4)) else (none)) else (none)) else (none)) else (none)) else (none)) else (none)) else (none))) else (none)) else (none)) else (none))) else (none)))))=some r:=by first|(rw [hy222];with_reducible exact H)|(have H2_:=(Option.bind_some _ _).symm.trans H;rw [hy222];with_reducible exact H2_)|(have H2_:=(Option.bind_some _ _).symm.trans H;with_reducible exact H2_)|with_reducible exact H|(rw [hy222];exact H)|exact H
 have Ny222:=Zk hy222
 clear hy222
 replace H:=Option.bind_eq_some_iff.mp H
 obtain ⟨⟨t225,t228,t231,t234,t235⟩,A60,H⟩:=H
 replace H:((signal_Next.f k t225 t228 t231).bind fun bt237=>((signal_Name.f 9).bind fun t249=>(if t249.toList=([75,73,76,76]:List UInt8) then ((signal_Name.f 6).bind fun t250=>(if t250.toList=([]:List UInt8) then (if t183=2 then (if t184=true then (if t186=true then (none) else (if (t196.length:Int)=1 then (if 0 < (t196.length:Int) then (if (rd t196 0)=18 then (if (t209.length:Int)=0 then (if t234=9 then (if t235=1 then (if bt237.2.2.2.1=2 then (some (bt237.2.2.2.2 == 4)) else (none)) else (none)) else (none)) else (none)) else (none)) else (none)) else (none))) else (none)) else (none)) else (none))) else (none))))=some r:=H
 have A6:=Zk A60
 clear A60
 replace H:=Option.bind_eq_some_iff.mp H
 obtain ⟨⟨t237,t240,t243,t246,t247⟩,A70,H⟩:=H
 replace H:((signal_Name.f 9).bind fun t249=>(if t249.toList=([75,73,76,76]:List UInt8) then ((signal_Name.f 6).bind fun t250=>(if t250.toList=([]:List UInt8) then (if t183=2 then (if t184=true then (if t186=true then (none) else (if (t196.length:Int)=1 then (if 0 < (t196.length:Int) then (if (rd t196 0)=18 then (if (t209.length:Int)=0 then (if t234=9 then (if t235=1 then (if t246=2 then (some (t247 == 4)) else (none)) else (none)) else (none)) else (none)) else (none)) else (none)) else (none))) else (none)) else (none)) else (none))) else (none)))=some r:=H
 have A7:=Zk A70
 clear A70
 replace H:=Option.bind_eq_some_iff.mp H
 obtain ⟨t249,A80,H⟩:=H
 replace H:(if t249.toList=([75,73,76,76]:List UInt8) then ((signal_Name.f 6).bind fun t250=>(if t250.toList=([]:List UInt8) then (if t183=2 then (if t184=true then (if t186=true then (none) else (if (t196.length:Int)=1 then (if 0 < (t196.length:Int) then (if (rd t196 0)=18 then (if (t209.length:Int)=0 then (if t234=9 then (if t235=1 then (if t246=2 then (some (t247 == 4)) else (none)) else (none)) else (none)) else (none)) else (none)) else (none)) else (none))) else (none)) else (none)) else (none))) else (none))=some r:=H
 have A8:=Zk A80
 clear A80
 by_cases c9:t249.toList=([75,73,76,76]:List UInt8)
 ·rw [if_pos c9] at H
  have c9b0:(t249.toList == ([75,73,76,76]:List UInt8))=true:=beq_iff_eq.mpr c9
  have c9b1:(t249.toList != ([75,73,76,76]:List UInt8))=false:=bne_eq_false_iff_eq.mpr c9
  clear c9
  replace H:=Option.bind_eq_some_iff.mp H
  obtain ⟨t250,A100,H⟩:=H
  replace H:(if t250.toList=([]:List UInt8) then (if t183=2 then (if t184=true then (if t186=true then (none) else (if (t196.length:Int)=1 then (if 0 < (t196.length:Int) then (if (rd t196 0)=18 then (if (t209.length:Int)=0 then (if t234=9 then (if t235=1 then (if t246=2 then (some (t247 == 4)) else (none)) else (none)) else (none)) else (none)) else (none)) else (none)) else (none))) else (none)) else (none)) else (none))=some r:=H
  have A10:=Zk A100
  clear A100
  by_cases c11:t250.toList=([]:List UInt8)
  ·rw [if_pos c11] at H
   have c11b0:(t250.toList == ([]:List UInt8))=true:=beq_iff_eq.mpr c11
   have c11b1:(t250.toList != ([]:List UInt8))=false:=bne_eq_false_iff_eq.mpr c11
   clear c11
   by_cases c12:t183=2
   ·rw [if_pos c12] at H
    have c12b0:(t183 == 2)=true:=beq_iff_eq.mpr c12
    have c12b1:(t183 != 2)=false:=bne_eq_false_iff_eq.mpr c12
    clear c12
    by_cases c13:t184=true
    ·subst c13
     have H1:(if t186=true then (none) else (if (t196.length:Int)=1 then (if 0 < (t196.length:Int) then (if (rd t196 0)=18 then (if (t209.length:Int)=0 then (if t234=9 then (if t235=1 then (if t246=2 then (some (t247 == 4)) else (none)) else (none)) else (none)) else (none)) else (none)) else (none)) else (none)))=some r:=by rw [if_pos rfl] at H;exact H
     clear H
     have H:=H1
     clear H1
     by_cases c14:t186=true
     ·subst c14
      have H1:(none)=some r:=by rw [if_pos rfl] at H;exact H
      clear H
      have H:=H1
      clear H1
      exact absurd H (by simp)
     ·replace c14:=Bool.eq_false_iff.mpr c14
      subst c14
      have H1:(if (t196.length:Int)=1 then (if 0 < (t196.length:Int) then (if (rd t196 0)=18 then (if (t209.length:Int)=0 then (if t234=9 then (if t235=1 then (if t246=2 then (some (t247 == 4)) else (none)) else (none)) else (none)) else (none)) else (none)) else (none)) else (none))=some r:=by rw [if_neg (show ¬ (false=true) by decide)] at H;exact H
      clear H
      have H:=H1
      clear H1
      by_cases c15:(t196.length:Int)=1
      ·rw [if_pos c15] at H
       have c15b0:((t196.length:Int) == 1)=true:=beq_iff_eq.mpr c15
       have c15b1:((t196.length:Int) != 1)=false:=bne_eq_false_iff_eq.mpr c15
       clear c15
       by_cases c16:0 < (t196.length:Int)
       ·rw [if_pos c16] at H
        have c16b0:decide (0 < (t196.length:Int))=true:=decide_eq_true c16
        have c16b1:decide (0 < t196.length)=true:=decide_eq_true (by omega)
        clear c16
        by_cases c17:(rd t196 0)=18
        ·rw [if_pos c17] at H
         have c17b0:((rd t196 0) == 18)=true:=beq_iff_eq.mpr c17
         have c17b1:((rd t196 0) != 18)=false:=bne_eq_false_iff_eq.mpr c17
         clear c17
         by_cases c18:(t209.length:Int)=0
         ·rw [if_pos c18] at H
          have c18b0:((t209.length:Int) == 0)=true:=beq_iff_eq.mpr c18
          have c18b1:((t209.length:Int) != 0)=false:=bne_eq_false_iff_eq.mpr c18
          clear c18
          by_cases c19:t234=9
          ·rw [if_pos c19] at H
           have c19b0:(t234 == 9)=true:=beq_iff_eq.mpr c19
           have c19b1:(t234 != 9)=false:=bne_eq_false_iff_eq.mpr c19
           clear c19
           by_cases c20:t235=1
           ·rw [if_pos c20] at H
            have c20b0:(t235 == 1)=true:=beq_iff_eq.mpr c20
            have c20b1:(t235 != 1)=false:=bne_eq_false_iff_eq.mpr c20
            clear c20
            by_cases c21:t246=2
            ·rw [if_pos c21] at H
             have c21b0:(t246 == 2)=true:=beq_iff_eq.mpr c21
             have c21b1:(t246 != 2)=false:=bne_eq_false_iff_eq.mpr c21
             clear c21
             obtain rfl:=Option.some.inj H
             go_enter Tryd.func10,Tryd.ntmps10
             go_wp2_with (first|((with_reducible refine yD (f:=11) rfl ?_);refine yM (some 14) rfl rfl Tryd.func11 (by kernel_rfl) rfl #[.string (⟨#[73,78,84]⟩:ByteArray)] rfl (by (try simp only [List.map_toArray,List.map_cons,List.map_nil]);first|done|rfl|(simp only [List.length_drop,List.length_take];rfl)) ?_;(with_reducible refine (signal_Number.calls k (⟨#[73,78,84]⟩:ByteArray) t183 true _ A1.out).mono ?_);rintro e w22 ⟨rfl,hb⟩;refine ⟨_,rfl,?_⟩;have n0_:=Zk (yA (by repeat (first|(with_reducible first|exact HB.out|apply zG|apply zD|apply zH)|exact HB.out)) hb);clear HB;have HB:=n0_;clear n0_;(try clear hb);(try clear hb2);(try clear hk);(try clear hi))|((with_reducible refine yD (f:=11) rfl ?_);refine yM (some 18) rfl rfl Tryd.func11 (by kernel_rfl) rfl #[.string (⟨#[48,50]⟩:ByteArray)] rfl (by (try simp only [List.map_toArray,List.map_cons,List.map_nil]);first|done|rfl|(simp only [List.length_drop,List.length_take];rfl)) ?_;(with_reducible refine (signal_Number.calls k (⟨#[48,50]⟩:ByteArray) t185 false _ A2.out).mono ?_);rintro e w23 ⟨rfl,hb⟩;refine ⟨_,rfl,?_⟩;have n0_:=Zk (yA (by repeat (first|(with_reducible first|exact HB.out|apply zG|apply zD|apply zH)|exact HB.out)) hb);clear HB;have HB:=n0_;clear n0_;(try clear hb);(try clear hb2);(try clear hk);(try clear hi))|((with_reducible refine yD (f:=22) rfl ?_);refine yM (some 22) rfl rfl Tryd.func22 (by kernel_rfl) rfl #[.agg #[.slice none 0 0,.slice none 0 0,.slice none 0 0],.int .i64 20] rfl (by (try simp only [List.map_toArray,List.map_cons,List.map_nil]);first|done|rfl|(simp only [List.length_drop,List.length_take];rfl)) ?_;(refine (signal_Send.calls k (fun k_=>False) _ _ ([]:List Int) (fun k_=>False) _ _ ([]:List Int) (fun k_=>False) _ _ ([]:List Int) 20 t187 t190 t193 _ ?side1 ?side2 ?side3 A3.out).mono ?_);(case side1=>exact V_nil _ _ _ _ _);(case side2=>exact V_nil _ _ _ _ _);(case side3=>exact V_nil _ _ _ _ _);rintro e w24 ⟨v188,v191,v194,rfl,ho0,ho1,ho2,hb⟩;refine ⟨_,rfl,?_⟩;have n0_:=Zk (V_lower (zO (ok':=fun k_=>True) ho0 (fun k_ hk_=>trivial)) (zP (by repeat (first|(with_reducible first|exact HB.out|apply zG|apply zD|apply zH)|exact HB.out))));have n1_:=Zk (V_lower (zO (ok':=fun k_=>True) ho1 (fun k_ hk_=>trivial)) (zP (by repeat (first|(with_reducible first|exact HB.out|apply zG|apply zD|apply zH)|exact HB.out))));have n2_:=Zk (V_lower (zO (ok':=fun k_=>True) ho2 (fun k_ hk_=>trivial)) (zP (by repeat (first|(with_reducible first|exact HB.out|apply zG|apply zD|apply zH)|exact HB.out))));have n3_:=Zk (yA (by repeat (first|(with_reducible first|exact HB.out|apply zG|apply zD|apply zH)|exact HB.out)) hb);clear HB;have HO189:=n0_;have HO192:=n1_;have HO195:=n2_;have HB:=n3_;clear n0_ n1_ n2_ n3_;(try clear hb);(try clear hb2);(try clear hk);(try clear hi);(try clear ho0);(try clear ho1);(try clear ho2);obtain ⟨Ao25,co25,eo25⟩:=V_slice HO189.out;subst eo25;obtain ⟨Ao26,co26,eo26⟩:=V_slice HO192.out;subst eo26;obtain ⟨Ao27,co27,eo27⟩:=V_slice HO195.out;subst eo27)|((with_reducible refine yD (f:=22) rfl ?_);refine yM (some 23) rfl rfl Tryd.func22 (by kernel_rfl) rfl #[.agg #[.slice Ao25 t187.length co25,.slice Ao26 t190.length co26,.slice Ao27 t193.length co27],.int .i64 18] rfl (by (try simp only [List.map_toArray,List.map_cons,List.map_nil]);first|done|rfl|(simp only [List.length_drop,List.length_take];rfl)) ?_;(with_reducible refine (signal_Send.calls k (fun k_=>True) _ _ t187 (fun k_=>True) _ _ t190 (fun k_=>True) _ _ t193 18 t196 t199 t202 _ ?side1 ?side2 ?side3 A4.out).mono ?_);(case side1=>exact HO189.out);(case side2=>exact HO192.out);(case side3=>exact HO195.out);rintro e w28 ⟨v197,v200,v203,rfl,ho0,ho1,ho2,hb⟩;refine ⟨_,rfl,?_⟩;have n0_:=Zk (zV (by (with_reducible repeat (first|apply zL|apply zK|apply zM));exact HO189.out) hb);have n1_:=Zk (zV (by (with_reducible repeat (first|apply zL|apply zK|apply zM));exact HO192.out) hb);have n2_:=Zk (zV (by (with_reducible repeat (first|apply zL|apply zK|apply zM));exact HO195.out) hb);have n3_:=Zk (V_lower (zO (ok':=fun k_=>True) ho0 (fun k_ hk_=>trivial)) (zP (by repeat (first|(with_reducible first|exact HB.out|apply zG|apply zD|apply zH)|exact HB.out))));have n4_:=Zk (V_lower (zO (ok':=fun k_=>True) ho1 (fun k_ hk_=>trivial)) (zP (by repeat (first|(with_reducible first|exact HB.out|apply zG|apply zD|apply zH)|exact HB.out))));have n5_:=Zk (V_lower (zO (ok':=fun k_=>True) ho2 (fun k_ hk_=>trivial)) (zP (by repeat (first|(with_reducible first|exact HB.out|apply zG|apply zD|apply zH)|exact HB.out))));have n6_:=Zk (yA (by repeat (first|(with_reducible first|exact HB.out|apply zG|apply zD|apply zH)|exact HB.out)) hb);clear HO189;clear HO192;clear HO195;clear HB;have HO189:=n0_;have HO192:=n1_;have HO195:=n2_;have HO198:=n3_;have HO201:=n4_;have HO204:=n5_;have HB:=n6_;clear n0_ n1_ n2_ n3_ n4_ n5_ n6_;(try clear hb);(try clear hb2);(try clear hk);(try clear hi);(try clear ho0);(try clear ho1);(try clear ho2))|((with_reducible refine yT (N:=5) rfl ?_);(try (refine gate_guard (by rfl) ?_;dsimp only));refine yV ?hg (N:=5) ?hd (cs:=#[.slice none 0 0,.slice none 0 0,.slice none 0 0]) (t:=30) ?hr ?_;(case hd=>rfl);(case hg=>rfl);(case hr=>first|(go_simp;done)|(go_simp;rfl));intro gb205 hg w29 hbox hb;have n0_:=Zk (zV (yC (by (with_reducible repeat (first|apply zL|apply zK|apply zM));exact HO189.out) gb205 (Nat.le_of_eq hg.symm)) hb);have n1_:=Zk (zV (yC (by (with_reducible repeat (first|apply zL|apply zK|apply zM));exact HO192.out) gb205 (Nat.le_of_eq hg.symm)) hb);have n2_:=Zk (zV (yC (by (with_reducible repeat (first|apply zL|apply zK|apply zM));exact HO195.out) gb205 (Nat.le_of_eq hg.symm)) hb);have n3_:=Zk (zV (yC (by (with_reducible repeat (first|apply zL|apply zK|apply zM));exact HO198.out) gb205 (Nat.le_of_eq hg.symm)) hb);have n4_:=Zk (zV (yC (by (with_reducible repeat (first|apply zL|apply zK|apply zM));exact HO201.out) gb205 (Nat.le_of_eq hg.symm)) hb);have n5_:=Zk (zV (yC (by (with_reducible repeat (first|apply zL|apply zK|apply zM));exact HO204.out) gb205 (Nat.le_of_eq hg.symm)) hb);have n6_:=Zk (yA (by repeat (first|(with_reducible first|exact HB.out|apply zG|apply zD|apply zH)|exact HB.out)) hb);have n7_:=Zk (hbox);have n8_:=Zk ((by rw [hg];exact (zP (by repeat (first|(with_reducible first|exact HB.out|apply zG|apply zD|apply zH)|exact HB.out))):w.heap.size≤gb205));have n9_:=Zk ((by rw [hg];exact (zP (by repeat (first|(with_reducible first|exact HB.out|apply zG|apply zD|apply zH)|exact HB.out))):w.heap.size≤gb205));clear HO189;clear HO192;clear HO195;clear HO198;clear HO201;clear HO204;clear HB;have HO189:=n0_;have HO192:=n1_;have HO195:=n2_;have HO198:=n3_;have HO201:=n4_;have HO204:=n5_;have HB:=n6_;have BK205:=n7_;have GW205:=n8_;have GE205:=n9_;clear n0_ n1_ n2_ n3_ n4_ n5_ n6_ n7_ n8_ n9_;clear hb hbox hg;obtain ⟨Ao30,co30,eo30⟩:=V_slice HO198.out;subst eo30;have hcz31_0:w29.cell? ⟨gb205,0,none⟩=some (.slice none 0 0):=(zJ BK205.out 0).trans rfl;have hcz31_1:w29.cell? ⟨gb205,1,none⟩=some (.slice none 0 0):=(zJ BK205.out 1).trans rfl;have hcz31_2:w29.cell? ⟨gb205,2,none⟩=some (.slice none 0 0):=(zJ BK205.out 2).trans rfl;have hfz31_0:=zI BK205.out 0;have hfz31_1:=zI BK205.out 1;have hfz31_2:=zI BK205.out 2;obtain ⟨Ao32,co32,eo32⟩:=V_slice HO201.out;subst eo32;obtain ⟨Ao33,co33,eo33⟩:=V_slice HO204.out;subst eo33)|((with_reducible refine xA (t:=30) (p:=5) rfl ?_);refine yY (t:=30) (p:=5) (v:=?vo_w34) (w1:=(((w29.setCell ⟨gb205,0,none⟩ (.slice Ao30 t196.length co30)).setCell ⟨gb205,1,none⟩ (.slice Ao32 t199.length co32)).setCell ⟨gb205,2,none⟩ (.slice Ao33 t202.length co33))) ?hg ?ho ?hn ?hr ?_;(case ho=>rfl);(case hg=>rfl);(case hn=>rfl);(case hr=>first|(go_simp;done)|(go_simp;rfl));intro w34 hw;have n0_:zN (Kd.V (Kd.int .i64) 3 w34 w.heap.size (fun k_=>k_≠gb205) (.slice Ao25 t187.length co25) t187):=⟨(by rw [hw];exact (by (with_reducible repeat (first|apply zL|apply zK|apply zM));exact zO (zS (p:=⟨gb205,2,none⟩) (zS (p:=⟨gb205,1,none⟩) (zS (p:=⟨gb205,0,none⟩) (zO HO189.out (fun k_ hk=>(⟨hk,hk.2⟩:_∧k_≠gb205))) (fun _ hk=>hk.2) (.slice Ao30 t196.length co30)) (fun _ hk=>hk.2) (.slice Ao32 t199.length co32)) (fun _ hk=>hk.2) (.slice Ao33 t202.length co33)) (fun _ hk=>hk.1.2)))⟩;have n1_:zN (Kd.V (Kd.int .i64) 3 w34 w.heap.size (fun k_=>k_≠gb205) (.slice Ao26 t190.length co26) t190):=⟨(by rw [hw];exact (by (with_reducible repeat (first|apply zL|apply zK|apply zM));exact zO (zS (p:=⟨gb205,2,none⟩) (zS (p:=⟨gb205,1,none⟩) (zS (p:=⟨gb205,0,none⟩) (zO HO192.out (fun k_ hk=>(⟨hk,hk.2⟩:_∧k_≠gb205))) (fun _ hk=>hk.2) (.slice Ao30 t196.length co30)) (fun _ hk=>hk.2) (.slice Ao32 t199.length co32)) (fun _ hk=>hk.2) (.slice Ao33 t202.length co33)) (fun _ hk=>hk.1.2)))⟩;have n2_:zN (Kd.V (Kd.int .i64) 3 w34 w.heap.size (fun k_=>k_≠gb205) (.slice Ao27 t193.length co27) t193):=⟨(by rw [hw];exact (by (with_reducible repeat (first|apply zL|apply zK|apply zM));exact zO (zS (p:=⟨gb205,2,none⟩) (zS (p:=⟨gb205,1,none⟩) (zS (p:=⟨gb205,0,none⟩) (zO HO195.out (fun k_ hk=>(⟨hk,hk.2⟩:_∧k_≠gb205))) (fun _ hk=>hk.2) (.slice Ao30 t196.length co30)) (fun _ hk=>hk.2) (.slice Ao32 t199.length co32)) (fun _ hk=>hk.2) (.slice Ao33 t202.length co33)) (fun _ hk=>hk.1.2)))⟩;have n3_:zN (Kd.V (Kd.int .i64) 3 w34 w.heap.size (fun k_=>k_≠gb205) (.slice Ao30 t196.length co30) t196):=⟨(by rw [hw];exact (by (with_reducible repeat (first|apply zL|apply zK|apply zM));exact zO (zS (p:=⟨gb205,2,none⟩) (zS (p:=⟨gb205,1,none⟩) (zS (p:=⟨gb205,0,none⟩) (zO HO198.out (fun k_ hk=>(⟨hk,hk.2⟩:_∧k_≠gb205))) (fun _ hk=>hk.2) (.slice Ao30 t196.length co30)) (fun _ hk=>hk.2) (.slice Ao32 t199.length co32)) (fun _ hk=>hk.2) (.slice Ao33 t202.length co33)) (fun _ hk=>hk.1.2)))⟩;have n4_:zN (Kd.V (Kd.int .i64) 3 w34 w.heap.size (fun k_=>k_≠gb205) (.slice Ao32 t199.length co32) t199):=⟨(by rw [hw];exact (by (with_reducible repeat (first|apply zL|apply zK|apply zM));exact zO (zS (p:=⟨gb205,2,none⟩) (zS (p:=⟨gb205,1,none⟩) (zS (p:=⟨gb205,0,none⟩) (zO HO201.out (fun k_ hk=>(⟨hk,hk.2⟩:_∧k_≠gb205))) (fun _ hk=>hk.2) (.slice Ao30 t196.length co30)) (fun _ hk=>hk.2) (.slice Ao32 t199.length co32)) (fun _ hk=>hk.2) (.slice Ao33 t202.length co33)) (fun _ hk=>hk.1.2)))⟩;have n5_:zN (Kd.V (Kd.int .i64) 3 w34 w.heap.size (fun k_=>k_≠gb205) (.slice Ao33 t202.length co33) t202):=⟨(by rw [hw];exact (by (with_reducible repeat (first|apply zL|apply zK|apply zM));exact zO (zS (p:=⟨gb205,2,none⟩) (zS (p:=⟨gb205,1,none⟩) (zS (p:=⟨gb205,0,none⟩) (zO HO204.out (fun k_ hk=>(⟨hk,hk.2⟩:_∧k_≠gb205))) (fun _ hk=>hk.2) (.slice Ao30 t196.length co30)) (fun _ hk=>hk.2) (.slice Ao32 t199.length co32)) (fun _ hk=>hk.2) (.slice Ao33 t202.length co33)) (fun _ hk=>hk.1.2)))⟩;have n6_:zN (w34.heap[gb205]?=some (.cells #[.slice Ao30 t196.length co30,.slice Ao32 t199.length co32,.slice Ao33 t202.length co33] 30 (0,0))):=⟨(by rw [hw];exact (by (with_reducible repeat (first|refine zB ?_ _|refine zF ?_|refine zA ?_ _));refine yE (cs:=#[.slice Ao30 t196.length co30,.slice Ao32 t199.length co32,.slice none 0 0]) ?_ 2 _ rfl;(with_reducible repeat (first|refine zB ?_ _|refine zF ?_|refine zA ?_ _));refine yE (cs:=#[.slice Ao30 t196.length co30,.slice none 0 0,.slice none 0 0]) ?_ 1 _ rfl;(with_reducible repeat (first|refine zB ?_ _|refine zF ?_|refine zA ?_ _));refine yE (cs:=#[.slice none 0 0,.slice none 0 0,.slice none 0 0]) ?_ 0 _ rfl;(with_reducible repeat (first|refine zB ?_ _|refine zF ?_|refine zA ?_ _));exact BK205.out))⟩;have n7_:zN (Below w.heap.size w w34):=⟨(by rw [hw];exact (by repeat (first|(with_reducible first|exact HB.out|apply zG|apply zD|apply zH|refine zC ?_ GE205.out)|exact HB.out)))⟩;clear hw;clear HO189;clear HO192;clear HO195;clear HO198;clear HO201;clear HO204;clear BK205;clear HB;have HO189:=n0_;have HO192:=n1_;have HO195:=n2_;have HO198:=n3_;have HO201:=n4_;have HO204:=n5_;have BK205:=n6_;have HB:=n7_;clear n0_ n1_ n2_ n3_ n4_ n5_ n6_ n7_)|((with_reducible refine yT (N:=24) rfl ?_);(try (refine gate_guard (by rfl) ?_;dsimp only));refine R_lit (Kd.int .i64) _ 3 ?hg (N:=24) ?hd (xs:=([2]:List Int)) (inner:=[.int .i64 2]) (ok:=fun _=>True) (okp:=fun _=>True) ?hr ?hp (fun _ hk=>hk) trivial (Below.refl _ _) (Nat.le_refl _) (by simp) ?_;(case hd=>rfl);(case hg=>rfl);(case hr=>first|(go_simp;done)|(go_simp;rfl));(case hp=>exact (Reps.one (show Kd.M (Kd.int .i64) _ _ _ 2 [.int .i64 2] from rfl) (Reps.none _ _)));intro v207 w35 ho36 hb hg_ hnew_;clear hg_ hnew_;(first|rw [← Ny206.out] at ho36|(simp only [Int.reduceToNat] at ho36;rw [← Ny206.out] at ho36));have n0_:=Zk (yL (by (with_reducible repeat (first|apply zL|apply zK|apply zM));exact HO189.out) (zZ ho36) hb);have n1_:=Zk (yL (by (with_reducible repeat (first|apply zL|apply zK|apply zM));exact HO192.out) (zZ ho36) hb);have n2_:=Zk (yL (by (with_reducible repeat (first|apply zL|apply zK|apply zM));exact HO195.out) (zZ ho36) hb);have n3_:=Zk (yL (by (with_reducible repeat (first|apply zL|apply zK|apply zM));exact HO198.out) (zZ ho36) hb);have n4_:=Zk (yL (by (with_reducible repeat (first|apply zL|apply zK|apply zM));exact HO201.out) (zZ ho36) hb);have n5_:=Zk (yL (by (with_reducible repeat (first|apply zL|apply zK|apply zM));exact HO204.out) (zZ ho36) hb);have n6_:=Zk (yU ho36 (zP (by repeat (first|(with_reducible first|exact HB.out|apply zG|apply zD|apply zH|refine zC ?_ GE205.out)|exact HB.out))));have n7_:=Zk (zW (g:=gb205) (o:=.cells #[.slice Ao30 t196.length co30,.slice Ao32 t199.length co32,.slice Ao33 t202.length co33] 30 (0,0)) (by (with_reducible repeat (first|refine zB ?_ _|refine zF ?_|refine zA ?_ _));exact BK205.out) hb);have n8_:=Zk (yA (by repeat (first|(with_reducible first|exact HB.out|apply zG|apply zD|apply zH|refine zC ?_ GE205.out)|exact HB.out)) hb);clear HO189;clear HO192;clear HO195;clear HO198;clear HO201;clear HO204;clear BK205;clear HB;have HO189:=n0_;have HO192:=n1_;have HO195:=n2_;have HO198:=n3_;have HO201:=n4_;have HO204:=n5_;have HO208:=n6_;have BK205:=n7_;have HB:=n8_;clear n0_ n1_ n2_ n3_ n4_ n5_ n6_ n7_ n8_;clear hb ho36;obtain ⟨Ao37,co37,eo37⟩:=yQ HO208.out;subst eo37)|((with_reducible refine yD (f:=22) rfl ?_);refine yM (some 26) rfl rfl Tryd.func22 (by kernel_rfl) rfl #[.agg #[.slice none 0 0,.slice Ao37 y206.length co37,.slice none 0 0],.int .i64 2] rfl (by (try simp only [List.map_toArray,List.map_cons,List.map_nil]);first|done|rfl|(simp only [List.length_drop,List.length_take];rfl)) ?_;(refine (signal_Send.calls k (fun k_=>False) _ _ ([]:List Int) (fun k_=>some k_=(.slice Ao37 y206.length co37:Value).ownBlock) _ _ y206 (fun k_=>False) _ _ ([]:List Int) 2 t209 t212 t215 _ ?side1 ?side2 ?side3 A5.out).mono ?_);(case side1=>exact V_nil _ _ _ _ _);(case side2=>exact R_V (R_tight rfl (zX (HO208.out) BK205.out (by decide))));(case side3=>exact V_nil _ _ _ _ _);rintro e w38 ⟨v210,v213,v216,rfl,ho0,ho1,ho2,hb⟩;refine ⟨_,rfl,?_⟩;have n0_:=Zk (zV (by (with_reducible repeat (first|apply zL|apply zK|apply zM));exact HO189.out) hb);have n1_:=Zk (zV (by (with_reducible repeat (first|apply zL|apply zK|apply zM));exact HO192.out) hb);have n2_:=Zk (zV (by (with_reducible repeat (first|apply zL|apply zK|apply zM));exact HO195.out) hb);have n3_:=Zk (zV (by (with_reducible repeat (first|apply zL|apply zK|apply zM));exact HO198.out) hb);have n4_:=Zk (zV (by (with_reducible repeat (first|apply zL|apply zK|apply zM));exact HO201.out) hb);have n5_:=Zk (zV (by (with_reducible repeat (first|apply zL|apply zK|apply zM));exact HO204.out) hb);have n6_:=Zk (R_below (by (with_reducible repeat (first|apply zR|apply zQ|apply zU));exact HO208.out) hb);have n7_:=Zk (V_lower (zO (ok':=fun k_=>k_≠gb205) ho0 (fun k_ hk_=>Or.elim hk_ (fun hs_=>Or.elim hs_ (fun hs_=>(hs_).elim) (fun hs_=>Or.elim hs_ (fun hs_=>((zX (HO208.out) BK205.out (by decide)).1 k_ hs_.symm).2) (fun hs_=>(hs_).elim))) (fun hn_=>(Kd.freshB (g:=gb205) (o:=.cells #[.slice Ao30 t196.length co30,.slice Ao32 t199.length co32,.slice Ao33 t202.length co33] 30 (0,0)) (by (with_reducible repeat (first|refine zB ?_ _|refine zF ?_|refine zA ?_ _));exact BK205.out) k_ hn_)))) (zP (by repeat (first|(with_reducible first|exact HB.out|apply zG|apply zD|apply zH|refine zC ?_ GE205.out)|exact HB.out))));have n8_:=Zk (V_lower (zO (ok':=fun k_=>k_≠gb205) ho1 (fun k_ hk_=>Or.elim hk_ (fun hs_=>Or.elim hs_ (fun hs_=>(hs_).elim) (fun hs_=>Or.elim hs_ (fun hs_=>((zX (HO208.out) BK205.out (by decide)).1 k_ hs_.symm).2) (fun hs_=>(hs_).elim))) (fun hn_=>(Kd.freshB (g:=gb205) (o:=.cells #[.slice Ao30 t196.length co30,.slice Ao32 t199.length co32,.slice Ao33 t202.length co33] 30 (0,0)) (by (with_reducible repeat (first|refine zB ?_ _|refine zF ?_|refine zA ?_ _));exact BK205.out) k_ hn_)))) (zP (by repeat (first|(with_reducible first|exact HB.out|apply zG|apply zD|apply zH|refine zC ?_ GE205.out)|exact HB.out))));have n9_:=Zk (V_lower (zO (ok':=fun k_=>k_≠gb205) ho2 (fun k_ hk_=>Or.elim hk_ (fun hs_=>Or.elim hs_ (fun hs_=>(hs_).elim) (fun hs_=>Or.elim hs_ (fun hs_=>((zX (HO208.out) BK205.out (by decide)).1 k_ hs_.symm).2) (fun hs_=>(hs_).elim))) (fun hn_=>(Kd.freshB (g:=gb205) (o:=.cells #[.slice Ao30 t196.length co30,.slice Ao32 t199.length co32,.slice Ao33 t202.length co33] 30 (0,0)) (by (with_reducible repeat (first|refine zB ?_ _|refine zF ?_|refine zA ?_ _));exact BK205.out) k_ hn_)))) (zP (by repeat (first|(with_reducible first|exact HB.out|apply zG|apply zD|apply zH|refine zC ?_ GE205.out)|exact HB.out))));have n10_:=Zk (zW (g:=gb205) (o:=.cells #[.slice Ao30 t196.length co30,.slice Ao32 t199.length co32,.slice Ao33 t202.length co33] 30 (0,0)) (by (with_reducible repeat (first|refine zB ?_ _|refine zF ?_|refine zA ?_ _));exact BK205.out) hb);have n11_:=Zk (yA (by repeat (first|(with_reducible first|exact HB.out|apply zG|apply zD|apply zH|refine zC ?_ GE205.out)|exact HB.out)) hb);clear HO189;clear HO192;clear HO195;clear HO198;clear HO201;clear HO204;clear HO208;clear BK205;clear HB;have HO189:=n0_;have HO192:=n1_;have HO195:=n2_;have HO198:=n3_;have HO201:=n4_;have HO204:=n5_;have HO208:=n6_;have HO211:=n7_;have HO214:=n8_;have HO217:=n9_;have BK205:=n10_;have HB:=n11_;clear n0_ n1_ n2_ n3_ n4_ n5_ n6_ n7_ n8_ n9_ n10_ n11_;(try clear hb);(try clear hb2);(try clear hk);(try clear hi);(try clear ho0);(try clear ho1);(try clear ho2))|((with_reducible refine yT (N:=6) rfl ?_);(try (refine gate_guard (by rfl) ?_;dsimp only));refine yV ?hg (N:=6) ?hd (cs:=#[.slice none 0 0,.slice none 0 0,.slice none 0 0]) (t:=30) ?hr ?_;(case hd=>rfl);(case hg=>rfl);(case hr=>first|(go_simp;done)|(go_simp;rfl));intro gb218 hg w39 hbox hb;have n0_:=Zk (zV (yC (by (with_reducible repeat (first|apply zL|apply zK|apply zM));exact HO189.out) gb218 (Nat.le_of_eq hg.symm)) hb);have n1_:=Zk (zV (yC (by (with_reducible repeat (first|apply zL|apply zK|apply zM));exact HO192.out) gb218 (Nat.le_of_eq hg.symm)) hb);have n2_:=Zk (zV (yC (by (with_reducible repeat (first|apply zL|apply zK|apply zM));exact HO195.out) gb218 (Nat.le_of_eq hg.symm)) hb);have n3_:=Zk (zV (yC (by (with_reducible repeat (first|apply zL|apply zK|apply zM));exact HO198.out) gb218 (Nat.le_of_eq hg.symm)) hb);have n4_:=Zk (zV (yC (by (with_reducible repeat (first|apply zL|apply zK|apply zM));exact HO201.out) gb218 (Nat.le_of_eq hg.symm)) hb);have n5_:=Zk (zV (yC (by (with_reducible repeat (first|apply zL|apply zK|apply zM));exact HO204.out) gb218 (Nat.le_of_eq hg.symm)) hb);have n6_:=Zk (R_below (by (with_reducible repeat (first|apply zR|apply zQ|apply zU));exact HO208.out) hb);have n7_:=Zk (zV (yC (by (with_reducible repeat (first|apply zL|apply zK|apply zM));exact HO211.out) gb218 (Nat.le_of_eq hg.symm)) hb);have n8_:=Zk (zV (yC (by (with_reducible repeat (first|apply zL|apply zK|apply zM));exact HO214.out) gb218 (Nat.le_of_eq hg.symm)) hb);have n9_:=Zk (zV (yC (by (with_reducible repeat (first|apply zL|apply zK|apply zM));exact HO217.out) gb218 (Nat.le_of_eq hg.symm)) hb);have n10_:=Zk (zW (g:=gb205) (o:=.cells #[.slice Ao30 t196.length co30,.slice Ao32 t199.length co32,.slice Ao33 t202.length co33] 30 (0,0)) (by (with_reducible repeat (first|refine zB ?_ _|refine zF ?_|refine zA ?_ _));exact BK205.out) hb);have n11_:=Zk (yA (by repeat (first|(with_reducible first|exact HB.out|apply zG|apply zD|apply zH|refine zC ?_ GE205.out)|exact HB.out)) hb);have n12_:=Zk (hbox);have n13_:=Zk ((by rw [hg];exact (zP (by repeat (first|(with_reducible first|exact HB.out|apply zG|apply zD|apply zH|refine zC ?_ GE205.out)|exact HB.out))):w.heap.size≤gb218));have n14_:=Zk ((by rw [hg];exact (zP (by repeat (first|(with_reducible first|exact HB.out|apply zG|apply zD|apply zH|refine zC ?_ GE205.out)|exact HB.out))):w.heap.size≤gb218));have n15_:=Zk ((by rw [hg];exact Nat.ne_of_lt (yN (g:=gb205) (o:=.cells #[.slice Ao30 t196.length co30,.slice Ao32 t199.length co32,.slice Ao33 t202.length co33] 30 (0,0)) (by (with_reducible repeat (first|refine zB ?_ _|refine zF ?_|refine zA ?_ _));exact BK205.out)):gb205≠gb218));have n16_:=Zk ((by rw [hg];exact Nat.ne_of_gt (yN (g:=gb205) (o:=.cells #[.slice Ao30 t196.length co30,.slice Ao32 t199.length co32,.slice Ao33 t202.length co33] 30 (0,0)) (by (with_reducible repeat (first|refine zB ?_ _|refine zF ?_|refine zA ?_ _));exact BK205.out)):gb218≠gb205));clear HO189;clear HO192;clear HO195;clear HO198;clear HO201;clear HO204;clear HO208;clear HO211;clear HO214;clear HO217;clear BK205;clear HB;have HO189:=n0_;have HO192:=n1_;have HO195:=n2_;have HO198:=n3_;have HO201:=n4_;have HO204:=n5_;have HO208:=n6_;have HO211:=n7_;have HO214:=n8_;have HO217:=n9_;have BK205:=n10_;have HB:=n11_;have BK218:=n12_;have GW218:=n13_;have GE218:=n14_;have NB205_218:=n15_;have NB218_205:=n16_;clear n0_ n1_ n2_ n3_ n4_ n5_ n6_ n7_ n8_ n9_ n10_ n11_ n12_ n13_ n14_ n15_ n16_;clear hb hbox hg;obtain ⟨Ao40,co40,eo40⟩:=V_slice HO211.out;subst eo40;have hnb41:=NB218_205.out;have hnc41:=NB205_218.out;have hcz42_0:w39.cell? ⟨gb218,0,none⟩=some (.slice none 0 0):=(zJ BK218.out 0).trans rfl;have hcz42_1:w39.cell? ⟨gb218,1,none⟩=some (.slice none 0 0):=(zJ BK218.out 1).trans rfl;have hcz42_2:w39.cell? ⟨gb218,2,none⟩=some (.slice none 0 0):=(zJ BK218.out 2).trans rfl;have hfz42_0:=zI BK218.out 0;have hfz42_1:=zI BK218.out 1;have hfz42_2:=zI BK218.out 2;obtain ⟨Ao43,co43,eo43⟩:=V_slice HO214.out;subst eo43;obtain ⟨Ao44,co44,eo44⟩:=V_slice HO217.out;subst eo44)|((with_reducible refine xA (t:=30) (p:=6) rfl ?_);refine yY (t:=30) (p:=6) (v:=?vo_w45) (w1:=(((w39.setCell ⟨gb218,0,none⟩ (.slice Ao40 t209.length co40)).setCell ⟨gb218,1,none⟩ (.slice Ao43 t212.length co43)).setCell ⟨gb218,2,none⟩ (.slice Ao44 t215.length co44))) ?hg ?ho ?hn ?hr ?_;(case ho=>rfl);(case hg=>rfl);(case hn=>rfl);(case hr=>first|(go_simp;done)|(go_simp;rfl));intro w45 hw;have n0_:zN (Kd.V (Kd.int .i64) 3 w45 w.heap.size (fun k_=>some k_≠(.slice Ao37 y206.length co37:Value).ownBlock∧k_≠gb205∧k_≠gb218) (.slice Ao25 t187.length co25) t187):=⟨(by rw [hw];exact (by (with_reducible repeat (first|apply zL|apply zK|apply zM));exact zO (zS (p:=⟨gb218,2,none⟩) (zS (p:=⟨gb218,1,none⟩) (zS (p:=⟨gb218,0,none⟩) (zO HO189.out (fun k_ hk=>(⟨hk,hk.2⟩:_∧k_≠gb218))) (fun _ hk=>hk.2) (.slice Ao40 t209.length co40)) (fun _ hk=>hk.2) (.slice Ao43 t212.length co43)) (fun _ hk=>hk.2) (.slice Ao44 t215.length co44)) (fun _ hk=>⟨hk.1.1.2,⟨hk.1.1.1,hk.1.2⟩⟩)))⟩;have n1_:zN (Kd.V (Kd.int .i64) 3 w45 w.heap.size (fun k_=>some k_≠(.slice Ao37 y206.length co37:Value).ownBlock∧k_≠gb205∧k_≠gb218) (.slice Ao26 t190.length co26) t190):=⟨(by rw [hw];exact (by (with_reducible repeat (first|apply zL|apply zK|apply zM));exact zO (zS (p:=⟨gb218,2,none⟩) (zS (p:=⟨gb218,1,none⟩) (zS (p:=⟨gb218,0,none⟩) (zO HO192.out (fun k_ hk=>(⟨hk,hk.2⟩:_∧k_≠gb218))) (fun _ hk=>hk.2) (.slice Ao40 t209.length co40)) (fun _ hk=>hk.2) (.slice Ao43 t212.length co43)) (fun _ hk=>hk.2) (.slice Ao44 t215.length co44)) (fun _ hk=>⟨hk.1.1.2,⟨hk.1.1.1,hk.1.2⟩⟩)))⟩;have n2_:zN (Kd.V (Kd.int .i64) 3 w45 w.heap.size (fun k_=>some k_≠(.slice Ao37 y206.length co37:Value).ownBlock∧k_≠gb205∧k_≠gb218) (.slice Ao27 t193.length co27) t193):=⟨(by rw [hw];exact (by (with_reducible repeat (first|apply zL|apply zK|apply zM));exact zO (zS (p:=⟨gb218,2,none⟩) (zS (p:=⟨gb218,1,none⟩) (zS (p:=⟨gb218,0,none⟩) (zO HO195.out (fun k_ hk=>(⟨hk,hk.2⟩:_∧k_≠gb218))) (fun _ hk=>hk.2) (.slice Ao40 t209.length co40)) (fun _ hk=>hk.2) (.slice Ao43 t212.length co43)) (fun _ hk=>hk.2) (.slice Ao44 t215.length co44)) (fun _ hk=>⟨hk.1.1.2,⟨hk.1.1.1,hk.1.2⟩⟩)))⟩;have n3_:zN (Kd.V (Kd.int .i64) 3 w45 w.heap.size (fun k_=>some k_≠(.slice Ao37 y206.length co37:Value).ownBlock∧k_≠gb205∧k_≠gb218) (.slice Ao30 t196.length co30) t196):=⟨(by rw [hw];exact (by (with_reducible repeat (first|apply zL|apply zK|apply zM));exact zO (zS (p:=⟨gb218,2,none⟩) (zS (p:=⟨gb218,1,none⟩) (zS (p:=⟨gb218,0,none⟩) (zO HO198.out (fun k_ hk=>(⟨hk,hk.2⟩:_∧k_≠gb218))) (fun _ hk=>hk.2) (.slice Ao40 t209.length co40)) (fun _ hk=>hk.2) (.slice Ao43 t212.length co43)) (fun _ hk=>hk.2) (.slice Ao44 t215.length co44)) (fun _ hk=>⟨hk.1.1.2,⟨hk.1.1.1,hk.1.2⟩⟩)))⟩;have n4_:zN (Kd.V (Kd.int .i64) 3 w45 w.heap.size (fun k_=>some k_≠(.slice Ao37 y206.length co37:Value).ownBlock∧k_≠gb205∧k_≠gb218) (.slice Ao32 t199.length co32) t199):=⟨(by rw [hw];exact (by (with_reducible repeat (first|apply zL|apply zK|apply zM));exact zO (zS (p:=⟨gb218,2,none⟩) (zS (p:=⟨gb218,1,none⟩) (zS (p:=⟨gb218,0,none⟩) (zO HO201.out (fun k_ hk=>(⟨hk,hk.2⟩:_∧k_≠gb218))) (fun _ hk=>hk.2) (.slice Ao40 t209.length co40)) (fun _ hk=>hk.2) (.slice Ao43 t212.length co43)) (fun _ hk=>hk.2) (.slice Ao44 t215.length co44)) (fun _ hk=>⟨hk.1.1.2,⟨hk.1.1.1,hk.1.2⟩⟩)))⟩;have n5_:zN (Kd.V (Kd.int .i64) 3 w45 w.heap.size (fun k_=>some k_≠(.slice Ao37 y206.length co37:Value).ownBlock∧k_≠gb205∧k_≠gb218) (.slice Ao33 t202.length co33) t202):=⟨(by rw [hw];exact (by (with_reducible repeat (first|apply zL|apply zK|apply zM));exact zO (zS (p:=⟨gb218,2,none⟩) (zS (p:=⟨gb218,1,none⟩) (zS (p:=⟨gb218,0,none⟩) (zO HO204.out (fun k_ hk=>(⟨hk,hk.2⟩:_∧k_≠gb218))) (fun _ hk=>hk.2) (.slice Ao40 t209.length co40)) (fun _ hk=>hk.2) (.slice Ao43 t212.length co43)) (fun _ hk=>hk.2) (.slice Ao44 t215.length co44)) (fun _ hk=>⟨hk.1.1.2,⟨hk.1.1.1,hk.1.2⟩⟩)))⟩;have n6_:zN (Kd.R (Kd.int .i64) 3 w45 w.heap.size (fun _=>True) (.slice Ao37 y206.length co37) y206):=⟨(by rw [hw];exact (by (with_reducible repeat (first|apply zR|apply zQ|apply zU));exact yB (zT (p:=⟨gb218,2,none⟩) (zT (p:=⟨gb218,1,none⟩) (zT (p:=⟨gb218,0,none⟩) (zX HO208.out BK218.out (by decide)) (fun _ hk=>hk.2) (.slice Ao40 t209.length co40)) (fun _ hk=>hk.2) (.slice Ao43 t212.length co43)) (fun _ hk=>hk.2) (.slice Ao44 t215.length co44)) (fun _ hk=>trivial)))⟩;have n7_:zN (Kd.V (Kd.int .i64) 3 w45 w.heap.size (fun k_=>k_≠gb205∧k_≠gb218) (.slice Ao40 t209.length co40) t209):=⟨(by rw [hw];exact (by (with_reducible repeat (first|apply zL|apply zK|apply zM));exact zO (zS (p:=⟨gb218,2,none⟩) (zS (p:=⟨gb218,1,none⟩) (zS (p:=⟨gb218,0,none⟩) (zO HO211.out (fun k_ hk=>(⟨hk,hk.2⟩:_∧k_≠gb218))) (fun _ hk=>hk.2) (.slice Ao40 t209.length co40)) (fun _ hk=>hk.2) (.slice Ao43 t212.length co43)) (fun _ hk=>hk.2) (.slice Ao44 t215.length co44)) (fun _ hk=>⟨hk.1.1,hk.1.2⟩)))⟩;have n8_:zN (Kd.V (Kd.int .i64) 3 w45 w.heap.size (fun k_=>k_≠gb205∧k_≠gb218) (.slice Ao43 t212.length co43) t212):=⟨(by rw [hw];exact (by (with_reducible repeat (first|apply zL|apply zK|apply zM));exact zO (zS (p:=⟨gb218,2,none⟩) (zS (p:=⟨gb218,1,none⟩) (zS (p:=⟨gb218,0,none⟩) (zO HO214.out (fun k_ hk=>(⟨hk,hk.2⟩:_∧k_≠gb218))) (fun _ hk=>hk.2) (.slice Ao40 t209.length co40)) (fun _ hk=>hk.2) (.slice Ao43 t212.length co43)) (fun _ hk=>hk.2) (.slice Ao44 t215.length co44)) (fun _ hk=>⟨hk.1.1,hk.1.2⟩)))⟩;have n9_:zN (Kd.V (Kd.int .i64) 3 w45 w.heap.size (fun k_=>k_≠gb205∧k_≠gb218) (.slice Ao44 t215.length co44) t215):=⟨(by rw [hw];exact (by (with_reducible repeat (first|apply zL|apply zK|apply zM));exact zO (zS (p:=⟨gb218,2,none⟩) (zS (p:=⟨gb218,1,none⟩) (zS (p:=⟨gb218,0,none⟩) (zO HO217.out (fun k_ hk=>(⟨hk,hk.2⟩:_∧k_≠gb218))) (fun _ hk=>hk.2) (.slice Ao40 t209.length co40)) (fun _ hk=>hk.2) (.slice Ao43 t212.length co43)) (fun _ hk=>hk.2) (.slice Ao44 t215.length co44)) (fun _ hk=>⟨hk.1.1,hk.1.2⟩)))⟩;have n10_:zN (w45.heap[gb205]?=some (.cells #[.slice Ao30 t196.length co30,.slice Ao32 t199.length co32,.slice Ao33 t202.length co33] 30 (0,0))):=⟨(by rw [hw];exact (by (with_reducible repeat (first|refine zB ?_ _|refine zF ?_|refine zA ?_ _));refine zY ?_ NB205_218.out _;(with_reducible repeat (first|refine zB ?_ _|refine zF ?_|refine zA ?_ _));refine zY ?_ NB205_218.out _;(with_reducible repeat (first|refine zB ?_ _|refine zF ?_|refine zA ?_ _));refine zY ?_ NB205_218.out _;(with_reducible repeat (first|refine zB ?_ _|refine zF ?_|refine zA ?_ _));exact BK205.out))⟩;have n11_:zN (w45.heap[gb218]?=some (.cells #[.slice Ao40 t209.length co40,.slice Ao43 t212.length co43,.slice Ao44 t215.length co44] 30 (0,0))):=⟨(by rw [hw];exact (by (with_reducible repeat (first|refine zB ?_ _|refine zF ?_|refine zA ?_ _));refine yE (cs:=#[.slice Ao40 t209.length co40,.slice Ao43 t212.length co43,.slice none 0 0]) ?_ 2 _ rfl;(with_reducible repeat (first|refine zB ?_ _|refine zF ?_|refine zA ?_ _));refine yE (cs:=#[.slice Ao40 t209.length co40,.slice none 0 0,.slice none 0 0]) ?_ 1 _ rfl;(with_reducible repeat (first|refine zB ?_ _|refine zF ?_|refine zA ?_ _));refine yE (cs:=#[.slice none 0 0,.slice none 0 0,.slice none 0 0]) ?_ 0 _ rfl;(with_reducible repeat (first|refine zB ?_ _|refine zF ?_|refine zA ?_ _));exact BK218.out))⟩;have n12_:zN (Below w.heap.size w w45):=⟨(by rw [hw];exact (by repeat (first|(with_reducible first|exact HB.out|apply zG|apply zD|apply zH|refine zC ?_ GE205.out|refine zC ?_ GE218.out)|exact HB.out)))⟩;clear hw;clear HO189;clear HO192;clear HO195;clear HO198;clear HO201;clear HO204;clear HO208;clear HO211;clear HO214;clear HO217;clear BK205;clear BK218;clear HB;have HO189:=n0_;have HO192:=n1_;have HO195:=n2_;have HO198:=n3_;have HO201:=n4_;have HO204:=n5_;have HO208:=n6_;have HO211:=n7_;have HO214:=n8_;have HO217:=n9_;have BK205:=n10_;have BK218:=n11_;have HB:=n12_;clear n0_ n1_ n2_ n3_ n4_ n5_ n6_ n7_ n8_ n9_ n10_ n11_ n12_)|((with_reducible refine yT (N:=28) rfl ?_);(try (refine gate_guard (by rfl) ?_;dsimp only));refine R_lit (Kd.int .i64) _ 3 ?hg (N:=28) ?hd (xs:=([2,9,15]:List Int)) (inner:=[.int .i64 2,.int .i64 9,.int .i64 15]) (ok:=fun _=>True) (okp:=fun _=>True) ?hr ?hp (fun _ hk=>hk) trivial (Below.refl _ _) (Nat.le_refl _) (by simp) ?_;(case hd=>rfl);(case hg=>rfl);(case hr=>first|(go_simp;done)|(go_simp;rfl));(case hp=>exact (Reps.one (show Kd.M (Kd.int .i64) _ _ _ 2 [.int .i64 2] from rfl) (Reps.one (show Kd.M (Kd.int .i64) _ _ _ 9 [.int .i64 9] from rfl) (Reps.one (show Kd.M (Kd.int .i64) _ _ _ 15 [.int .i64 15] from rfl) (Reps.none _ _)))));intro v220 w46 ho47 hb hg_ hnew_;clear hg_ hnew_;(first|rw [← Ny219.out] at ho47|(simp only [Int.reduceToNat] at ho47;rw [← Ny219.out] at ho47));have n0_:=Zk (yL (by (with_reducible repeat (first|apply zL|apply zK|apply zM));exact HO189.out) (zZ ho47) hb);have n1_:=Zk (yL (by (with_reducible repeat (first|apply zL|apply zK|apply zM));exact HO192.out) (zZ ho47) hb);have n2_:=Zk (yL (by (with_reducible repeat (first|apply zL|apply zK|apply zM));exact HO195.out) (zZ ho47) hb);have n3_:=Zk (yL (by (with_reducible repeat (first|apply zL|apply zK|apply zM));exact HO198.out) (zZ ho47) hb);have n4_:=Zk (yL (by (with_reducible repeat (first|apply zL|apply zK|apply zM));exact HO201.out) (zZ ho47) hb);have n5_:=Zk (yL (by (with_reducible repeat (first|apply zL|apply zK|apply zM));exact HO204.out) (zZ ho47) hb);have n6_:=Zk (yK (by (with_reducible repeat (first|apply zR|apply zQ|apply zU));exact HO208.out) (zZ ho47) hb);have n7_:=Zk (yL (by (with_reducible repeat (first|apply zL|apply zK|apply zM));exact HO211.out) (zZ ho47) hb);have n8_:=Zk (yL (by (with_reducible repeat (first|apply zL|apply zK|apply zM));exact HO214.out) (zZ ho47) hb);have n9_:=Zk (yL (by (with_reducible repeat (first|apply zL|apply zK|apply zM));exact HO217.out) (zZ ho47) hb);have n10_:=Zk (yU (yR ho47 (R_lt (by (with_reducible repeat (first|apply zR|apply zQ|apply zU));exact HO208.out))) (zP (by repeat (first|(with_reducible first|exact HB.out|apply zG|apply zD|apply zH|refine zC ?_ GE205.out|refine zC ?_ GE218.out)|exact HB.out))));have n11_:=Zk (zW (g:=gb205) (o:=.cells #[.slice Ao30 t196.length co30,.slice Ao32 t199.length co32,.slice Ao33 t202.length co33] 30 (0,0)) (by (with_reducible repeat (first|refine zB ?_ _|refine zF ?_|refine zA ?_ _));exact BK205.out) hb);have n12_:=Zk (zW (g:=gb218) (o:=.cells #[.slice Ao40 t209.length co40,.slice Ao43 t212.length co43,.slice Ao44 t215.length co44] 30 (0,0)) (by (with_reducible repeat (first|refine zB ?_ _|refine zF ?_|refine zA ?_ _));exact BK218.out) hb);have n13_:=Zk (yA (by repeat (first|(with_reducible first|exact HB.out|apply zG|apply zD|apply zH|refine zC ?_ GE205.out|refine zC ?_ GE218.out)|exact HB.out)) hb);clear HO189;clear HO192;clear HO195;clear HO198;clear HO201;clear HO204;clear HO208;clear HO211;clear HO214;clear HO217;clear BK205;clear BK218;clear HB;have HO189:=n0_;have HO192:=n1_;have HO195:=n2_;have HO198:=n3_;have HO201:=n4_;have HO204:=n5_;have HO208:=n6_;have HO211:=n7_;have HO214:=n8_;have HO217:=n9_;have HO221:=n10_;have BK205:=n11_;have BK218:=n12_;have HB:=n13_;clear n0_ n1_ n2_ n3_ n4_ n5_ n6_ n7_ n8_ n9_ n10_ n11_ n12_ n13_;clear hb ho47)|((with_reducible refine yT (N:=29) rfl ?_);(try (refine gate_guard (by rfl) ?_;dsimp only));refine R_lit (Kd.int .i64) _ 3 ?hg (N:=29) ?hd (xs:=([2]:List Int)) (inner:=[.int .i64 2]) (ok:=fun _=>True) (okp:=fun _=>True) ?hr ?hp (fun _ hk=>hk) trivial (Below.refl _ _) (Nat.le_refl _) (by simp) ?_;(case hd=>rfl);(case hg=>rfl);(case hr=>first|(go_simp;done)|(go_simp;rfl));(case hp=>exact (Reps.one (show Kd.M (Kd.int .i64) _ _ _ 2 [.int .i64 2] from rfl) (Reps.none _ _)));intro v223 w48 ho49 hb hg_ hnew_;clear hg_ hnew_;(first|rw [← Ny222.out] at ho49|(simp only [Int.reduceToNat] at ho49;rw [← Ny222.out] at ho49));have n0_:=Zk (yL (by (with_reducible repeat (first|apply zL|apply zK|apply zM));exact HO189.out) (zZ ho49) hb);have n1_:=Zk (yL (by (with_reducible repeat (first|apply zL|apply zK|apply zM));exact HO192.out) (zZ ho49) hb);have n2_:=Zk (yL (by (with_reducible repeat (first|apply zL|apply zK|apply zM));exact HO195.out) (zZ ho49) hb);have n3_:=Zk (yL (by (with_reducible repeat (first|apply zL|apply zK|apply zM));exact HO198.out) (zZ ho49) hb);have n4_:=Zk (yL (by (with_reducible repeat (first|apply zL|apply zK|apply zM));exact HO201.out) (zZ ho49) hb);have n5_:=Zk (yL (by (with_reducible repeat (first|apply zL|apply zK|apply zM));exact HO204.out) (zZ ho49) hb);have n6_:=Zk (yK (by (with_reducible repeat (first|apply zR|apply zQ|apply zU));exact HO208.out) (zZ ho49) hb);have n7_:=Zk (yL (by (with_reducible repeat (first|apply zL|apply zK|apply zM));exact HO211.out) (zZ ho49) hb);have n8_:=Zk (yL (by (with_reducible repeat (first|apply zL|apply zK|apply zM));exact HO214.out) (zZ ho49) hb);have n9_:=Zk (yL (by (with_reducible repeat (first|apply zL|apply zK|apply zM));exact HO217.out) (zZ ho49) hb);have n10_:=Zk (yK (by (with_reducible repeat (first|apply zR|apply zQ|apply zU));exact HO221.out) (zZ ho49) hb);have n11_:=Zk (yU (yR (yR ho49 (R_lt (by (with_reducible repeat (first|apply zR|apply zQ|apply zU));exact HO208.out))) (R_lt (by (with_reducible repeat (first|apply zR|apply zQ|apply zU));exact HO221.out))) (zP (by repeat (first|(with_reducible first|exact HB.out|apply zG|apply zD|apply zH|refine zC ?_ GE205.out|refine zC ?_ GE218.out)|exact HB.out))));have n12_:=Zk (zW (g:=gb205) (o:=.cells #[.slice Ao30 t196.length co30,.slice Ao32 t199.length co32,.slice Ao33 t202.length co33] 30 (0,0)) (by (with_reducible repeat (first|refine zB ?_ _|refine zF ?_|refine zA ?_ _));exact BK205.out) hb);have n13_:=Zk (zW (g:=gb218) (o:=.cells #[.slice Ao40 t209.length co40,.slice Ao43 t212.length co43,.slice Ao44 t215.length co44] 30 (0,0)) (by (with_reducible repeat (first|refine zB ?_ _|refine zF ?_|refine zA ?_ _));exact BK218.out) hb);have n14_:=Zk (yA (by repeat (first|(with_reducible first|exact HB.out|apply zG|apply zD|apply zH|refine zC ?_ GE205.out|refine zC ?_ GE218.out)|exact HB.out)) hb);clear HO189;clear HO192;clear HO195;clear HO198;clear HO201;clear HO204;clear HO208;clear HO211;clear HO214;clear HO217;clear HO221;clear BK205;clear BK218;clear HB;have HO189:=n0_;have HO192:=n1_;have HO195:=n2_;have HO198:=n3_;have HO201:=n4_;have HO204:=n5_;have HO208:=n6_;have HO211:=n7_;have HO214:=n8_;have HO217:=n9_;have HO221:=n10_;have HO224:=n11_;have BK205:=n12_;have BK218:=n13_;have HB:=n14_;clear n0_ n1_ n2_ n3_ n4_ n5_ n6_ n7_ n8_ n9_ n10_ n11_ n12_ n13_ n14_;clear hb ho49;obtain ⟨Ao50,co50,eo50⟩:=yQ HO224.out;subst eo50;obtain ⟨Ao51,co51,eo51⟩:=yQ HO221.out;subst eo51)|((with_reducible refine yD (f:=19) rfl ?_);refine yM (some 31) rfl rfl Tryd.func19 (by kernel_rfl) rfl #[.agg #[.slice Ao51 y219.length co51,.slice none 0 0,.slice Ao50 y222.length co50]] rfl (by (try simp only [List.map_toArray,List.map_cons,List.map_nil]);first|done|rfl|(simp only [List.length_drop,List.length_take];rfl)) ?_;(refine (signal_Next.calls k (fun k_=>some k_=(.slice Ao51 y219.length co51:Value).ownBlock) _ _ y219 (fun k_=>False) _ _ ([]:List Int) (fun k_=>some k_=(.slice Ao50 y222.length co50:Value).ownBlock) _ _ y222 t225 t228 t231 t234 t235 _ ?side1 ?side2 ?side3 A6.out).mono ?_);(case side1=>exact R_V (R_tight rfl (zX (zX (HO221.out) BK205.out (by decide)) BK218.out (by decide))));(case side2=>exact V_nil _ _ _ _ _);(case side3=>exact R_V (R_tight rfl (zX (zX (HO224.out) BK205.out (by decide)) BK218.out (by decide))));rintro e w52 ⟨v226,v229,v232,rfl,ho0,ho1,ho2,hb⟩;refine ⟨_,rfl,?_⟩;have n0_:=Zk (zV (by (with_reducible repeat (first|apply zL|apply zK|apply zM));exact HO189.out) hb);have n1_:=Zk (zV (by (with_reducible repeat (first|apply zL|apply zK|apply zM));exact HO192.out) hb);have n2_:=Zk (zV (by (with_reducible repeat (first|apply zL|apply zK|apply zM));exact HO195.out) hb);have n3_:=Zk (zV (by (with_reducible repeat (first|apply zL|apply zK|apply zM));exact HO198.out) hb);have n4_:=Zk (zV (by (with_reducible repeat (first|apply zL|apply zK|apply zM));exact HO201.out) hb);have n5_:=Zk (zV (by (with_reducible repeat (first|apply zL|apply zK|apply zM));exact HO204.out) hb);have n6_:=Zk (R_below (by (with_reducible repeat (first|apply zR|apply zQ|apply zU));exact HO208.out) hb);have n7_:=Zk (zV (by (with_reducible repeat (first|apply zL|apply zK|apply zM));exact HO211.out) hb);have n8_:=Zk (zV (by (with_reducible repeat (first|apply zL|apply zK|apply zM));exact HO214.out) hb);have n9_:=Zk (zV (by (with_reducible repeat (first|apply zL|apply zK|apply zM));exact HO217.out) hb);have n10_:=Zk (R_below (by (with_reducible repeat (first|apply zR|apply zQ|apply zU));exact HO221.out) hb);have n11_:=Zk (R_below (by (with_reducible repeat (first|apply zR|apply zQ|apply zU));exact HO224.out) hb);have n12_:=Zk (V_lower (zO (ok':=fun k_=>some k_≠(.slice Ao37 y206.length co37:Value).ownBlock∧k_≠gb205∧k_≠gb218) ho0 (fun k_ hk_=>⟨Or.elim hk_ (fun hs_=>Or.elim hs_ (fun hs_=>((zX (zX (HO221.out) BK205.out (by decide)) BK218.out (by decide)).1 k_ hs_.symm).1.1.1.2) (fun hs_=>Or.elim hs_ (fun hs_=>(hs_).elim) (fun hs_=>((zX (zX (HO224.out) BK205.out (by decide)) BK218.out (by decide)).1 k_ hs_.symm).1.1.1.2))) (fun hn_=>(Kd.fresh' (R_lt (by (with_reducible repeat (first|apply zR|apply zQ|apply zU));exact HO208.out)) k_ hn_)),Or.elim hk_ (fun hs_=>Or.elim hs_ (fun hs_=>((zX (zX (HO221.out) BK205.out (by decide)) BK218.out (by decide)).1 k_ hs_.symm).1.2) (fun hs_=>Or.elim hs_ (fun hs_=>(hs_).elim) (fun hs_=>((zX (zX (HO224.out) BK205.out (by decide)) BK218.out (by decide)).1 k_ hs_.symm).1.2))) (fun hn_=>(Kd.freshB (g:=gb205) (o:=.cells #[.slice Ao30 t196.length co30,.slice Ao32 t199.length co32,.slice Ao33 t202.length co33] 30 (0,0)) (by (with_reducible repeat (first|refine zB ?_ _|refine zF ?_|refine zA ?_ _));exact BK205.out) k_ hn_)),Or.elim hk_ (fun hs_=>Or.elim hs_ (fun hs_=>((zX (zX (HO221.out) BK205.out (by decide)) BK218.out (by decide)).1 k_ hs_.symm).2) (fun hs_=>Or.elim hs_ (fun hs_=>(hs_).elim) (fun hs_=>((zX (zX (HO224.out) BK205.out (by decide)) BK218.out (by decide)).1 k_ hs_.symm).2))) (fun hn_=>(Kd.freshB (g:=gb218) (o:=.cells #[.slice Ao40 t209.length co40,.slice Ao43 t212.length co43,.slice Ao44 t215.length co44] 30 (0,0)) (by (with_reducible repeat (first|refine zB ?_ _|refine zF ?_|refine zA ?_ _));exact BK218.out) k_ hn_))⟩)) (zP (by repeat (first|(with_reducible first|exact HB.out|apply zG|apply zD|apply zH|refine zC ?_ GE205.out|refine zC ?_ GE218.out)|exact HB.out))));have n13_:=Zk (V_lower (zO (ok':=fun k_=>some k_≠(.slice Ao37 y206.length co37:Value).ownBlock∧k_≠gb205∧k_≠gb218) ho1 (fun k_ hk_=>⟨Or.elim hk_ (fun hs_=>Or.elim hs_ (fun hs_=>((zX (zX (HO221.out) BK205.out (by decide)) BK218.out (by decide)).1 k_ hs_.symm).1.1.1.2) (fun hs_=>Or.elim hs_ (fun hs_=>(hs_).elim) (fun hs_=>((zX (zX (HO224.out) BK205.out (by decide)) BK218.out (by decide)).1 k_ hs_.symm).1.1.1.2))) (fun hn_=>(Kd.fresh' (R_lt (by (with_reducible repeat (first|apply zR|apply zQ|apply zU));exact HO208.out)) k_ hn_)),Or.elim hk_ (fun hs_=>Or.elim hs_ (fun hs_=>((zX (zX (HO221.out) BK205.out (by decide)) BK218.out (by decide)).1 k_ hs_.symm).1.2) (fun hs_=>Or.elim hs_ (fun hs_=>(hs_).elim) (fun hs_=>((zX (zX (HO224.out) BK205.out (by decide)) BK218.out (by decide)).1 k_ hs_.symm).1.2))) (fun hn_=>(Kd.freshB (g:=gb205) (o:=.cells #[.slice Ao30 t196.length co30,.slice Ao32 t199.length co32,.slice Ao33 t202.length co33] 30 (0,0)) (by (with_reducible repeat (first|refine zB ?_ _|refine zF ?_|refine zA ?_ _));exact BK205.out) k_ hn_)),Or.elim hk_ (fun hs_=>Or.elim hs_ (fun hs_=>((zX (zX (HO221.out) BK205.out (by decide)) BK218.out (by decide)).1 k_ hs_.symm).2) (fun hs_=>Or.elim hs_ (fun hs_=>(hs_).elim) (fun hs_=>((zX (zX (HO224.out) BK205.out (by decide)) BK218.out (by decide)).1 k_ hs_.symm).2))) (fun hn_=>(Kd.freshB (g:=gb218) (o:=.cells #[.slice Ao40 t209.length co40,.slice Ao43 t212.length co43,.slice Ao44 t215.length co44] 30 (0,0)) (by (with_reducible repeat (first|refine zB ?_ _|refine zF ?_|refine zA ?_ _));exact BK218.out) k_ hn_))⟩)) (zP (by repeat (first|(with_reducible first|exact HB.out|apply zG|apply zD|apply zH|refine zC ?_ GE205.out|refine zC ?_ GE218.out)|exact HB.out))));have n14_:=Zk (V_lower (zO (ok':=fun k_=>some k_≠(.slice Ao37 y206.length co37:Value).ownBlock∧k_≠gb205∧k_≠gb218) ho2 (fun k_ hk_=>⟨Or.elim hk_ (fun hs_=>Or.elim hs_ (fun hs_=>((zX (zX (HO221.out) BK205.out (by decide)) BK218.out (by decide)).1 k_ hs_.symm).1.1.1.2) (fun hs_=>Or.elim hs_ (fun hs_=>(hs_).elim) (fun hs_=>((zX (zX (HO224.out) BK205.out (by decide)) BK218.out (by decide)).1 k_ hs_.symm).1.1.1.2))) (fun hn_=>(Kd.fresh' (R_lt (by (with_reducible repeat (first|apply zR|apply zQ|apply zU));exact HO208.out)) k_ hn_)),Or.elim hk_ (fun hs_=>Or.elim hs_ (fun hs_=>((zX (zX (HO221.out) BK205.out (by decide)) BK218.out (by decide)).1 k_ hs_.symm).1.2) (fun hs_=>Or.elim hs_ (fun hs_=>(hs_).elim) (fun hs_=>((zX (zX (HO224.out) BK205.out (by decide)) BK218.out (by decide)).1 k_ hs_.symm).1.2))) (fun hn_=>(Kd.freshB (g:=gb205) (o:=.cells #[.slice Ao30 t196.length co30,.slice Ao32 t199.length co32,.slice Ao33 t202.length co33] 30 (0,0)) (by (with_reducible repeat (first|refine zB ?_ _|refine zF ?_|refine zA ?_ _));exact BK205.out) k_ hn_)),Or.elim hk_ (fun hs_=>Or.elim hs_ (fun hs_=>((zX (zX (HO221.out) BK205.out (by decide)) BK218.out (by decide)).1 k_ hs_.symm).2) (fun hs_=>Or.elim hs_ (fun hs_=>(hs_).elim) (fun hs_=>((zX (zX (HO224.out) BK205.out (by decide)) BK218.out (by decide)).1 k_ hs_.symm).2))) (fun hn_=>(Kd.freshB (g:=gb218) (o:=.cells #[.slice Ao40 t209.length co40,.slice Ao43 t212.length co43,.slice Ao44 t215.length co44] 30 (0,0)) (by (with_reducible repeat (first|refine zB ?_ _|refine zF ?_|refine zA ?_ _));exact BK218.out) k_ hn_))⟩)) (zP (by repeat (first|(with_reducible first|exact HB.out|apply zG|apply zD|apply zH|refine zC ?_ GE205.out|refine zC ?_ GE218.out)|exact HB.out))));have n15_:=Zk (zW (g:=gb205) (o:=.cells #[.slice Ao30 t196.length co30,.slice Ao32 t199.length co32,.slice Ao33 t202.length co33] 30 (0,0)) (by (with_reducible repeat (first|refine zB ?_ _|refine zF ?_|refine zA ?_ _));exact BK205.out) hb);have n16_:=Zk (zW (g:=gb218) (o:=.cells #[.slice Ao40 t209.length co40,.slice Ao43 t212.length co43,.slice Ao44 t215.length co44] 30 (0,0)) (by (with_reducible repeat (first|refine zB ?_ _|refine zF ?_|refine zA ?_ _));exact BK218.out) hb);have n17_:=Zk (yA (by repeat (first|(with_reducible first|exact HB.out|apply zG|apply zD|apply zH|refine zC ?_ GE205.out|refine zC ?_ GE218.out)|exact HB.out)) hb);clear HO189;clear HO192;clear HO195;clear HO198;clear HO201;clear HO204;clear HO208;clear HO211;clear HO214;clear HO217;clear HO221;clear HO224;clear BK205;clear BK218;clear HB;have HO189:=n0_;have HO192:=n1_;have HO195:=n2_;have HO198:=n3_;have HO201:=n4_;have HO204:=n5_;have HO208:=n6_;have HO211:=n7_;have HO214:=n8_;have HO217:=n9_;have HO221:=n10_;have HO224:=n11_;have HO227:=n12_;have HO230:=n13_;have HO233:=n14_;have BK205:=n15_;have BK218:=n16_;have HB:=n17_;clear n0_ n1_ n2_ n3_ n4_ n5_ n6_ n7_ n8_ n9_ n10_ n11_ n12_ n13_ n14_ n15_ n16_ n17_;(try clear hb);(try clear hb2);(try clear hk);(try clear hi);(try clear ho0);(try clear ho1);(try clear ho2))|((with_reducible refine yT (N:=7) rfl ?_);(try (refine gate_guard (by rfl) ?_;dsimp only));refine yV ?hg (N:=7) ?hd (cs:=#[.slice none 0 0,.slice none 0 0,.slice none 0 0]) (t:=30) ?hr ?_;(case hd=>rfl);(case hg=>rfl);(case hr=>first|(go_simp;done)|(go_simp;rfl));intro gb236 hg w53 hbox hb;have n0_:=Zk (zV (yC (by (with_reducible repeat (first|apply zL|apply zK|apply zM));exact HO189.out) gb236 (Nat.le_of_eq hg.symm)) hb);have n1_:=Zk (zV (yC (by (with_reducible repeat (first|apply zL|apply zK|apply zM));exact HO192.out) gb236 (Nat.le_of_eq hg.symm)) hb);have n2_:=Zk (zV (yC (by (with_reducible repeat (first|apply zL|apply zK|apply zM));exact HO195.out) gb236 (Nat.le_of_eq hg.symm)) hb);have n3_:=Zk (zV (yC (by (with_reducible repeat (first|apply zL|apply zK|apply zM));exact HO198.out) gb236 (Nat.le_of_eq hg.symm)) hb);have n4_:=Zk (zV (yC (by (with_reducible repeat (first|apply zL|apply zK|apply zM));exact HO201.out) gb236 (Nat.le_of_eq hg.symm)) hb);have n5_:=Zk (zV (yC (by (with_reducible repeat (first|apply zL|apply zK|apply zM));exact HO204.out) gb236 (Nat.le_of_eq hg.symm)) hb);have n6_:=Zk (R_below (by (with_reducible repeat (first|apply zR|apply zQ|apply zU));exact HO208.out) hb);have n7_:=Zk (zV (yC (by (with_reducible repeat (first|apply zL|apply zK|apply zM));exact HO211.out) gb236 (Nat.le_of_eq hg.symm)) hb);have n8_:=Zk (zV (yC (by (with_reducible repeat (first|apply zL|apply zK|apply zM));exact HO214.out) gb236 (Nat.le_of_eq hg.symm)) hb);have n9_:=Zk (zV (yC (by (with_reducible repeat (first|apply zL|apply zK|apply zM));exact HO217.out) gb236 (Nat.le_of_eq hg.symm)) hb);have n10_:=Zk (R_below (by (with_reducible repeat (first|apply zR|apply zQ|apply zU));exact HO221.out) hb);have n11_:=Zk (R_below (by (with_reducible repeat (first|apply zR|apply zQ|apply zU));exact HO224.out) hb);have n12_:=Zk (zV (yC (by (with_reducible repeat (first|apply zL|apply zK|apply zM));exact HO227.out) gb236 (Nat.le_of_eq hg.symm)) hb);have n13_:=Zk (zV (yC (by (with_reducible repeat (first|apply zL|apply zK|apply zM));exact HO230.out) gb236 (Nat.le_of_eq hg.symm)) hb);have n14_:=Zk (zV (yC (by (with_reducible repeat (first|apply zL|apply zK|apply zM));exact HO233.out) gb236 (Nat.le_of_eq hg.symm)) hb);have n15_:=Zk (zW (g:=gb205) (o:=.cells #[.slice Ao30 t196.length co30,.slice Ao32 t199.length co32,.slice Ao33 t202.length co33] 30 (0,0)) (by (with_reducible repeat (first|refine zB ?_ _|refine zF ?_|refine zA ?_ _));exact BK205.out) hb);have n16_:=Zk (zW (g:=gb218) (o:=.cells #[.slice Ao40 t209.length co40,.slice Ao43 t212.length co43,.slice Ao44 t215.length co44] 30 (0,0)) (by (with_reducible repeat (first|refine zB ?_ _|refine zF ?_|refine zA ?_ _));exact BK218.out) hb);have n17_:=Zk (yA (by repeat (first|(with_reducible first|exact HB.out|apply zG|apply zD|apply zH|refine zC ?_ GE205.out|refine zC ?_ GE218.out)|exact HB.out)) hb);have n18_:=Zk (hbox);have n19_:=Zk ((by rw [hg];exact (zP (by repeat (first|(with_reducible first|exact HB.out|apply zG|apply zD|apply zH|refine zC ?_ GE205.out|refine zC ?_ GE218.out)|exact HB.out))):w.heap.size≤gb236));have n20_:=Zk ((by rw [hg];exact (zP (by repeat (first|(with_reducible first|exact HB.out|apply zG|apply zD|apply zH|refine zC ?_ GE205.out|refine zC ?_ GE218.out)|exact HB.out))):w.heap.size≤gb236));have n21_:=Zk ((by rw [hg];exact Nat.ne_of_lt (yN (g:=gb205) (o:=.cells #[.slice Ao30 t196.length co30,.slice Ao32 t199.length co32,.slice Ao33 t202.length co33] 30 (0,0)) (by (with_reducible repeat (first|refine zB ?_ _|refine zF ?_|refine zA ?_ _));exact BK205.out)):gb205≠gb236));have n22_:=Zk ((by rw [hg];exact Nat.ne_of_gt (yN (g:=gb205) (o:=.cells #[.slice Ao30 t196.length co30,.slice Ao32 t199.length co32,.slice Ao33 t202.length co33] 30 (0,0)) (by (with_reducible repeat (first|refine zB ?_ _|refine zF ?_|refine zA ?_ _));exact BK205.out)):gb236≠gb205));have n23_:=Zk ((by rw [hg];exact Nat.ne_of_lt (yN (g:=gb218) (o:=.cells #[.slice Ao40 t209.length co40,.slice Ao43 t212.length co43,.slice Ao44 t215.length co44] 30 (0,0)) (by (with_reducible repeat (first|refine zB ?_ _|refine zF ?_|refine zA ?_ _));exact BK218.out)):gb218≠gb236));have n24_:=Zk ((by rw [hg];exact Nat.ne_of_gt (yN (g:=gb218) (o:=.cells #[.slice Ao40 t209.length co40,.slice Ao43 t212.length co43,.slice Ao44 t215.length co44] 30 (0,0)) (by (with_reducible repeat (first|refine zB ?_ _|refine zF ?_|refine zA ?_ _));exact BK218.out)):gb236≠gb218));clear HO189;clear HO192;clear HO195;clear HO198;clear HO201;clear HO204;clear HO208;clear HO211;clear HO214;clear HO217;clear HO221;clear HO224;clear HO227;clear HO230;clear HO233;clear BK205;clear BK218;clear HB;have HO189:=n0_;have HO192:=n1_;have HO195:=n2_;have HO198:=n3_;have HO201:=n4_;have HO204:=n5_;have HO208:=n6_;have HO211:=n7_;have HO214:=n8_;have HO217:=n9_;have HO221:=n10_;have HO224:=n11_;have HO227:=n12_;have HO230:=n13_;have HO233:=n14_;have BK205:=n15_;have BK218:=n16_;have HB:=n17_;have BK236:=n18_;have GW236:=n19_;have GE236:=n20_;have NB205_236:=n21_;have NB236_205:=n22_;have NB218_236:=n23_;have NB236_218:=n24_;clear n0_ n1_ n2_ n3_ n4_ n5_ n6_ n7_ n8_ n9_ n10_ n11_ n12_ n13_ n14_ n15_ n16_ n17_ n18_ n19_ n20_ n21_ n22_ n23_ n24_;clear hb hbox hg;obtain ⟨Ao54,co54,eo54⟩:=V_slice HO227.out;subst eo54;have hnb55:=NB236_205.out;have hnc55:=NB205_236.out;have hnb56:=NB236_218.out;have hnc56:=NB218_236.out;have hcz57_0:w53.cell? ⟨gb236,0,none⟩=some (.slice none 0 0):=(zJ BK236.out 0).trans rfl;have hcz57_1:w53.cell? ⟨gb236,1,none⟩=some (.slice none 0 0):=(zJ BK236.out 1).trans rfl;have hcz57_2:w53.cell? ⟨gb236,2,none⟩=some (.slice none 0 0):=(zJ BK236.out 2).trans rfl;have hfz57_0:=zI BK236.out 0;have hfz57_1:=zI BK236.out 1;have hfz57_2:=zI BK236.out 2;obtain ⟨Ao58,co58,eo58⟩:=V_slice HO230.out;subst eo58;obtain ⟨Ao59,co59,eo59⟩:=V_slice HO233.out;subst eo59)|((with_reducible refine xA (t:=30) (p:=7) rfl ?_);refine yY (t:=30) (p:=7) (v:=?vo_w60) (w1:=(((w53.setCell ⟨gb236,0,none⟩ (.slice Ao54 t225.length co54)).setCell ⟨gb236,1,none⟩ (.slice Ao58 t228.length co58)).setCell ⟨gb236,2,none⟩ (.slice Ao59 t231.length co59))) ?hg ?ho ?hn ?hr ?_;(case ho=>rfl);(case hg=>rfl);(case hn=>rfl);(case hr=>first|(go_simp;done)|(go_simp;rfl));intro w60 hw;have n0_:zN (Kd.V (Kd.int .i64) 3 w60 w.heap.size (fun k_=>some k_≠(.slice Ao37 y206.length co37:Value).ownBlock∧some k_≠(.slice Ao51 y219.length co51:Value).ownBlock∧some k_≠(.slice Ao50 y222.length co50:Value).ownBlock∧k_≠gb205∧k_≠gb218∧k_≠gb236) (.slice Ao25 t187.length co25) t187):=⟨(by rw [hw];exact (by (with_reducible repeat (first|apply zL|apply zK|apply zM));exact zO (zS (p:=⟨gb236,2,none⟩) (zS (p:=⟨gb236,1,none⟩) (zS (p:=⟨gb236,0,none⟩) (zO HO189.out (fun k_ hk=>(⟨hk,hk.2⟩:_∧k_≠gb236))) (fun _ hk=>hk.2) (.slice Ao54 t225.length co54)) (fun _ hk=>hk.2) (.slice Ao58 t228.length co58)) (fun _ hk=>hk.2) (.slice Ao59 t231.length co59)) (fun _ hk=>⟨hk.1.1.1.1.1,⟨hk.1.1.1.2,⟨hk.1.1.2,⟨hk.1.1.1.1.2.1,⟨hk.1.1.1.1.2.2,hk.1.2⟩⟩⟩⟩⟩)))⟩;have n1_:zN (Kd.V (Kd.int .i64) 3 w60 w.heap.size (fun k_=>some k_≠(.slice Ao37 y206.length co37:Value).ownBlock∧some k_≠(.slice Ao51 y219.length co51:Value).ownBlock∧some k_≠(.slice Ao50 y222.length co50:Value).ownBlock∧k_≠gb205∧k_≠gb218∧k_≠gb236) (.slice Ao26 t190.length co26) t190):=⟨(by rw [hw];exact (by (with_reducible repeat (first|apply zL|apply zK|apply zM));exact zO (zS (p:=⟨gb236,2,none⟩) (zS (p:=⟨gb236,1,none⟩) (zS (p:=⟨gb236,0,none⟩) (zO HO192.out (fun k_ hk=>(⟨hk,hk.2⟩:_∧k_≠gb236))) (fun _ hk=>hk.2) (.slice Ao54 t225.length co54)) (fun _ hk=>hk.2) (.slice Ao58 t228.length co58)) (fun _ hk=>hk.2) (.slice Ao59 t231.length co59)) (fun _ hk=>⟨hk.1.1.1.1.1,⟨hk.1.1.1.2,⟨hk.1.1.2,⟨hk.1.1.1.1.2.1,⟨hk.1.1.1.1.2.2,hk.1.2⟩⟩⟩⟩⟩)))⟩;have n2_:zN (Kd.V (Kd.int .i64) 3 w60 w.heap.size (fun k_=>some k_≠(.slice Ao37 y206.length co37:Value).ownBlock∧some k_≠(.slice Ao51 y219.length co51:Value).ownBlock∧some k_≠(.slice Ao50 y222.length co50:Value).ownBlock∧k_≠gb205∧k_≠gb218∧k_≠gb236) (.slice Ao27 t193.length co27) t193):=⟨(by rw [hw];exact (by (with_reducible repeat (first|apply zL|apply zK|apply zM));exact zO (zS (p:=⟨gb236,2,none⟩) (zS (p:=⟨gb236,1,none⟩) (zS (p:=⟨gb236,0,none⟩) (zO HO195.out (fun k_ hk=>(⟨hk,hk.2⟩:_∧k_≠gb236))) (fun _ hk=>hk.2) (.slice Ao54 t225.length co54)) (fun _ hk=>hk.2) (.slice Ao58 t228.length co58)) (fun _ hk=>hk.2) (.slice Ao59 t231.length co59)) (fun _ hk=>⟨hk.1.1.1.1.1,⟨hk.1.1.1.2,⟨hk.1.1.2,⟨hk.1.1.1.1.2.1,⟨hk.1.1.1.1.2.2,hk.1.2⟩⟩⟩⟩⟩)))⟩;have n3_:zN (Kd.V (Kd.int .i64) 3 w60 w.heap.size (fun k_=>some k_≠(.slice Ao37 y206.length co37:Value).ownBlock∧some k_≠(.slice Ao51 y219.length co51:Value).ownBlock∧some k_≠(.slice Ao50 y222.length co50:Value).ownBlock∧k_≠gb205∧k_≠gb218∧k_≠gb236) (.slice Ao30 t196.length co30) t196):=⟨(by rw [hw];exact (by (with_reducible repeat (first|apply zL|apply zK|apply zM));exact zO (zS (p:=⟨gb236,2,none⟩) (zS (p:=⟨gb236,1,none⟩) (zS (p:=⟨gb236,0,none⟩) (zO HO198.out (fun k_ hk=>(⟨hk,hk.2⟩:_∧k_≠gb236))) (fun _ hk=>hk.2) (.slice Ao54 t225.length co54)) (fun _ hk=>hk.2) (.slice Ao58 t228.length co58)) (fun _ hk=>hk.2) (.slice Ao59 t231.length co59)) (fun _ hk=>⟨hk.1.1.1.1.1,⟨hk.1.1.1.2,⟨hk.1.1.2,⟨hk.1.1.1.1.2.1,⟨hk.1.1.1.1.2.2,hk.1.2⟩⟩⟩⟩⟩)))⟩;have n4_:zN (Kd.V (Kd.int .i64) 3 w60 w.heap.size (fun k_=>some k_≠(.slice Ao37 y206.length co37:Value).ownBlock∧some k_≠(.slice Ao51 y219.length co51:Value).ownBlock∧some k_≠(.slice Ao50 y222.length co50:Value).ownBlock∧k_≠gb205∧k_≠gb218∧k_≠gb236) (.slice Ao32 t199.length co32) t199):=⟨(by rw [hw];exact (by (with_reducible repeat (first|apply zL|apply zK|apply zM));exact zO (zS (p:=⟨gb236,2,none⟩) (zS (p:=⟨gb236,1,none⟩) (zS (p:=⟨gb236,0,none⟩) (zO HO201.out (fun k_ hk=>(⟨hk,hk.2⟩:_∧k_≠gb236))) (fun _ hk=>hk.2) (.slice Ao54 t225.length co54)) (fun _ hk=>hk.2) (.slice Ao58 t228.length co58)) (fun _ hk=>hk.2) (.slice Ao59 t231.length co59)) (fun _ hk=>⟨hk.1.1.1.1.1,⟨hk.1.1.1.2,⟨hk.1.1.2,⟨hk.1.1.1.1.2.1,⟨hk.1.1.1.1.2.2,hk.1.2⟩⟩⟩⟩⟩)))⟩;have n5_:zN (Kd.V (Kd.int .i64) 3 w60 w.heap.size (fun k_=>some k_≠(.slice Ao37 y206.length co37:Value).ownBlock∧some k_≠(.slice Ao51 y219.length co51:Value).ownBlock∧some k_≠(.slice Ao50 y222.length co50:Value).ownBlock∧k_≠gb205∧k_≠gb218∧k_≠gb236) (.slice Ao33 t202.length co33) t202):=⟨(by rw [hw];exact (by (with_reducible repeat (first|apply zL|apply zK|apply zM));exact zO (zS (p:=⟨gb236,2,none⟩) (zS (p:=⟨gb236,1,none⟩) (zS (p:=⟨gb236,0,none⟩) (zO HO204.out (fun k_ hk=>(⟨hk,hk.2⟩:_∧k_≠gb236))) (fun _ hk=>hk.2) (.slice Ao54 t225.length co54)) (fun _ hk=>hk.2) (.slice Ao58 t228.length co58)) (fun _ hk=>hk.2) (.slice Ao59 t231.length co59)) (fun _ hk=>⟨hk.1.1.1.1.1,⟨hk.1.1.1.2,⟨hk.1.1.2,⟨hk.1.1.1.1.2.1,⟨hk.1.1.1.1.2.2,hk.1.2⟩⟩⟩⟩⟩)))⟩;have n6_:zN (Kd.R (Kd.int .i64) 3 w60 w.heap.size (fun k_=>some k_≠(.slice Ao51 y219.length co51:Value).ownBlock∧some k_≠(.slice Ao50 y222.length co50:Value).ownBlock) (.slice Ao37 y206.length co37) y206):=⟨(by rw [hw];exact (by (with_reducible repeat (first|apply zR|apply zQ|apply zU));exact yB (zT (p:=⟨gb236,2,none⟩) (zT (p:=⟨gb236,1,none⟩) (zT (p:=⟨gb236,0,none⟩) (zX HO208.out BK236.out (by decide)) (fun _ hk=>hk.2) (.slice Ao54 t225.length co54)) (fun _ hk=>hk.2) (.slice Ao58 t228.length co58)) (fun _ hk=>hk.2) (.slice Ao59 t231.length co59)) (fun _ hk=>⟨hk.1.1.2,hk.1.2⟩)))⟩;have n7_:zN (Kd.V (Kd.int .i64) 3 w60 w.heap.size (fun k_=>some k_≠(.slice Ao51 y219.length co51:Value).ownBlock∧some k_≠(.slice Ao50 y222.length co50:Value).ownBlock∧k_≠gb205∧k_≠gb218∧k_≠gb236) (.slice Ao40 t209.length co40) t209):=⟨(by rw [hw];exact (by (with_reducible repeat (first|apply zL|apply zK|apply zM));exact zO (zS (p:=⟨gb236,2,none⟩) (zS (p:=⟨gb236,1,none⟩) (zS (p:=⟨gb236,0,none⟩) (zO HO211.out (fun k_ hk=>(⟨hk,hk.2⟩:_∧k_≠gb236))) (fun _ hk=>hk.2) (.slice Ao54 t225.length co54)) (fun _ hk=>hk.2) (.slice Ao58 t228.length co58)) (fun _ hk=>hk.2) (.slice Ao59 t231.length co59)) (fun _ hk=>⟨hk.1.1.1.2,⟨hk.1.1.2,⟨hk.1.1.1.1.1,⟨hk.1.1.1.1.2,hk.1.2⟩⟩⟩⟩)))⟩;have n8_:zN (Kd.V (Kd.int .i64) 3 w60 w.heap.size (fun k_=>some k_≠(.slice Ao51 y219.length co51:Value).ownBlock∧some k_≠(.slice Ao50 y222.length co50:Value).ownBlock∧k_≠gb205∧k_≠gb218∧k_≠gb236) (.slice Ao43 t212.length co43) t212):=⟨(by rw [hw];exact (by (with_reducible repeat (first|apply zL|apply zK|apply zM));exact zO (zS (p:=⟨gb236,2,none⟩) (zS (p:=⟨gb236,1,none⟩) (zS (p:=⟨gb236,0,none⟩) (zO HO214.out (fun k_ hk=>(⟨hk,hk.2⟩:_∧k_≠gb236))) (fun _ hk=>hk.2) (.slice Ao54 t225.length co54)) (fun _ hk=>hk.2) (.slice Ao58 t228.length co58)) (fun _ hk=>hk.2) (.slice Ao59 t231.length co59)) (fun _ hk=>⟨hk.1.1.1.2,⟨hk.1.1.2,⟨hk.1.1.1.1.1,⟨hk.1.1.1.1.2,hk.1.2⟩⟩⟩⟩)))⟩;have n9_:zN (Kd.V (Kd.int .i64) 3 w60 w.heap.size (fun k_=>some k_≠(.slice Ao51 y219.length co51:Value).ownBlock∧some k_≠(.slice Ao50 y222.length co50:Value).ownBlock∧k_≠gb205∧k_≠gb218∧k_≠gb236) (.slice Ao44 t215.length co44) t215):=⟨(by rw [hw];exact (by (with_reducible repeat (first|apply zL|apply zK|apply zM));exact zO (zS (p:=⟨gb236,2,none⟩) (zS (p:=⟨gb236,1,none⟩) (zS (p:=⟨gb236,0,none⟩) (zO HO217.out (fun k_ hk=>(⟨hk,hk.2⟩:_∧k_≠gb236))) (fun _ hk=>hk.2) (.slice Ao54 t225.length co54)) (fun _ hk=>hk.2) (.slice Ao58 t228.length co58)) (fun _ hk=>hk.2) (.slice Ao59 t231.length co59)) (fun _ hk=>⟨hk.1.1.1.2,⟨hk.1.1.2,⟨hk.1.1.1.1.1,⟨hk.1.1.1.1.2,hk.1.2⟩⟩⟩⟩)))⟩;have n10_:zN (Kd.R (Kd.int .i64) 3 w60 w.heap.size (fun k_=>some k_≠(.slice Ao37 y206.length co37:Value).ownBlock∧some k_≠(.slice Ao50 y222.length co50:Value).ownBlock) (.slice Ao51 y219.length co51) y219):=⟨(by rw [hw];exact (by (with_reducible repeat (first|apply zR|apply zQ|apply zU));exact yB (zT (p:=⟨gb236,2,none⟩) (zT (p:=⟨gb236,1,none⟩) (zT (p:=⟨gb236,0,none⟩) (zX HO221.out BK236.out (by decide)) (fun _ hk=>hk.2) (.slice Ao54 t225.length co54)) (fun _ hk=>hk.2) (.slice Ao58 t228.length co58)) (fun _ hk=>hk.2) (.slice Ao59 t231.length co59)) (fun _ hk=>⟨hk.1.1.2,hk.1.2⟩)))⟩;have n11_:zN (Kd.R (Kd.int .i64) 3 w60 w.heap.size (fun k_=>some k_≠(.slice Ao37 y206.length co37:Value).ownBlock∧some k_≠(.slice Ao51 y219.length co51:Value).ownBlock) (.slice Ao50 y222.length co50) y222):=⟨(by rw [hw];exact (by (with_reducible repeat (first|apply zR|apply zQ|apply zU));exact yB (zT (p:=⟨gb236,2,none⟩) (zT (p:=⟨gb236,1,none⟩) (zT (p:=⟨gb236,0,none⟩) (zX HO224.out BK236.out (by decide)) (fun _ hk=>hk.2) (.slice Ao54 t225.length co54)) (fun _ hk=>hk.2) (.slice Ao58 t228.length co58)) (fun _ hk=>hk.2) (.slice Ao59 t231.length co59)) (fun _ hk=>⟨hk.1.1.2,hk.1.2⟩)))⟩;have n12_:zN (Kd.V (Kd.int .i64) 3 w60 w.heap.size (fun k_=>some k_≠(.slice Ao37 y206.length co37:Value).ownBlock∧k_≠gb205∧k_≠gb218∧k_≠gb236) (.slice Ao54 t225.length co54) t225):=⟨(by rw [hw];exact (by (with_reducible repeat (first|apply zL|apply zK|apply zM));exact zO (zS (p:=⟨gb236,2,none⟩) (zS (p:=⟨gb236,1,none⟩) (zS (p:=⟨gb236,0,none⟩) (zO HO227.out (fun k_ hk=>(⟨hk,hk.2⟩:_∧k_≠gb236))) (fun _ hk=>hk.2) (.slice Ao54 t225.length co54)) (fun _ hk=>hk.2) (.slice Ao58 t228.length co58)) (fun _ hk=>hk.2) (.slice Ao59 t231.length co59)) (fun _ hk=>⟨hk.1.1.1,⟨hk.1.1.2.1,⟨hk.1.1.2.2,hk.1.2⟩⟩⟩)))⟩;have n13_:zN (Kd.V (Kd.int .i64) 3 w60 w.heap.size (fun k_=>some k_≠(.slice Ao37 y206.length co37:Value).ownBlock∧k_≠gb205∧k_≠gb218∧k_≠gb236) (.slice Ao58 t228.length co58) t228):=⟨(by rw [hw];exact (by (with_reducible repeat (first|apply zL|apply zK|apply zM));exact zO (zS (p:=⟨gb236,2,none⟩) (zS (p:=⟨gb236,1,none⟩) (zS (p:=⟨gb236,0,none⟩) (zO HO230.out (fun k_ hk=>(⟨hk,hk.2⟩:_∧k_≠gb236))) (fun _ hk=>hk.2) (.slice Ao54 t225.length co54)) (fun _ hk=>hk.2) (.slice Ao58 t228.length co58)) (fun _ hk=>hk.2) (.slice Ao59 t231.length co59)) (fun _ hk=>⟨hk.1.1.1,⟨hk.1.1.2.1,⟨hk.1.1.2.2,hk.1.2⟩⟩⟩)))⟩;have n14_:zN (Kd.V (Kd.int .i64) 3 w60 w.heap.size (fun k_=>some k_≠(.slice Ao37 y206.length co37:Value).ownBlock∧k_≠gb205∧k_≠gb218∧k_≠gb236) (.slice Ao59 t231.length co59) t231):=⟨(by rw [hw];exact (by (with_reducible repeat (first|apply zL|apply zK|apply zM));exact zO (zS (p:=⟨gb236,2,none⟩) (zS (p:=⟨gb236,1,none⟩) (zS (p:=⟨gb236,0,none⟩) (zO HO233.out (fun k_ hk=>(⟨hk,hk.2⟩:_∧k_≠gb236))) (fun _ hk=>hk.2) (.slice Ao54 t225.length co54)) (fun _ hk=>hk.2) (.slice Ao58 t228.length co58)) (fun _ hk=>hk.2) (.slice Ao59 t231.length co59)) (fun _ hk=>⟨hk.1.1.1,⟨hk.1.1.2.1,⟨hk.1.1.2.2,hk.1.2⟩⟩⟩)))⟩;have n15_:zN (w60.heap[gb205]?=some (.cells #[.slice Ao30 t196.length co30,.slice Ao32 t199.length co32,.slice Ao33 t202.length co33] 30 (0,0))):=⟨(by rw [hw];exact (by (with_reducible repeat (first|refine zB ?_ _|refine zF ?_|refine zA ?_ _));refine zY ?_ NB205_236.out _;(with_reducible repeat (first|refine zB ?_ _|refine zF ?_|refine zA ?_ _));refine zY ?_ NB205_236.out _;(with_reducible repeat (first|refine zB ?_ _|refine zF ?_|refine zA ?_ _));refine zY ?_ NB205_236.out _;(with_reducible repeat (first|refine zB ?_ _|refine zF ?_|refine zA ?_ _));exact BK205.out))⟩;have n16_:zN (w60.heap[gb218]?=some (.cells #[.slice Ao40 t209.length co40,.slice Ao43 t212.length co43,.slice Ao44 t215.length co44] 30 (0,0))):=⟨(by rw [hw];exact (by (with_reducible repeat (first|refine zB ?_ _|refine zF ?_|refine zA ?_ _));refine zY ?_ NB218_236.out _;(with_reducible repeat (first|refine zB ?_ _|refine zF ?_|refine zA ?_ _));refine zY ?_ NB218_236.out _;(with_reducible repeat (first|refine zB ?_ _|refine zF ?_|refine zA ?_ _));refine zY ?_ NB218_236.out _;(with_reducible repeat (first|refine zB ?_ _|refine zF ?_|refine zA ?_ _));exact BK218.out))⟩;have n17_:zN (w60.heap[gb236]?=some (.cells #[.slice Ao54 t225.length co54,.slice Ao58 t228.length co58,.slice Ao59 t231.length co59] 30 (0,0))):=⟨(by rw [hw];exact (by (with_reducible repeat (first|refine zB ?_ _|refine zF ?_|refine zA ?_ _));refine yE (cs:=#[.slice Ao54 t225.length co54,.slice Ao58 t228.length co58,.slice none 0 0]) ?_ 2 _ rfl;(with_reducible repeat (first|refine zB ?_ _|refine zF ?_|refine zA ?_ _));refine yE (cs:=#[.slice Ao54 t225.length co54,.slice none 0 0,.slice none 0 0]) ?_ 1 _ rfl;(with_reducible repeat (first|refine zB ?_ _|refine zF ?_|refine zA ?_ _));refine yE (cs:=#[.slice none 0 0,.slice none 0 0,.slice none 0 0]) ?_ 0 _ rfl;(with_reducible repeat (first|refine zB ?_ _|refine zF ?_|refine zA ?_ _));exact BK236.out))⟩;have n18_:zN (Below w.heap.size w w60):=⟨(by rw [hw];exact (by repeat (first|(with_reducible first|exact HB.out|apply zG|apply zD|apply zH|refine zC ?_ GE205.out|refine zC ?_ GE218.out|refine zC ?_ GE236.out)|exact HB.out)))⟩;clear hw;clear HO189;clear HO192;clear HO195;clear HO198;clear HO201;clear HO204;clear HO208;clear HO211;clear HO214;clear HO217;clear HO221;clear HO224;clear HO227;clear HO230;clear HO233;clear BK205;clear BK218;clear BK236;clear HB;have HO189:=n0_;have HO192:=n1_;have HO195:=n2_;have HO198:=n3_;have HO201:=n4_;have HO204:=n5_;have HO208:=n6_;have HO211:=n7_;have HO214:=n8_;have HO217:=n9_;have HO221:=n10_;have HO224:=n11_;have HO227:=n12_;have HO230:=n13_;have HO233:=n14_;have BK205:=n15_;have BK218:=n16_;have BK236:=n17_;have HB:=n18_;clear n0_ n1_ n2_ n3_ n4_ n5_ n6_ n7_ n8_ n9_ n10_ n11_ n12_ n13_ n14_ n15_ n16_ n17_ n18_;have hcz61_0:w60.cell? ⟨gb236,0,none⟩=some (.slice Ao54 t225.length co54):=(zJ BK236.out 0).trans rfl;have hcz61_1:w60.cell? ⟨gb236,1,none⟩=some (.slice Ao58 t228.length co58):=(zJ BK236.out 1).trans rfl;have hcz61_2:w60.cell? ⟨gb236,2,none⟩=some (.slice Ao59 t231.length co59):=(zJ BK236.out 2).trans rfl;have hfz61_0:=zI BK236.out 0;have hfz61_1:=zI BK236.out 1;have hfz61_2:=zI BK236.out 2)|((with_reducible refine yD (f:=19) rfl ?_);refine yM (some 37) rfl rfl Tryd.func19 (by kernel_rfl) rfl #[.agg #[.slice Ao54 t225.length co54,.slice Ao58 t228.length co58,.slice Ao59 t231.length co59]] rfl (by (try simp only [List.map_toArray,List.map_cons,List.map_nil]);first|done|rfl|(simp only [List.length_drop,List.length_take];rfl)) ?_;(with_reducible refine (signal_Next.calls k (fun k_=>(some k_≠(.slice Ao37 y206.length co37:Value).ownBlock∧(k_≠gb205∧(k_≠gb218∧k_≠gb236)))) _ _ t225 (fun k_=>(some k_≠(.slice Ao37 y206.length co37:Value).ownBlock∧(k_≠gb205∧(k_≠gb218∧k_≠gb236)))) _ _ t228 (fun k_=>(some k_≠(.slice Ao37 y206.length co37:Value).ownBlock∧(k_≠gb205∧(k_≠gb218∧k_≠gb236)))) _ _ t231 t237 t240 t243 t246 t247 _ ?side1 ?side2 ?side3 A7.out).mono ?_);(case side1=>exact HO227.out);(case side2=>exact HO230.out);(case side3=>exact HO233.out);rintro e w62 ⟨v238,v241,v244,rfl,ho0,ho1,ho2,hb⟩;refine ⟨_,rfl,?_⟩;have n0_:=Zk (zV (by (with_reducible repeat (first|apply zL|apply zK|apply zM));exact HO189.out) hb);have n1_:=Zk (zV (by (with_reducible repeat (first|apply zL|apply zK|apply zM));exact HO192.out) hb);have n2_:=Zk (zV (by (with_reducible repeat (first|apply zL|apply zK|apply zM));exact HO195.out) hb);have n3_:=Zk (zV (by (with_reducible repeat (first|apply zL|apply zK|apply zM));exact HO198.out) hb);have n4_:=Zk (zV (by (with_reducible repeat (first|apply zL|apply zK|apply zM));exact HO201.out) hb);have n5_:=Zk (zV (by (with_reducible repeat (first|apply zL|apply zK|apply zM));exact HO204.out) hb);have n6_:=Zk (R_below (by (with_reducible repeat (first|apply zR|apply zQ|apply zU));exact HO208.out) hb);have n7_:=Zk (zV (by (with_reducible repeat (first|apply zL|apply zK|apply zM));exact HO211.out) hb);have n8_:=Zk (zV (by (with_reducible repeat (first|apply zL|apply zK|apply zM));exact HO214.out) hb);have n9_:=Zk (zV (by (with_reducible repeat (first|apply zL|apply zK|apply zM));exact HO217.out) hb);have n10_:=Zk (R_below (by (with_reducible repeat (first|apply zR|apply zQ|apply zU));exact HO221.out) hb);have n11_:=Zk (R_below (by (with_reducible repeat (first|apply zR|apply zQ|apply zU));exact HO224.out) hb);have n12_:=Zk (zV (by (with_reducible repeat (first|apply zL|apply zK|apply zM));exact HO227.out) hb);have n13_:=Zk (zV (by (with_reducible repeat (first|apply zL|apply zK|apply zM));exact HO230.out) hb);have n14_:=Zk (zV (by (with_reducible repeat (first|apply zL|apply zK|apply zM));exact HO233.out) hb);have n15_:=Zk (V_lower (zO (ok':=fun k_=>some k_≠(.slice Ao37 y206.length co37:Value).ownBlock∧k_≠gb205∧k_≠gb218∧k_≠gb236) ho0 (fun k_ hk_=>⟨Or.elim hk_ (fun hs_=>Or.elim hs_ (fun hs_=>hs_.1) (fun hs_=>Or.elim hs_ (fun hs_=>hs_.1) (fun hs_=>hs_.1))) (fun hn_=>(Kd.fresh' (R_lt (by (with_reducible repeat (first|apply zR|apply zQ|apply zU));exact HO208.out)) k_ hn_)),Or.elim hk_ (fun hs_=>Or.elim hs_ (fun hs_=>hs_.2.1) (fun hs_=>Or.elim hs_ (fun hs_=>hs_.2.1) (fun hs_=>hs_.2.1))) (fun hn_=>(Kd.freshB (g:=gb205) (o:=.cells #[.slice Ao30 t196.length co30,.slice Ao32 t199.length co32,.slice Ao33 t202.length co33] 30 (0,0)) (by (with_reducible repeat (first|refine zB ?_ _|refine zF ?_|refine zA ?_ _));exact BK205.out) k_ hn_)),Or.elim hk_ (fun hs_=>Or.elim hs_ (fun hs_=>hs_.2.2.1) (fun hs_=>Or.elim hs_ (fun hs_=>hs_.2.2.1) (fun hs_=>hs_.2.2.1))) (fun hn_=>(Kd.freshB (g:=gb218) (o:=.cells #[.slice Ao40 t209.length co40,.slice Ao43 t212.length co43,.slice Ao44 t215.length co44] 30 (0,0)) (by (with_reducible repeat (first|refine zB ?_ _|refine zF ?_|refine zA ?_ _));exact BK218.out) k_ hn_)),Or.elim hk_ (fun hs_=>Or.elim hs_ (fun hs_=>hs_.2.2.2) (fun hs_=>Or.elim hs_ (fun hs_=>hs_.2.2.2) (fun hs_=>hs_.2.2.2))) (fun hn_=>(Kd.freshB (g:=gb236) (o:=.cells #[.slice Ao54 t225.length co54,.slice Ao58 t228.length co58,.slice Ao59 t231.length co59] 30 (0,0)) (by (with_reducible repeat (first|refine zB ?_ _|refine zF ?_|refine zA ?_ _));exact BK236.out) k_ hn_))⟩)) (zP (by repeat (first|(with_reducible first|exact HB.out|apply zG|apply zD|apply zH|refine zC ?_ GE205.out|refine zC ?_ GE218.out|refine zC ?_ GE236.out)|exact HB.out))));have n16_:=Zk (V_lower (zO (ok':=fun k_=>some k_≠(.slice Ao37 y206.length co37:Value).ownBlock∧k_≠gb205∧k_≠gb218∧k_≠gb236) ho1 (fun k_ hk_=>⟨Or.elim hk_ (fun hs_=>Or.elim hs_ (fun hs_=>hs_.1) (fun hs_=>Or.elim hs_ (fun hs_=>hs_.1) (fun hs_=>hs_.1))) (fun hn_=>(Kd.fresh' (R_lt (by (with_reducible repeat (first|apply zR|apply zQ|apply zU));exact HO208.out)) k_ hn_)),Or.elim hk_ (fun hs_=>Or.elim hs_ (fun hs_=>hs_.2.1) (fun hs_=>Or.elim hs_ (fun hs_=>hs_.2.1) (fun hs_=>hs_.2.1))) (fun hn_=>(Kd.freshB (g:=gb205) (o:=.cells #[.slice Ao30 t196.length co30,.slice Ao32 t199.length co32,.slice Ao33 t202.length co33] 30 (0,0)) (by (with_reducible repeat (first|refine zB ?_ _|refine zF ?_|refine zA ?_ _));exact BK205.out) k_ hn_)),Or.elim hk_ (fun hs_=>Or.elim hs_ (fun hs_=>hs_.2.2.1) (fun hs_=>Or.elim hs_ (fun hs_=>hs_.2.2.1) (fun hs_=>hs_.2.2.1))) (fun hn_=>(Kd.freshB (g:=gb218) (o:=.cells #[.slice Ao40 t209.length co40,.slice Ao43 t212.length co43,.slice Ao44 t215.length co44] 30 (0,0)) (by (with_reducible repeat (first|refine zB ?_ _|refine zF ?_|refine zA ?_ _));exact BK218.out) k_ hn_)),Or.elim hk_ (fun hs_=>Or.elim hs_ (fun hs_=>hs_.2.2.2) (fun hs_=>Or.elim hs_ (fun hs_=>hs_.2.2.2) (fun hs_=>hs_.2.2.2))) (fun hn_=>(Kd.freshB (g:=gb236) (o:=.cells #[.slice Ao54 t225.length co54,.slice Ao58 t228.length co58,.slice Ao59 t231.length co59] 30 (0,0)) (by (with_reducible repeat (first|refine zB ?_ _|refine zF ?_|refine zA ?_ _));exact BK236.out) k_ hn_))⟩)) (zP (by repeat (first|(with_reducible first|exact HB.out|apply zG|apply zD|apply zH|refine zC ?_ GE205.out|refine zC ?_ GE218.out|refine zC ?_ GE236.out)|exact HB.out))));have n17_:=Zk (V_lower (zO (ok':=fun k_=>some k_≠(.slice Ao37 y206.length co37:Value).ownBlock∧k_≠gb205∧k_≠gb218∧k_≠gb236) ho2 (fun k_ hk_=>⟨Or.elim hk_ (fun hs_=>Or.elim hs_ (fun hs_=>hs_.1) (fun hs_=>Or.elim hs_ (fun hs_=>hs_.1) (fun hs_=>hs_.1))) (fun hn_=>(Kd.fresh' (R_lt (by (with_reducible repeat (first|apply zR|apply zQ|apply zU));exact HO208.out)) k_ hn_)),Or.elim hk_ (fun hs_=>Or.elim hs_ (fun hs_=>hs_.2.1) (fun hs_=>Or.elim hs_ (fun hs_=>hs_.2.1) (fun hs_=>hs_.2.1))) (fun hn_=>(Kd.freshB (g:=gb205) (o:=.cells #[.slice Ao30 t196.length co30,.slice Ao32 t199.length co32,.slice Ao33 t202.length co33] 30 (0,0)) (by (with_reducible repeat (first|refine zB ?_ _|refine zF ?_|refine zA ?_ _));exact BK205.out) k_ hn_)),Or.elim hk_ (fun hs_=>Or.elim hs_ (fun hs_=>hs_.2.2.1) (fun hs_=>Or.elim hs_ (fun hs_=>hs_.2.2.1) (fun hs_=>hs_.2.2.1))) (fun hn_=>(Kd.freshB (g:=gb218) (o:=.cells #[.slice Ao40 t209.length co40,.slice Ao43 t212.length co43,.slice Ao44 t215.length co44] 30 (0,0)) (by (with_reducible repeat (first|refine zB ?_ _|refine zF ?_|refine zA ?_ _));exact BK218.out) k_ hn_)),Or.elim hk_ (fun hs_=>Or.elim hs_ (fun hs_=>hs_.2.2.2) (fun hs_=>Or.elim hs_ (fun hs_=>hs_.2.2.2) (fun hs_=>hs_.2.2.2))) (fun hn_=>(Kd.freshB (g:=gb236) (o:=.cells #[.slice Ao54 t225.length co54,.slice Ao58 t228.length co58,.slice Ao59 t231.length co59] 30 (0,0)) (by (with_reducible repeat (first|refine zB ?_ _|refine zF ?_|refine zA ?_ _));exact BK236.out) k_ hn_))⟩)) (zP (by repeat (first|(with_reducible first|exact HB.out|apply zG|apply zD|apply zH|refine zC ?_ GE205.out|refine zC ?_ GE218.out|refine zC ?_ GE236.out)|exact HB.out))));have n18_:=Zk (zW (g:=gb205) (o:=.cells #[.slice Ao30 t196.length co30,.slice Ao32 t199.length co32,.slice Ao33 t202.length co33] 30 (0,0)) (by (with_reducible repeat (first|refine zB ?_ _|refine zF ?_|refine zA ?_ _));exact BK205.out) hb);have n19_:=Zk (zW (g:=gb218) (o:=.cells #[.slice Ao40 t209.length co40,.slice Ao43 t212.length co43,.slice Ao44 t215.length co44] 30 (0,0)) (by (with_reducible repeat (first|refine zB ?_ _|refine zF ?_|refine zA ?_ _));exact BK218.out) hb);have n20_:=Zk (zW (g:=gb236) (o:=.cells #[.slice Ao54 t225.length co54,.slice Ao58 t228.length co58,.slice Ao59 t231.length co59] 30 (0,0)) (by (with_reducible repeat (first|refine zB ?_ _|refine zF ?_|refine zA ?_ _));exact BK236.out) hb);have n21_:=Zk (yA (by repeat (first|(with_reducible first|exact HB.out|apply zG|apply zD|apply zH|refine zC ?_ GE205.out|refine zC ?_ GE218.out|refine zC ?_ GE236.out)|exact HB.out)) hb);clear HO189;clear HO192;clear HO195;clear HO198;clear HO201;clear HO204;clear HO208;clear HO211;clear HO214;clear HO217;clear HO221;clear HO224;clear HO227;clear HO230;clear HO233;clear BK205;clear BK218;clear BK236;clear HB;have HO189:=n0_;have HO192:=n1_;have HO195:=n2_;have HO198:=n3_;have HO201:=n4_;have HO204:=n5_;have HO208:=n6_;have HO211:=n7_;have HO214:=n8_;have HO217:=n9_;have HO221:=n10_;have HO224:=n11_;have HO227:=n12_;have HO230:=n13_;have HO233:=n14_;have HO239:=n15_;have HO242:=n16_;have HO245:=n17_;have BK205:=n18_;have BK218:=n19_;have BK236:=n20_;have HB:=n21_;clear n0_ n1_ n2_ n3_ n4_ n5_ n6_ n7_ n8_ n9_ n10_ n11_ n12_ n13_ n14_ n15_ n16_ n17_ n18_ n19_ n20_ n21_;(try clear hb);(try clear hb2);(try clear hk);(try clear hi);(try clear ho0);(try clear ho1);(try clear ho2))|((with_reducible refine yT (N:=10) rfl ?_);(try (refine gate_guard (by rfl) ?_;dsimp only));refine yV ?hg (N:=10) ?hd (cs:=#[.slice none 0 0,.slice none 0 0,.slice none 0 0]) (t:=30) ?hr ?_;(case hd=>rfl);(case hg=>rfl);(case hr=>first|(go_simp;done)|(go_simp;rfl));intro gb248 hg w63 hbox hb;have n0_:=Zk (zV (yC (by (with_reducible repeat (first|apply zL|apply zK|apply zM));exact HO189.out) gb248 (Nat.le_of_eq hg.symm)) hb);have n1_:=Zk (zV (yC (by (with_reducible repeat (first|apply zL|apply zK|apply zM));exact HO192.out) gb248 (Nat.le_of_eq hg.symm)) hb);have n2_:=Zk (zV (yC (by (with_reducible repeat (first|apply zL|apply zK|apply zM));exact HO195.out) gb248 (Nat.le_of_eq hg.symm)) hb);have n3_:=Zk (zV (yC (by (with_reducible repeat (first|apply zL|apply zK|apply zM));exact HO198.out) gb248 (Nat.le_of_eq hg.symm)) hb);have n4_:=Zk (zV (yC (by (with_reducible repeat (first|apply zL|apply zK|apply zM));exact HO201.out) gb248 (Nat.le_of_eq hg.symm)) hb);have n5_:=Zk (zV (yC (by (with_reducible repeat (first|apply zL|apply zK|apply zM));exact HO204.out) gb248 (Nat.le_of_eq hg.symm)) hb);have n6_:=Zk (R_below (by (with_reducible repeat (first|apply zR|apply zQ|apply zU));exact HO208.out) hb);have n7_:=Zk (zV (yC (by (with_reducible repeat (first|apply zL|apply zK|apply zM));exact HO211.out) gb248 (Nat.le_of_eq hg.symm)) hb);have n8_:=Zk (zV (yC (by (with_reducible repeat (first|apply zL|apply zK|apply zM));exact HO214.out) gb248 (Nat.le_of_eq hg.symm)) hb);have n9_:=Zk (zV (yC (by (with_reducible repeat (first|apply zL|apply zK|apply zM));exact HO217.out) gb248 (Nat.le_of_eq hg.symm)) hb);have n10_:=Zk (R_below (by (with_reducible repeat (first|apply zR|apply zQ|apply zU));exact HO221.out) hb);have n11_:=Zk (R_below (by (with_reducible repeat (first|apply zR|apply zQ|apply zU));exact HO224.out) hb);have n12_:=Zk (zV (yC (by (with_reducible repeat (first|apply zL|apply zK|apply zM));exact HO227.out) gb248 (Nat.le_of_eq hg.symm)) hb);have n13_:=Zk (zV (yC (by (with_reducible repeat (first|apply zL|apply zK|apply zM));exact HO230.out) gb248 (Nat.le_of_eq hg.symm)) hb);have n14_:=Zk (zV (yC (by (with_reducible repeat (first|apply zL|apply zK|apply zM));exact HO233.out) gb248 (Nat.le_of_eq hg.symm)) hb);have n15_:=Zk (zV (yC (by (with_reducible repeat (first|apply zL|apply zK|apply zM));exact HO239.out) gb248 (Nat.le_of_eq hg.symm)) hb);have n16_:=Zk (zV (yC (by (with_reducible repeat (first|apply zL|apply zK|apply zM));exact HO242.out) gb248 (Nat.le_of_eq hg.symm)) hb);have n17_:=Zk (zV (yC (by (with_reducible repeat (first|apply zL|apply zK|apply zM));exact HO245.out) gb248 (Nat.le_of_eq hg.symm)) hb);have n18_:=Zk (zW (g:=gb205) (o:=.cells #[.slice Ao30 t196.length co30,.slice Ao32 t199.length co32,.slice Ao33 t202.length co33] 30 (0,0)) (by (with_reducible repeat (first|refine zB ?_ _|refine zF ?_|refine zA ?_ _));exact BK205.out) hb);have n19_:=Zk (zW (g:=gb218) (o:=.cells #[.slice Ao40 t209.length co40,.slice Ao43 t212.length co43,.slice Ao44 t215.length co44] 30 (0,0)) (by (with_reducible repeat (first|refine zB ?_ _|refine zF ?_|refine zA ?_ _));exact BK218.out) hb);have n20_:=Zk (zW (g:=gb236) (o:=.cells #[.slice Ao54 t225.length co54,.slice Ao58 t228.length co58,.slice Ao59 t231.length co59] 30 (0,0)) (by (with_reducible repeat (first|refine zB ?_ _|refine zF ?_|refine zA ?_ _));exact BK236.out) hb);have n21_:=Zk (yA (by repeat (first|(with_reducible first|exact HB.out|apply zG|apply zD|apply zH|refine zC ?_ GE205.out|refine zC ?_ GE218.out|refine zC ?_ GE236.out)|exact HB.out)) hb);have n22_:=Zk (hbox);have n23_:=Zk ((by rw [hg];exact (zP (by repeat (first|(with_reducible first|exact HB.out|apply zG|apply zD|apply zH|refine zC ?_ GE205.out|refine zC ?_ GE218.out|refine zC ?_ GE236.out)|exact HB.out))):w.heap.size≤gb248));have n24_:=Zk ((by rw [hg];exact (zP (by repeat (first|(with_reducible first|exact HB.out|apply zG|apply zD|apply zH|refine zC ?_ GE205.out|refine zC ?_ GE218.out|refine zC ?_ GE236.out)|exact HB.out))):w.heap.size≤gb248));have n25_:=Zk ((by rw [hg];exact Nat.ne_of_lt (yN (g:=gb205) (o:=.cells #[.slice Ao30 t196.length co30,.slice Ao32 t199.length co32,.slice Ao33 t202.length co33] 30 (0,0)) (by (with_reducible repeat (first|refine zB ?_ _|refine zF ?_|refine zA ?_ _));exact BK205.out)):gb205≠gb248));have n26_:=Zk ((by rw [hg];exact Nat.ne_of_gt (yN (g:=gb205) (o:=.cells #[.slice Ao30 t196.length co30,.slice Ao32 t199.length co32,.slice Ao33 t202.length co33] 30 (0,0)) (by (with_reducible repeat (first|refine zB ?_ _|refine zF ?_|refine zA ?_ _));exact BK205.out)):gb248≠gb205));have n27_:=Zk ((by rw [hg];exact Nat.ne_of_lt (yN (g:=gb218) (o:=.cells #[.slice Ao40 t209.length co40,.slice Ao43 t212.length co43,.slice Ao44 t215.length co44] 30 (0,0)) (by (with_reducible repeat (first|refine zB ?_ _|refine zF ?_|refine zA ?_ _));exact BK218.out)):gb218≠gb248));have n28_:=Zk ((by rw [hg];exact Nat.ne_of_gt (yN (g:=gb218) (o:=.cells #[.slice Ao40 t209.length co40,.slice Ao43 t212.length co43,.slice Ao44 t215.length co44] 30 (0,0)) (by (with_reducible repeat (first|refine zB ?_ _|refine zF ?_|refine zA ?_ _));exact BK218.out)):gb248≠gb218));have n29_:=Zk ((by rw [hg];exact Nat.ne_of_lt (yN (g:=gb236) (o:=.cells #[.slice Ao54 t225.length co54,.slice Ao58 t228.length co58,.slice Ao59 t231.length co59] 30 (0,0)) (by (with_reducible repeat (first|refine zB ?_ _|refine zF ?_|refine zA ?_ _));exact BK236.out)):gb236≠gb248));have n30_:=Zk ((by rw [hg];exact Nat.ne_of_gt (yN (g:=gb236) (o:=.cells #[.slice Ao54 t225.length co54,.slice Ao58 t228.length co58,.slice Ao59 t231.length co59] 30 (0,0)) (by (with_reducible repeat (first|refine zB ?_ _|refine zF ?_|refine zA ?_ _));exact BK236.out)):gb248≠gb236));clear HO189;clear HO192;clear HO195;clear HO198;clear HO201;clear HO204;clear HO208;clear HO211;clear HO214;clear HO217;clear HO221;clear HO224;clear HO227;clear HO230;clear HO233;clear HO239;clear HO242;clear HO245;clear BK205;clear BK218;clear BK236;clear HB;have HO189:=n0_;have HO192:=n1_;have HO195:=n2_;have HO198:=n3_;have HO201:=n4_;have HO204:=n5_;have HO208:=n6_;have HO211:=n7_;have HO214:=n8_;have HO217:=n9_;have HO221:=n10_;have HO224:=n11_;have HO227:=n12_;have HO230:=n13_;have HO233:=n14_;have HO239:=n15_;have HO242:=n16_;have HO245:=n17_;have BK205:=n18_;have BK218:=n19_;have BK236:=n20_;have HB:=n21_;have BK248:=n22_;have GW248:=n23_;have GE248:=n24_;have NB205_248:=n25_;have NB248_205:=n26_;have NB218_248:=n27_;have NB248_218:=n28_;have NB236_248:=n29_;have NB248_236:=n30_;clear n0_ n1_ n2_ n3_ n4_ n5_ n6_ n7_ n8_ n9_ n10_ n11_ n12_ n13_ n14_ n15_ n16_ n17_ n18_ n19_ n20_ n21_ n22_ n23_ n24_ n25_ n26_ n27_ n28_ n29_ n30_;clear hb hbox hg;obtain ⟨Ao64,co64,eo64⟩:=V_slice HO239.out;subst eo64;have hnb65:=NB248_205.out;have hnc65:=NB205_248.out;have hnb66:=NB248_218.out;have hnc66:=NB218_248.out;have hnb67:=NB248_236.out;have hnc67:=NB236_248.out;have hcz68_0:w63.cell? ⟨gb248,0,none⟩=some (.slice none 0 0):=(zJ BK248.out 0).trans rfl;have hcz68_1:w63.cell? ⟨gb248,1,none⟩=some (.slice none 0 0):=(zJ BK248.out 1).trans rfl;have hcz68_2:w63.cell? ⟨gb248,2,none⟩=some (.slice none 0 0):=(zJ BK248.out 2).trans rfl;have hfz68_0:=zI BK248.out 0;have hfz68_1:=zI BK248.out 1;have hfz68_2:=zI BK248.out 2;obtain ⟨Ao69,co69,eo69⟩:=V_slice HO242.out;subst eo69;obtain ⟨Ao70,co70,eo70⟩:=V_slice HO245.out;subst eo70)|((with_reducible refine xA (t:=30) (p:=10) rfl ?_);refine yY (t:=30) (p:=10) (v:=?vo_w71) (w1:=(((w63.setCell ⟨gb248,0,none⟩ (.slice Ao64 t237.length co64)).setCell ⟨gb248,1,none⟩ (.slice Ao69 t240.length co69)).setCell ⟨gb248,2,none⟩ (.slice Ao70 t243.length co70))) ?hg ?ho ?hn ?hr ?_;(case ho=>rfl);(case hg=>rfl);(case hn=>rfl);(case hr=>first|(go_simp;done)|(go_simp;rfl));intro w71 hw;have n0_:zN (Kd.V (Kd.int .i64) 3 w71 w.heap.size (fun k_=>some k_≠(.slice Ao37 y206.length co37:Value).ownBlock∧some k_≠(.slice Ao51 y219.length co51:Value).ownBlock∧some k_≠(.slice Ao50 y222.length co50:Value).ownBlock∧k_≠gb205∧k_≠gb218∧k_≠gb236∧k_≠gb248) (.slice Ao25 t187.length co25) t187):=⟨(by rw [hw];exact (by (with_reducible repeat (first|apply zL|apply zK|apply zM));exact zO (zS (p:=⟨gb248,2,none⟩) (zS (p:=⟨gb248,1,none⟩) (zS (p:=⟨gb248,0,none⟩) (zO HO189.out (fun k_ hk=>(⟨hk,hk.2⟩:_∧k_≠gb248))) (fun _ hk=>hk.2) (.slice Ao64 t237.length co64)) (fun _ hk=>hk.2) (.slice Ao69 t240.length co69)) (fun _ hk=>hk.2) (.slice Ao70 t243.length co70)) (fun _ hk=>⟨hk.1.1.1,⟨hk.1.1.2.1,⟨hk.1.1.2.2.1,⟨hk.1.1.2.2.2.1,⟨hk.1.1.2.2.2.2.1,⟨hk.1.1.2.2.2.2.2,hk.1.2⟩⟩⟩⟩⟩⟩)))⟩;have n1_:zN (Kd.V (Kd.int .i64) 3 w71 w.heap.size (fun k_=>some k_≠(.slice Ao37 y206.length co37:Value).ownBlock∧some k_≠(.slice Ao51 y219.length co51:Value).ownBlock∧some k_≠(.slice Ao50 y222.length co50:Value).ownBlock∧k_≠gb205∧k_≠gb218∧k_≠gb236∧k_≠gb248) (.slice Ao26 t190.length co26) t190):=⟨(by rw [hw];exact (by (with_reducible repeat (first|apply zL|apply zK|apply zM));exact zO (zS (p:=⟨gb248,2,none⟩) (zS (p:=⟨gb248,1,none⟩) (zS (p:=⟨gb248,0,none⟩) (zO HO192.out (fun k_ hk=>(⟨hk,hk.2⟩:_∧k_≠gb248))) (fun _ hk=>hk.2) (.slice Ao64 t237.length co64)) (fun _ hk=>hk.2) (.slice Ao69 t240.length co69)) (fun _ hk=>hk.2) (.slice Ao70 t243.length co70)) (fun _ hk=>⟨hk.1.1.1,⟨hk.1.1.2.1,⟨hk.1.1.2.2.1,⟨hk.1.1.2.2.2.1,⟨hk.1.1.2.2.2.2.1,⟨hk.1.1.2.2.2.2.2,hk.1.2⟩⟩⟩⟩⟩⟩)))⟩;have n2_:zN (Kd.V (Kd.int .i64) 3 w71 w.heap.size (fun k_=>some k_≠(.slice Ao37 y206.length co37:Value).ownBlock∧some k_≠(.slice Ao51 y219.length co51:Value).ownBlock∧some k_≠(.slice Ao50 y222.length co50:Value).ownBlock∧k_≠gb205∧k_≠gb218∧k_≠gb236∧k_≠gb248) (.slice Ao27 t193.length co27) t193):=⟨(by rw [hw];exact (by (with_reducible repeat (first|apply zL|apply zK|apply zM));exact zO (zS (p:=⟨gb248,2,none⟩) (zS (p:=⟨gb248,1,none⟩) (zS (p:=⟨gb248,0,none⟩) (zO HO195.out (fun k_ hk=>(⟨hk,hk.2⟩:_∧k_≠gb248))) (fun _ hk=>hk.2) (.slice Ao64 t237.length co64)) (fun _ hk=>hk.2) (.slice Ao69 t240.length co69)) (fun _ hk=>hk.2) (.slice Ao70 t243.length co70)) (fun _ hk=>⟨hk.1.1.1,⟨hk.1.1.2.1,⟨hk.1.1.2.2.1,⟨hk.1.1.2.2.2.1,⟨hk.1.1.2.2.2.2.1,⟨hk.1.1.2.2.2.2.2,hk.1.2⟩⟩⟩⟩⟩⟩)))⟩;have n3_:zN (Kd.V (Kd.int .i64) 3 w71 w.heap.size (fun k_=>some k_≠(.slice Ao37 y206.length co37:Value).ownBlock∧some k_≠(.slice Ao51 y219.length co51:Value).ownBlock∧some k_≠(.slice Ao50 y222.length co50:Value).ownBlock∧k_≠gb205∧k_≠gb218∧k_≠gb236∧k_≠gb248) (.slice Ao30 t196.length co30) t196):=⟨(by rw [hw];exact (by (with_reducible repeat (first|apply zL|apply zK|apply zM));exact zO (zS (p:=⟨gb248,2,none⟩) (zS (p:=⟨gb248,1,none⟩) (zS (p:=⟨gb248,0,none⟩) (zO HO198.out (fun k_ hk=>(⟨hk,hk.2⟩:_∧k_≠gb248))) (fun _ hk=>hk.2) (.slice Ao64 t237.length co64)) (fun _ hk=>hk.2) (.slice Ao69 t240.length co69)) (fun _ hk=>hk.2) (.slice Ao70 t243.length co70)) (fun _ hk=>⟨hk.1.1.1,⟨hk.1.1.2.1,⟨hk.1.1.2.2.1,⟨hk.1.1.2.2.2.1,⟨hk.1.1.2.2.2.2.1,⟨hk.1.1.2.2.2.2.2,hk.1.2⟩⟩⟩⟩⟩⟩)))⟩;have n4_:zN (Kd.V (Kd.int .i64) 3 w71 w.heap.size (fun k_=>some k_≠(.slice Ao37 y206.length co37:Value).ownBlock∧some k_≠(.slice Ao51 y219.length co51:Value).ownBlock∧some k_≠(.slice Ao50 y222.length co50:Value).ownBlock∧k_≠gb205∧k_≠gb218∧k_≠gb236∧k_≠gb248) (.slice Ao32 t199.length co32) t199):=⟨(by rw [hw];exact (by (with_reducible repeat (first|apply zL|apply zK|apply zM));exact zO (zS (p:=⟨gb248,2,none⟩) (zS (p:=⟨gb248,1,none⟩) (zS (p:=⟨gb248,0,none⟩) (zO HO201.out (fun k_ hk=>(⟨hk,hk.2⟩:_∧k_≠gb248))) (fun _ hk=>hk.2) (.slice Ao64 t237.length co64)) (fun _ hk=>hk.2) (.slice Ao69 t240.length co69)) (fun _ hk=>hk.2) (.slice Ao70 t243.length co70)) (fun _ hk=>⟨hk.1.1.1,⟨hk.1.1.2.1,⟨hk.1.1.2.2.1,⟨hk.1.1.2.2.2.1,⟨hk.1.1.2.2.2.2.1,⟨hk.1.1.2.2.2.2.2,hk.1.2⟩⟩⟩⟩⟩⟩)))⟩;have n5_:zN (Kd.V (Kd.int .i64) 3 w71 w.heap.size (fun k_=>some k_≠(.slice Ao37 y206.length co37:Value).ownBlock∧some k_≠(.slice Ao51 y219.length co51:Value).ownBlock∧some k_≠(.slice Ao50 y222.length co50:Value).ownBlock∧k_≠gb205∧k_≠gb218∧k_≠gb236∧k_≠gb248) (.slice Ao33 t202.length co33) t202):=⟨(by rw [hw];exact (by (with_reducible repeat (first|apply zL|apply zK|apply zM));exact zO (zS (p:=⟨gb248,2,none⟩) (zS (p:=⟨gb248,1,none⟩) (zS (p:=⟨gb248,0,none⟩) (zO HO204.out (fun k_ hk=>(⟨hk,hk.2⟩:_∧k_≠gb248))) (fun _ hk=>hk.2) (.slice Ao64 t237.length co64)) (fun _ hk=>hk.2) (.slice Ao69 t240.length co69)) (fun _ hk=>hk.2) (.slice Ao70 t243.length co70)) (fun _ hk=>⟨hk.1.1.1,⟨hk.1.1.2.1,⟨hk.1.1.2.2.1,⟨hk.1.1.2.2.2.1,⟨hk.1.1.2.2.2.2.1,⟨hk.1.1.2.2.2.2.2,hk.1.2⟩⟩⟩⟩⟩⟩)))⟩;have n6_:zN (Kd.R (Kd.int .i64) 3 w71 w.heap.size (fun k_=>some k_≠(.slice Ao51 y219.length co51:Value).ownBlock∧some k_≠(.slice Ao50 y222.length co50:Value).ownBlock) (.slice Ao37 y206.length co37) y206):=⟨(by rw [hw];exact (by (with_reducible repeat (first|apply zR|apply zQ|apply zU));exact yB (zT (p:=⟨gb248,2,none⟩) (zT (p:=⟨gb248,1,none⟩) (zT (p:=⟨gb248,0,none⟩) (zX HO208.out BK248.out (by decide)) (fun _ hk=>hk.2) (.slice Ao64 t237.length co64)) (fun _ hk=>hk.2) (.slice Ao69 t240.length co69)) (fun _ hk=>hk.2) (.slice Ao70 t243.length co70)) (fun _ hk=>⟨hk.1.1,hk.1.2⟩)))⟩;have n7_:zN (Kd.V (Kd.int .i64) 3 w71 w.heap.size (fun k_=>some k_≠(.slice Ao51 y219.length co51:Value).ownBlock∧some k_≠(.slice Ao50 y222.length co50:Value).ownBlock∧k_≠gb205∧k_≠gb218∧k_≠gb236∧k_≠gb248) (.slice Ao40 t209.length co40) t209):=⟨(by rw [hw];exact (by (with_reducible repeat (first|apply zL|apply zK|apply zM));exact zO (zS (p:=⟨gb248,2,none⟩) (zS (p:=⟨gb248,1,none⟩) (zS (p:=⟨gb248,0,none⟩) (zO HO211.out (fun k_ hk=>(⟨hk,hk.2⟩:_∧k_≠gb248))) (fun _ hk=>hk.2) (.slice Ao64 t237.length co64)) (fun _ hk=>hk.2) (.slice Ao69 t240.length co69)) (fun _ hk=>hk.2) (.slice Ao70 t243.length co70)) (fun _ hk=>⟨hk.1.1.1,⟨hk.1.1.2.1,⟨hk.1.1.2.2.1,⟨hk.1.1.2.2.2.1,⟨hk.1.1.2.2.2.2,hk.1.2⟩⟩⟩⟩⟩)))⟩;have n8_:zN (Kd.V (Kd.int .i64) 3 w71 w.heap.size (fun k_=>some k_≠(.slice Ao51 y219.length co51:Value).ownBlock∧some k_≠(.slice Ao50 y222.length co50:Value).ownBlock∧k_≠gb205∧k_≠gb218∧k_≠gb236∧k_≠gb248) (.slice Ao43 t212.length co43) t212):=⟨(by rw [hw];exact (by (with_reducible repeat (first|apply zL|apply zK|apply zM));exact zO (zS (p:=⟨gb248,2,none⟩) (zS (p:=⟨gb248,1,none⟩) (zS (p:=⟨gb248,0,none⟩) (zO HO214.out (fun k_ hk=>(⟨hk,hk.2⟩:_∧k_≠gb248))) (fun _ hk=>hk.2) (.slice Ao64 t237.length co64)) (fun _ hk=>hk.2) (.slice Ao69 t240.length co69)) (fun _ hk=>hk.2) (.slice Ao70 t243.length co70)) (fun _ hk=>⟨hk.1.1.1,⟨hk.1.1.2.1,⟨hk.1.1.2.2.1,⟨hk.1.1.2.2.2.1,⟨hk.1.1.2.2.2.2,hk.1.2⟩⟩⟩⟩⟩)))⟩;have n9_:zN (Kd.V (Kd.int .i64) 3 w71 w.heap.size (fun k_=>some k_≠(.slice Ao51 y219.length co51:Value).ownBlock∧some k_≠(.slice Ao50 y222.length co50:Value).ownBlock∧k_≠gb205∧k_≠gb218∧k_≠gb236∧k_≠gb248) (.slice Ao44 t215.length co44) t215):=⟨(by rw [hw];exact (by (with_reducible repeat (first|apply zL|apply zK|apply zM));exact zO (zS (p:=⟨gb248,2,none⟩) (zS (p:=⟨gb248,1,none⟩) (zS (p:=⟨gb248,0,none⟩) (zO HO217.out (fun k_ hk=>(⟨hk,hk.2⟩:_∧k_≠gb248))) (fun _ hk=>hk.2) (.slice Ao64 t237.length co64)) (fun _ hk=>hk.2) (.slice Ao69 t240.length co69)) (fun _ hk=>hk.2) (.slice Ao70 t243.length co70)) (fun _ hk=>⟨hk.1.1.1,⟨hk.1.1.2.1,⟨hk.1.1.2.2.1,⟨hk.1.1.2.2.2.1,⟨hk.1.1.2.2.2.2,hk.1.2⟩⟩⟩⟩⟩)))⟩;have n10_:zN (Kd.R (Kd.int .i64) 3 w71 w.heap.size (fun k_=>some k_≠(.slice Ao37 y206.length co37:Value).ownBlock∧some k_≠(.slice Ao50 y222.length co50:Value).ownBlock) (.slice Ao51 y219.length co51) y219):=⟨(by rw [hw];exact (by (with_reducible repeat (first|apply zR|apply zQ|apply zU));exact yB (zT (p:=⟨gb248,2,none⟩) (zT (p:=⟨gb248,1,none⟩) (zT (p:=⟨gb248,0,none⟩) (zX HO221.out BK248.out (by decide)) (fun _ hk=>hk.2) (.slice Ao64 t237.length co64)) (fun _ hk=>hk.2) (.slice Ao69 t240.length co69)) (fun _ hk=>hk.2) (.slice Ao70 t243.length co70)) (fun _ hk=>⟨hk.1.1,hk.1.2⟩)))⟩;have n11_:zN (Kd.R (Kd.int .i64) 3 w71 w.heap.size (fun k_=>some k_≠(.slice Ao37 y206.length co37:Value).ownBlock∧some k_≠(.slice Ao51 y219.length co51:Value).ownBlock) (.slice Ao50 y222.length co50) y222):=⟨(by rw [hw];exact (by (with_reducible repeat (first|apply zR|apply zQ|apply zU));exact yB (zT (p:=⟨gb248,2,none⟩) (zT (p:=⟨gb248,1,none⟩) (zT (p:=⟨gb248,0,none⟩) (zX HO224.out BK248.out (by decide)) (fun _ hk=>hk.2) (.slice Ao64 t237.length co64)) (fun _ hk=>hk.2) (.slice Ao69 t240.length co69)) (fun _ hk=>hk.2) (.slice Ao70 t243.length co70)) (fun _ hk=>⟨hk.1.1,hk.1.2⟩)))⟩;have n12_:zN (Kd.V (Kd.int .i64) 3 w71 w.heap.size (fun k_=>some k_≠(.slice Ao37 y206.length co37:Value).ownBlock∧k_≠gb205∧k_≠gb218∧k_≠gb236∧k_≠gb248) (.slice Ao54 t225.length co54) t225):=⟨(by rw [hw];exact (by (with_reducible repeat (first|apply zL|apply zK|apply zM));exact zO (zS (p:=⟨gb248,2,none⟩) (zS (p:=⟨gb248,1,none⟩) (zS (p:=⟨gb248,0,none⟩) (zO HO227.out (fun k_ hk=>(⟨hk,hk.2⟩:_∧k_≠gb248))) (fun _ hk=>hk.2) (.slice Ao64 t237.length co64)) (fun _ hk=>hk.2) (.slice Ao69 t240.length co69)) (fun _ hk=>hk.2) (.slice Ao70 t243.length co70)) (fun _ hk=>⟨hk.1.1.1,⟨hk.1.1.2.1,⟨hk.1.1.2.2.1,⟨hk.1.1.2.2.2,hk.1.2⟩⟩⟩⟩)))⟩;have n13_:zN (Kd.V (Kd.int .i64) 3 w71 w.heap.size (fun k_=>some k_≠(.slice Ao37 y206.length co37:Value).ownBlock∧k_≠gb205∧k_≠gb218∧k_≠gb236∧k_≠gb248) (.slice Ao58 t228.length co58) t228):=⟨(by rw [hw];exact (by (with_reducible repeat (first|apply zL|apply zK|apply zM));exact zO (zS (p:=⟨gb248,2,none⟩) (zS (p:=⟨gb248,1,none⟩) (zS (p:=⟨gb248,0,none⟩) (zO HO230.out (fun k_ hk=>(⟨hk,hk.2⟩:_∧k_≠gb248))) (fun _ hk=>hk.2) (.slice Ao64 t237.length co64)) (fun _ hk=>hk.2) (.slice Ao69 t240.length co69)) (fun _ hk=>hk.2) (.slice Ao70 t243.length co70)) (fun _ hk=>⟨hk.1.1.1,⟨hk.1.1.2.1,⟨hk.1.1.2.2.1,⟨hk.1.1.2.2.2,hk.1.2⟩⟩⟩⟩)))⟩;have n14_:zN (Kd.V (Kd.int .i64) 3 w71 w.heap.size (fun k_=>some k_≠(.slice Ao37 y206.length co37:Value).ownBlock∧k_≠gb205∧k_≠gb218∧k_≠gb236∧k_≠gb248) (.slice Ao59 t231.length co59) t231):=⟨(by rw [hw];exact (by (with_reducible repeat (first|apply zL|apply zK|apply zM));exact zO (zS (p:=⟨gb248,2,none⟩) (zS (p:=⟨gb248,1,none⟩) (zS (p:=⟨gb248,0,none⟩) (zO HO233.out (fun k_ hk=>(⟨hk,hk.2⟩:_∧k_≠gb248))) (fun _ hk=>hk.2) (.slice Ao64 t237.length co64)) (fun _ hk=>hk.2) (.slice Ao69 t240.length co69)) (fun _ hk=>hk.2) (.slice Ao70 t243.length co70)) (fun _ hk=>⟨hk.1.1.1,⟨hk.1.1.2.1,⟨hk.1.1.2.2.1,⟨hk.1.1.2.2.2,hk.1.2⟩⟩⟩⟩)))⟩;have n15_:zN (Kd.V (Kd.int .i64) 3 w71 w.heap.size (fun k_=>some k_≠(.slice Ao37 y206.length co37:Value).ownBlock∧k_≠gb205∧k_≠gb218∧k_≠gb236∧k_≠gb248) (.slice Ao64 t237.length co64) t237):=⟨(by rw [hw];exact (by (with_reducible repeat (first|apply zL|apply zK|apply zM));exact zO (zS (p:=⟨gb248,2,none⟩) (zS (p:=⟨gb248,1,none⟩) (zS (p:=⟨gb248,0,none⟩) (zO HO239.out (fun k_ hk=>(⟨hk,hk.2⟩:_∧k_≠gb248))) (fun _ hk=>hk.2) (.slice Ao64 t237.length co64)) (fun _ hk=>hk.2) (.slice Ao69 t240.length co69)) (fun _ hk=>hk.2) (.slice Ao70 t243.length co70)) (fun _ hk=>⟨hk.1.1.1,⟨hk.1.1.2.1,⟨hk.1.1.2.2.1,⟨hk.1.1.2.2.2,hk.1.2⟩⟩⟩⟩)))⟩;have n16_:zN (Kd.V (Kd.int .i64) 3 w71 w.heap.size (fun k_=>some k_≠(.slice Ao37 y206.length co37:Value).ownBlock∧k_≠gb205∧k_≠gb218∧k_≠gb236∧k_≠gb248) (.slice Ao69 t240.length co69) t240):=⟨(by rw [hw];exact (by (with_reducible repeat (first|apply zL|apply zK|apply zM));exact zO (zS (p:=⟨gb248,2,none⟩) (zS (p:=⟨gb248,1,none⟩) (zS (p:=⟨gb248,0,none⟩) (zO HO242.out (fun k_ hk=>(⟨hk,hk.2⟩:_∧k_≠gb248))) (fun _ hk=>hk.2) (.slice Ao64 t237.length co64)) (fun _ hk=>hk.2) (.slice Ao69 t240.length co69)) (fun _ hk=>hk.2) (.slice Ao70 t243.length co70)) (fun _ hk=>⟨hk.1.1.1,⟨hk.1.1.2.1,⟨hk.1.1.2.2.1,⟨hk.1.1.2.2.2,hk.1.2⟩⟩⟩⟩)))⟩;have n17_:zN (Kd.V (Kd.int .i64) 3 w71 w.heap.size (fun k_=>some k_≠(.slice Ao37 y206.length co37:Value).ownBlock∧k_≠gb205∧k_≠gb218∧k_≠gb236∧k_≠gb248) (.slice Ao70 t243.length co70) t243):=⟨(by rw [hw];exact (by (with_reducible repeat (first|apply zL|apply zK|apply zM));exact zO (zS (p:=⟨gb248,2,none⟩) (zS (p:=⟨gb248,1,none⟩) (zS (p:=⟨gb248,0,none⟩) (zO HO245.out (fun k_ hk=>(⟨hk,hk.2⟩:_∧k_≠gb248))) (fun _ hk=>hk.2) (.slice Ao64 t237.length co64)) (fun _ hk=>hk.2) (.slice Ao69 t240.length co69)) (fun _ hk=>hk.2) (.slice Ao70 t243.length co70)) (fun _ hk=>⟨hk.1.1.1,⟨hk.1.1.2.1,⟨hk.1.1.2.2.1,⟨hk.1.1.2.2.2,hk.1.2⟩⟩⟩⟩)))⟩;have n18_:zN (w71.heap[gb205]?=some (.cells #[.slice Ao30 t196.length co30,.slice Ao32 t199.length co32,.slice Ao33 t202.length co33] 30 (0,0))):=⟨(by rw [hw];exact (by (with_reducible repeat (first|refine zB ?_ _|refine zF ?_|refine zA ?_ _));refine zY ?_ NB205_248.out _;(with_reducible repeat (first|refine zB ?_ _|refine zF ?_|refine zA ?_ _));refine zY ?_ NB205_248.out _;(with_reducible repeat (first|refine zB ?_ _|refine zF ?_|refine zA ?_ _));refine zY ?_ NB205_248.out _;(with_reducible repeat (first|refine zB ?_ _|refine zF ?_|refine zA ?_ _));exact BK205.out))⟩;have n19_:zN (w71.heap[gb218]?=some (.cells #[.slice Ao40 t209.length co40,.slice Ao43 t212.length co43,.slice Ao44 t215.length co44] 30 (0,0))):=⟨(by rw [hw];exact (by (with_reducible repeat (first|refine zB ?_ _|refine zF ?_|refine zA ?_ _));refine zY ?_ NB218_248.out _;(with_reducible repeat (first|refine zB ?_ _|refine zF ?_|refine zA ?_ _));refine zY ?_ NB218_248.out _;(with_reducible repeat (first|refine zB ?_ _|refine zF ?_|refine zA ?_ _));refine zY ?_ NB218_248.out _;(with_reducible repeat (first|refine zB ?_ _|refine zF ?_|refine zA ?_ _));exact BK218.out))⟩;have n20_:zN (w71.heap[gb236]?=some (.cells #[.slice Ao54 t225.length co54,.slice Ao58 t228.length co58,.slice Ao59 t231.length co59] 30 (0,0))):=⟨(by rw [hw];exact (by (with_reducible repeat (first|refine zB ?_ _|refine zF ?_|refine zA ?_ _));refine zY ?_ NB236_248.out _;(with_reducible repeat (first|refine zB ?_ _|refine zF ?_|refine zA ?_ _));refine zY ?_ NB236_248.out _;(with_reducible repeat (first|refine zB ?_ _|refine zF ?_|refine zA ?_ _));refine zY ?_ NB236_248.out _;(with_reducible repeat (first|refine zB ?_ _|refine zF ?_|refine zA ?_ _));exact BK236.out))⟩;have n21_:zN (w71.heap[gb248]?=some (.cells #[.slice Ao64 t237.length co64,.slice Ao69 t240.length co69,.slice Ao70 t243.length co70] 30 (0,0))):=⟨(by rw [hw];exact (by (with_reducible repeat (first|refine zB ?_ _|refine zF ?_|refine zA ?_ _));refine yE (cs:=#[.slice Ao64 t237.length co64,.slice Ao69 t240.length co69,.slice none 0 0]) ?_ 2 _ rfl;(with_reducible repeat (first|refine zB ?_ _|refine zF ?_|refine zA ?_ _));refine yE (cs:=#[.slice Ao64 t237.length co64,.slice none 0 0,.slice none 0 0]) ?_ 1 _ rfl;(with_reducible repeat (first|refine zB ?_ _|refine zF ?_|refine zA ?_ _));refine yE (cs:=#[.slice none 0 0,.slice none 0 0,.slice none 0 0]) ?_ 0 _ rfl;(with_reducible repeat (first|refine zB ?_ _|refine zF ?_|refine zA ?_ _));exact BK248.out))⟩;have n22_:zN (Below w.heap.size w w71):=⟨(by rw [hw];exact (by repeat (first|(with_reducible first|exact HB.out|apply zG|apply zD|apply zH|refine zC ?_ GE205.out|refine zC ?_ GE218.out|refine zC ?_ GE236.out|refine zC ?_ GE248.out)|exact HB.out)))⟩;clear hw;clear HO189;clear HO192;clear HO195;clear HO198;clear HO201;clear HO204;clear HO208;clear HO211;clear HO214;clear HO217;clear HO221;clear HO224;clear HO227;clear HO230;clear HO233;clear HO239;clear HO242;clear HO245;clear BK205;clear BK218;clear BK236;clear BK248;clear HB;have HO189:=n0_;have HO192:=n1_;have HO195:=n2_;have HO198:=n3_;have HO201:=n4_;have HO204:=n5_;have HO208:=n6_;have HO211:=n7_;have HO214:=n8_;have HO217:=n9_;have HO221:=n10_;have HO224:=n11_;have HO227:=n12_;have HO230:=n13_;have HO233:=n14_;have HO239:=n15_;have HO242:=n16_;have HO245:=n17_;have BK205:=n18_;have BK218:=n19_;have BK236:=n20_;have BK248:=n21_;have HB:=n22_;clear n0_ n1_ n2_ n3_ n4_ n5_ n6_ n7_ n8_ n9_ n10_ n11_ n12_ n13_ n14_ n15_ n16_ n17_ n18_ n19_ n20_ n21_ n22_)|((with_reducible refine yD (f:=13) rfl ?_);refine yM (some 41) rfl rfl Tryd.func13 (by kernel_rfl) rfl #[.int .i64 9] rfl (by (try simp only [List.map_toArray,List.map_cons,List.map_nil]);first|done|rfl|(simp only [List.length_drop,List.length_take];rfl)) ?_;(with_reducible refine (signal_Name.calls 9 t249 _ A8.out).mono ?_);rintro e w72 ⟨rfl,hb⟩;refine ⟨_,rfl,?_⟩;have n0_:=Zk (zV (by (with_reducible repeat (first|apply zL|apply zK|apply zM));exact HO189.out) hb);have n1_:=Zk (zV (by (with_reducible repeat (first|apply zL|apply zK|apply zM));exact HO192.out) hb);have n2_:=Zk (zV (by (with_reducible repeat (first|apply zL|apply zK|apply zM));exact HO195.out) hb);have n3_:=Zk (zV (by (with_reducible repeat (first|apply zL|apply zK|apply zM));exact HO198.out) hb);have n4_:=Zk (zV (by (with_reducible repeat (first|apply zL|apply zK|apply zM));exact HO201.out) hb);have n5_:=Zk (zV (by (with_reducible repeat (first|apply zL|apply zK|apply zM));exact HO204.out) hb);have n6_:=Zk (R_below (by (with_reducible repeat (first|apply zR|apply zQ|apply zU));exact HO208.out) hb);have n7_:=Zk (zV (by (with_reducible repeat (first|apply zL|apply zK|apply zM));exact HO211.out) hb);have n8_:=Zk (zV (by (with_reducible repeat (first|apply zL|apply zK|apply zM));exact HO214.out) hb);have n9_:=Zk (zV (by (with_reducible repeat (first|apply zL|apply zK|apply zM));exact HO217.out) hb);have n10_:=Zk (R_below (by (with_reducible repeat (first|apply zR|apply zQ|apply zU));exact HO221.out) hb);have n11_:=Zk (R_below (by (with_reducible repeat (first|apply zR|apply zQ|apply zU));exact HO224.out) hb);have n12_:=Zk (zV (by (with_reducible repeat (first|apply zL|apply zK|apply zM));exact HO227.out) hb);have n13_:=Zk (zV (by (with_reducible repeat (first|apply zL|apply zK|apply zM));exact HO230.out) hb);have n14_:=Zk (zV (by (with_reducible repeat (first|apply zL|apply zK|apply zM));exact HO233.out) hb);have n15_:=Zk (zV (by (with_reducible repeat (first|apply zL|apply zK|apply zM));exact HO239.out) hb);have n16_:=Zk (zV (by (with_reducible repeat (first|apply zL|apply zK|apply zM));exact HO242.out) hb);have n17_:=Zk (zV (by (with_reducible repeat (first|apply zL|apply zK|apply zM));exact HO245.out) hb);have n18_:=Zk (zW (g:=gb205) (o:=.cells #[.slice Ao30 t196.length co30,.slice Ao32 t199.length co32,.slice Ao33 t202.length co33] 30 (0,0)) (by (with_reducible repeat (first|refine zB ?_ _|refine zF ?_|refine zA ?_ _));exact BK205.out) hb);have n19_:=Zk (zW (g:=gb218) (o:=.cells #[.slice Ao40 t209.length co40,.slice Ao43 t212.length co43,.slice Ao44 t215.length co44] 30 (0,0)) (by (with_reducible repeat (first|refine zB ?_ _|refine zF ?_|refine zA ?_ _));exact BK218.out) hb);have n20_:=Zk (zW (g:=gb236) (o:=.cells #[.slice Ao54 t225.length co54,.slice Ao58 t228.length co58,.slice Ao59 t231.length co59] 30 (0,0)) (by (with_reducible repeat (first|refine zB ?_ _|refine zF ?_|refine zA ?_ _));exact BK236.out) hb);have n21_:=Zk (zW (g:=gb248) (o:=.cells #[.slice Ao64 t237.length co64,.slice Ao69 t240.length co69,.slice Ao70 t243.length co70] 30 (0,0)) (by (with_reducible repeat (first|refine zB ?_ _|refine zF ?_|refine zA ?_ _));exact BK248.out) hb);have n22_:=Zk (yA (by repeat (first|(with_reducible first|exact HB.out|apply zG|apply zD|apply zH|refine zC ?_ GE205.out|refine zC ?_ GE218.out|refine zC ?_ GE236.out|refine zC ?_ GE248.out)|exact HB.out)) hb);clear HO189;clear HO192;clear HO195;clear HO198;clear HO201;clear HO204;clear HO208;clear HO211;clear HO214;clear HO217;clear HO221;clear HO224;clear HO227;clear HO230;clear HO233;clear HO239;clear HO242;clear HO245;clear BK205;clear BK218;clear BK236;clear BK248;clear HB;have HO189:=n0_;have HO192:=n1_;have HO195:=n2_;have HO198:=n3_;have HO201:=n4_;have HO204:=n5_;have HO208:=n6_;have HO211:=n7_;have HO214:=n8_;have HO217:=n9_;have HO221:=n10_;have HO224:=n11_;have HO227:=n12_;have HO230:=n13_;have HO233:=n14_;have HO239:=n15_;have HO242:=n16_;have HO245:=n17_;have BK205:=n18_;have BK218:=n19_;have BK236:=n20_;have BK248:=n21_;have HB:=n22_;clear n0_ n1_ n2_ n3_ n4_ n5_ n6_ n7_ n8_ n9_ n10_ n11_ n12_ n13_ n14_ n15_ n16_ n17_ n18_ n19_ n20_ n21_ n22_;(try clear hb);(try clear hb2);(try clear hk);(try clear hi))|(go_at_call 13;(with_reducible refine (signal_Name.calls 6 t250 _ A10.out).mono ?_);rintro e w73 ⟨rfl,hb⟩;have n0_:=Zk (zV (by (with_reducible repeat (first|apply zL|apply zK|apply zM));exact HO189.out) hb);have n1_:=Zk (zV (by (with_reducible repeat (first|apply zL|apply zK|apply zM));exact HO192.out) hb);have n2_:=Zk (zV (by (with_reducible repeat (first|apply zL|apply zK|apply zM));exact HO195.out) hb);have n3_:=Zk (zV (by (with_reducible repeat (first|apply zL|apply zK|apply zM));exact HO198.out) hb);have n4_:=Zk (zV (by (with_reducible repeat (first|apply zL|apply zK|apply zM));exact HO201.out) hb);have n5_:=Zk (zV (by (with_reducible repeat (first|apply zL|apply zK|apply zM));exact HO204.out) hb);have n6_:=Zk (R_below (by (with_reducible repeat (first|apply zR|apply zQ|apply zU));exact HO208.out) hb);have n7_:=Zk (zV (by (with_reducible repeat (first|apply zL|apply zK|apply zM));exact HO211.out) hb);have n8_:=Zk (zV (by (with_reducible repeat (first|apply zL|apply zK|apply zM));exact HO214.out) hb);have n9_:=Zk (zV (by (with_reducible repeat (first|apply zL|apply zK|apply zM));exact HO217.out) hb);have n10_:=Zk (R_below (by (with_reducible repeat (first|apply zR|apply zQ|apply zU));exact HO221.out) hb);have n11_:=Zk (R_below (by (with_reducible repeat (first|apply zR|apply zQ|apply zU));exact HO224.out) hb);have n12_:=Zk (zV (by (with_reducible repeat (first|apply zL|apply zK|apply zM));exact HO227.out) hb);have n13_:=Zk (zV (by (with_reducible repeat (first|apply zL|apply zK|apply zM));exact HO230.out) hb);have n14_:=Zk (zV (by (with_reducible repeat (first|apply zL|apply zK|apply zM));exact HO233.out) hb);have n15_:=Zk (zV (by (with_reducible repeat (first|apply zL|apply zK|apply zM));exact HO239.out) hb);have n16_:=Zk (zV (by (with_reducible repeat (first|apply zL|apply zK|apply zM));exact HO242.out) hb);have n17_:=Zk (zV (by (with_reducible repeat (first|apply zL|apply zK|apply zM));exact HO245.out) hb);have n18_:=Zk (zW (g:=gb205) (o:=.cells #[.slice Ao30 t196.length co30,.slice Ao32 t199.length co32,.slice Ao33 t202.length co33] 30 (0,0)) (by (with_reducible repeat (first|refine zB ?_ _|refine zF ?_|refine zA ?_ _));exact BK205.out) hb);have n19_:=Zk (zW (g:=gb218) (o:=.cells #[.slice Ao40 t209.length co40,.slice Ao43 t212.length co43,.slice Ao44 t215.length co44] 30 (0,0)) (by (with_reducible repeat (first|refine zB ?_ _|refine zF ?_|refine zA ?_ _));exact BK218.out) hb);have n20_:=Zk (zW (g:=gb236) (o:=.cells #[.slice Ao54 t225.length co54,.slice Ao58 t228.length co58,.slice Ao59 t231.length co59] 30 (0,0)) (by (with_reducible repeat (first|refine zB ?_ _|refine zF ?_|refine zA ?_ _));exact BK236.out) hb);have n21_:=Zk (zW (g:=gb248) (o:=.cells #[.slice Ao64 t237.length co64,.slice Ao69 t240.length co69,.slice Ao70 t243.length co70] 30 (0,0)) (by (with_reducible repeat (first|refine zB ?_ _|refine zF ?_|refine zA ?_ _));exact BK248.out) hb);have n22_:=Zk (yA (by repeat (first|(with_reducible first|exact HB.out|apply zG|apply zD|apply zH|refine zC ?_ GE205.out|refine zC ?_ GE218.out|refine zC ?_ GE236.out|refine zC ?_ GE248.out)|exact HB.out)) hb);clear HO189;clear HO192;clear HO195;clear HO198;clear HO201;clear HO204;clear HO208;clear HO211;clear HO214;clear HO217;clear HO221;clear HO224;clear HO227;clear HO230;clear HO233;clear HO239;clear HO242;clear HO245;clear BK205;clear BK218;clear BK236;clear BK248;clear HB;have HO189:=n0_;have HO192:=n1_;have HO195:=n2_;have HO198:=n3_;have HO201:=n4_;have HO204:=n5_;have HO208:=n6_;have HO211:=n7_;have HO214:=n8_;have HO217:=n9_;have HO221:=n10_;have HO224:=n11_;have HO227:=n12_;have HO230:=n13_;have HO233:=n14_;have HO239:=n15_;have HO242:=n16_;have HO245:=n17_;have BK205:=n18_;have BK218:=n19_;have BK236:=n20_;have BK248:=n21_;have HB:=n22_;clear n0_ n1_ n2_ n3_ n4_ n5_ n6_ n7_ n8_ n9_ n10_ n11_ n12_ n13_ n14_ n15_ n16_ n17_ n18_ n19_ n20_ n21_ n22_;(try clear hb);(try clear hb2);(try clear hk);(try clear hi);have hcz74_0:w73.cell? ⟨gb205,0,none⟩=some (.slice Ao30 t196.length co30):=(zJ BK205.out 0).trans rfl;have hcz74_1:w73.cell? ⟨gb205,1,none⟩=some (.slice Ao32 t199.length co32):=(zJ BK205.out 1).trans rfl;have hcz74_2:w73.cell? ⟨gb205,2,none⟩=some (.slice Ao33 t202.length co33):=(zJ BK205.out 2).trans rfl;have hfz74_0:=zI BK205.out 0;have hfz74_1:=zI BK205.out 1;have hfz74_2:=zI BK205.out 2;have p251:0≤(0:Int):=(by omega);have q251:0 < (t196.length:Int):=of_decide_eq_true (by first|(with_reducible assumption)|assumption);obtain ⟨ad251,e251,hx251_0⟩:=Kd.at_int (yH HO198.out).2.2 0 p251 q251;cases e251;have qi251:(0 < t196.length)=True:=eq_true (by omega);(try rw [show ((0:Int)).toNat=0 from rfl] at hx251_0);(try rw [Addr.add_zero'] at hx251_0);replace p251:=eq_true p251;replace q251:=eq_true q251;have hcz75_0:w73.cell? ⟨gb218,0,none⟩=some (.slice Ao40 t209.length co40):=(zJ BK218.out 0).trans rfl;have hcz75_1:w73.cell? ⟨gb218,1,none⟩=some (.slice Ao43 t212.length co43):=(zJ BK218.out 1).trans rfl;have hcz75_2:w73.cell? ⟨gb218,2,none⟩=some (.slice Ao44 t215.length co44):=(zJ BK218.out 2).trans rfl;have hfz75_0:=zI BK218.out 0;have hfz75_1:=zI BK218.out 1;have hfz75_2:=zI BK218.out 2))
             go_ret
             exact ⟨by first|rfl|(simp [errW_none,errW_some] <;> rfl)|(simp [*,errW_none,errW_some] <;> rfl),by repeat (first|(with_reducible first|exact HB.out|apply zG|apply zD|apply zH|refine zC ?_ GE205.out|refine zC ?_ GE218.out|refine zC ?_ GE236.out|refine zC ?_ GE248.out)|exact HB.out)⟩
            ·rw [if_neg c21] at H
             exact absurd H (by simp)
           ·rw [if_neg c20] at H
            exact absurd H (by simp)
          ·rw [if_neg c19] at H
           exact absurd H (by simp)
         ·rw [if_neg c18] at H
          exact absurd H (by simp)
        ·rw [if_neg c17] at H
         exact absurd H (by simp)
       ·rw [if_neg c16] at H
        exact absurd H (by simp)
      ·rw [if_neg c15] at H
       exact absurd H (by simp)
    ·replace c13:=Bool.eq_false_iff.mpr c13
     subst c13
     have H1:(none)=some r:=by rw [if_neg (show ¬ (false=true) by decide)] at H;exact H
     clear H
     have H:=H1
     clear H1
     exact absurd H (by simp)
   ·rw [if_neg c12] at H
    exact absurd H (by simp)
  ·rw [if_neg c11] at H
   exact absurd H (by simp)
 ·rw [if_neg c9] at H
  exact absurd H (by simp)
def jobshellref25_Name.f (a0:Int):Option (ByteArray):=if a0=1 then (some (⟨#[72,85,80]⟩:ByteArray)) else (if a0=2 then (some (⟨#[73,78,84]⟩:ByteArray)) else (if a0=3 then (some (⟨#[81,85,73,84]⟩:ByteArray)) else (if a0=4 then (some (⟨#[84,84,73,78]⟩:ByteArray)) else (if a0=5 then (some (⟨#[84,84,79,85]⟩:ByteArray)) else (if a0=9 then (some (⟨#[75,73,76,76]⟩:ByteArray)) else (if a0=10 then (some (⟨#[85,83,82,49]⟩:ByteArray)) else (if a0=12 then (some (⟨#[85,83,82,50]⟩:ByteArray)) else (if a0=13 then (some (⟨#[80,73,80,69]⟩:ByteArray)) else (if a0=14 then (some (⟨#[65,76,82,77]⟩:ByteArray)) else (if a0=15 then (some (⟨#[84,69,82,77]⟩:ByteArray)) else (if a0=17 then (some (⟨#[67,72,76,68]⟩:ByteArray)) else (if a0=18 then (some (⟨#[67,79,78,84]⟩:ByteArray)) else (if a0=19 then (some (⟨#[83,84,79,80]⟩:ByteArray)) else (if a0=20 then (some (⟨#[84,83,84,80]⟩:ByteArray)) else (some (⟨#[]⟩:ByteArray))))))))))))))))
set_option maxHeartbeats 8000000 in
set_option maxRecDepth 10000000 in
theorem jobshellref25_Name.calls (a0:Int) (r:ByteArray) (w:World) (h:jobshellref25_Name.f a0=some r) :
  Calls Tryd.prog 14 #[.int .i64 a0] w fun e w'=>e=.returned (.string r)∧Drawn0 w w':=by
 have H:(if a0=1 then (some (⟨#[72,85,80]⟩:ByteArray)) else (if a0=2 then (some (⟨#[73,78,84]⟩:ByteArray)) else (if a0=3 then (some (⟨#[81,85,73,84]⟩:ByteArray)) else (if a0=4 then (some (⟨#[84,84,73,78]⟩:ByteArray)) else (if a0=5 then (some (⟨#[84,84,79,85]⟩:ByteArray)) else (if a0=9 then (some (⟨#[75,73,76,76]⟩:ByteArray)) else (if a0=10 then (some (⟨#[85,83,82,49]⟩:ByteArray)) else (if a0=12 then (some (⟨#[85,83,82,50]⟩:ByteArray)) else (if a0=13 then (some (⟨#[80,73,80,69]⟩:ByteArray)) else (if a0=14 then (some (⟨#[65,76,82,77]⟩:ByteArray)) else (if a0=15 then (some (⟨#[84,69,82,77]⟩:ByteArray)) else (if a0=17 then (some (⟨#[67,72,76,68]⟩:ByteArray)) else (if a0=18 then (some (⟨#[67,79,78,84]⟩:ByteArray)) else (if a0=19 then (some (⟨#[83,84,79,80]⟩:ByteArray)) else (if a0=20 then (some (⟨#[84,83,84,80]⟩:ByteArray)) else (some (⟨#[]⟩:ByteArray)))))))))))))))))=some r:=h
 clear h
 by_cases c2:a0=1
 ·rw [if_pos c2] at H
  have c2b0:(a0 == 1)=true:=beq_iff_eq.mpr c2
  have c2b1:(a0 != 1)=false:=bne_eq_false_iff_eq.mpr c2
  clear c2
  obtain rfl:=Option.some.inj H
  go_enter Tryd.func14,Tryd.ntmps14
  go_wp2
  go_ret
  exact ⟨by first|rfl|(simp;done)|(simp [*];done),by repeat (first|exact Drawn0.refl _|apply Drawn0.step)⟩
 ·rw [if_neg c2] at H
  have c2b0:(a0 == 1)=false:=beq_eq_false_iff_ne.mpr c2
  have c2b1:(a0 != 1)=true:=bne_iff_ne.mpr c2
  by_cases c3:a0=2
  ·rw [if_pos c3] at H
   have c3b0:(a0 == 2)=true:=beq_iff_eq.mpr c3
   have c3b1:(a0 != 2)=false:=bne_eq_false_iff_eq.mpr c3
   clear c3
   obtain rfl:=Option.some.inj H
   go_enter Tryd.func14,Tryd.ntmps14
   go_wp2
   go_ret
   exact ⟨by first|rfl|(simp;done)|(simp [*];done),by repeat (first|exact Drawn0.refl _|apply Drawn0.step)⟩
  ·rw [if_neg c3] at H
   have c3b0:(a0 == 2)=false:=beq_eq_false_iff_ne.mpr c3
   have c3b1:(a0 != 2)=true:=bne_iff_ne.mpr c3
   by_cases c4:a0=3
   ·rw [if_pos c4] at H
    have c4b0:(a0 == 3)=true:=beq_iff_eq.mpr c4
    have c4b1:(a0 != 3)=false:=bne_eq_false_iff_eq.mpr c4
    clear c4
    obtain rfl:=Option.some.inj H
    go_enter Tryd.func14,Tryd.ntmps14
    go_wp2
    go_ret
    exact ⟨by first|rfl|(simp;done)|(simp [*];done),by repeat (first|exact Drawn0.refl _|apply Drawn0.step)⟩
   ·rw [if_neg c4] at H
    have c4b0:(a0 == 3)=false:=beq_eq_false_iff_ne.mpr c4
    have c4b1:(a0 != 3)=true:=bne_iff_ne.mpr c4
    by_cases c5:a0=4
    ·rw [if_pos c5] at H
     have c5b0:(a0 == 4)=true:=beq_iff_eq.mpr c5
     have c5b1:(a0 != 4)=false:=bne_eq_false_iff_eq.mpr c5
     clear c5
     obtain rfl:=Option.some.inj H
     go_enter Tryd.func14,Tryd.ntmps14
     go_wp2
     go_ret
     exact ⟨by first|rfl|(simp;done)|(simp [*];done),by repeat (first|exact Drawn0.refl _|apply Drawn0.step)⟩
    ·rw [if_neg c5] at H
     have c5b0:(a0 == 4)=false:=beq_eq_false_iff_ne.mpr c5
     have c5b1:(a0 != 4)=true:=bne_iff_ne.mpr c5
     by_cases c6:a0=5
     ·rw [if_pos c6] at H
      have c6b0:(a0 == 5)=true:=beq_iff_eq.mpr c6
      have c6b1:(a0 != 5)=false:=bne_eq_false_iff_eq.mpr c6
      clear c6
      obtain rfl:=Option.some.inj H
      go_enter Tryd.func14,Tryd.ntmps14
      go_wp2
      go_ret
      exact ⟨by first|rfl|(simp;done)|(simp [*];done),by repeat (first|exact Drawn0.refl _|apply Drawn0.step)⟩
     ·rw [if_neg c6] at H
      have c6b0:(a0 == 5)=false:=beq_eq_false_iff_ne.mpr c6
      have c6b1:(a0 != 5)=true:=bne_iff_ne.mpr c6
      by_cases c7:a0=9
      ·rw [if_pos c7] at H
       have c7b0:(a0 == 9)=true:=beq_iff_eq.mpr c7
       have c7b1:(a0 != 9)=false:=bne_eq_false_iff_eq.mpr c7
       clear c7
       obtain rfl:=Option.some.inj H
       go_enter Tryd.func14,Tryd.ntmps14
       go_wp2
       go_ret
       exact ⟨by first|rfl|(simp;done)|(simp [*];done),by repeat (first|exact Drawn0.refl _|apply Drawn0.step)⟩
      ·rw [if_neg c7] at H
       have c7b0:(a0 == 9)=false:=beq_eq_false_iff_ne.mpr c7
       have c7b1:(a0 != 9)=true:=bne_iff_ne.mpr c7
       by_cases c8:a0=10
       ·rw [if_pos c8] at H
        have c8b0:(a0 == 10)=true:=beq_iff_eq.mpr c8
        have c8b1:(a0 != 10)=false:=bne_eq_false_iff_eq.mpr c8
        clear c8
        obtain rfl:=Option.some.inj H
        go_enter Tryd.func14,Tryd.ntmps14
        go_wp2
        go_ret
        exact ⟨by first|rfl|(simp;done)|(simp [*];done),by repeat (first|exact Drawn0.refl _|apply Drawn0.step)⟩
       ·rw [if_neg c8] at H
        have c8b0:(a0 == 10)=false:=beq_eq_false_iff_ne.mpr c8
        have c8b1:(a0 != 10)=true:=bne_iff_ne.mpr c8
        by_cases c9:a0=12
        ·rw [if_pos c9] at H
         have c9b0:(a0 == 12)=true:=beq_iff_eq.mpr c9
         have c9b1:(a0 != 12)=false:=bne_eq_false_iff_eq.mpr c9
         clear c9
         obtain rfl:=Option.some.inj H
         go_enter Tryd.func14,Tryd.ntmps14
         go_wp2
         go_ret
         exact ⟨by first|rfl|(simp;done)|(simp [*];done),by repeat (first|exact Drawn0.refl _|apply Drawn0.step)⟩
        ·rw [if_neg c9] at H
         have c9b0:(a0 == 12)=false:=beq_eq_false_iff_ne.mpr c9
         have c9b1:(a0 != 12)=true:=bne_iff_ne.mpr c9
         by_cases c10:a0=13
         ·rw [if_pos c10] at H
          have c10b0:(a0 == 13)=true:=beq_iff_eq.mpr c10
          have c10b1:(a0 != 13)=false:=bne_eq_false_iff_eq.mpr c10
          clear c10
          obtain rfl:=Option.some.inj H
          go_enter Tryd.func14,Tryd.ntmps14
          go_wp2
          go_ret
          exact ⟨by first|rfl|(simp;done)|(simp [*];done),by repeat (first|exact Drawn0.refl _|apply Drawn0.step)⟩
         ·rw [if_neg c10] at H
          have c10b0:(a0 == 13)=false:=beq_eq_false_iff_ne.mpr c10
          have c10b1:(a0 != 13)=true:=bne_iff_ne.mpr c10
          by_cases c11:a0=14
          ·rw [if_pos c11] at H
           have c11b0:(a0 == 14)=true:=beq_iff_eq.mpr c11
           have c11b1:(a0 != 14)=false:=bne_eq_false_iff_eq.mpr c11
           clear c11
           obtain rfl:=Option.some.inj H
           go_enter Tryd.func14,Tryd.ntmps14
           go_wp2
           go_ret
           exact ⟨by first|rfl|(simp;done)|(simp [*];done),by repeat (first|exact Drawn0.refl _|apply Drawn0.step)⟩
          ·rw [if_neg c11] at H
           have c11b0:(a0 == 14)=false:=beq_eq_false_iff_ne.mpr c11
           have c11b1:(a0 != 14)=true:=bne_iff_ne.mpr c11
           by_cases c12:a0=15
           ·rw [if_pos c12] at H
            have c12b0:(a0 == 15)=true:=beq_iff_eq.mpr c12
            have c12b1:(a0 != 15)=false:=bne_eq_false_iff_eq.mpr c12
            clear c12
            obtain rfl:=Option.some.inj H
            go_enter Tryd.func14,Tryd.ntmps14
            go_wp2
            go_ret
            exact ⟨by first|rfl|(simp;done)|(simp [*];done),by repeat (first|exact Drawn0.refl _|apply Drawn0.step)⟩
           ·rw [if_neg c12] at H
            have c12b0:(a0 == 15)=false:=beq_eq_false_iff_ne.mpr c12
            have c12b1:(a0 != 15)=true:=bne_iff_ne.mpr c12
            by_cases c13:a0=17
            ·rw [if_pos c13] at H
             have c13b0:(a0 == 17)=true:=beq_iff_eq.mpr c13
             have c13b1:(a0 != 17)=false:=bne_eq_false_iff_eq.mpr c13
             clear c13
             obtain rfl:=Option.some.inj H
             go_enter Tryd.func14,Tryd.ntmps14
             go_wp2
             go_ret
             exact ⟨by first|rfl|(simp;done)|(simp [*];done),by repeat (first|exact Drawn0.refl _|apply Drawn0.step)⟩
            ·rw [if_neg c13] at H
             have c13b0:(a0 == 17)=false:=beq_eq_false_iff_ne.mpr c13
             have c13b1:(a0 != 17)=true:=bne_iff_ne.mpr c13
             by_cases c14:a0=18
             ·rw [if_pos c14] at H
              have c14b0:(a0 == 18)=true:=beq_iff_eq.mpr c14
              have c14b1:(a0 != 18)=false:=bne_eq_false_iff_eq.mpr c14
              clear c14
              obtain rfl:=Option.some.inj H
              go_enter Tryd.func14,Tryd.ntmps14
              go_wp2
              go_ret
              exact ⟨by first|rfl|(simp;done)|(simp [*];done),by repeat (first|exact Drawn0.refl _|apply Drawn0.step)⟩
             ·rw [if_neg c14] at H
              have c14b0:(a0 == 18)=false:=beq_eq_false_iff_ne.mpr c14
              have c14b1:(a0 != 18)=true:=bne_iff_ne.mpr c14
              by_cases c15:a0=19
              ·rw [if_pos c15] at H
               have c15b0:(a0 == 19)=true:=beq_iff_eq.mpr c15
               have c15b1:(a0 != 19)=false:=bne_eq_false_iff_eq.mpr c15
               clear c15
               obtain rfl:=Option.some.inj H
               go_enter Tryd.func14,Tryd.ntmps14
               go_wp2
               go_ret
               exact ⟨by first|rfl|(simp;done)|(simp [*];done),by repeat (first|exact Drawn0.refl _|apply Drawn0.step)⟩
              ·rw [if_neg c15] at H
               have c15b0:(a0 == 19)=false:=beq_eq_false_iff_ne.mpr c15
               have c15b1:(a0 != 19)=true:=bne_iff_ne.mpr c15
               by_cases c16:a0=20
               ·rw [if_pos c16] at H
                have c16b0:(a0 == 20)=true:=beq_iff_eq.mpr c16
                have c16b1:(a0 != 20)=false:=bne_eq_false_iff_eq.mpr c16
                clear c16
                obtain rfl:=Option.some.inj H
                go_enter Tryd.func14,Tryd.ntmps14
                go_wp2
                go_ret
                exact ⟨by first|rfl|(simp;done)|(simp [*];done),by repeat (first|exact Drawn0.refl _|apply Drawn0.step)⟩
               ·rw [if_neg c16] at H
                have c16b0:(a0 == 20)=false:=beq_eq_false_iff_ne.mpr c16
                have c16b1:(a0 != 20)=true:=bne_iff_ne.mpr c16
                obtain rfl:=Option.some.inj H
                go_enter Tryd.func14,Tryd.ntmps14
                go_wp2
                go_ret
                exact ⟨by first|rfl|(simp;done)|(simp [*];done),by repeat (first|exact Drawn0.refl _|apply Drawn0.step)⟩
def jobshellref25_stops.f (a0:Int):Option (Bool):=if a0=19 then (some true) else (if a0=20 then (some true) else (if a0=4 then (some true) else (some (a0 == 5))))
set_option maxHeartbeats 8000000 in
set_option maxRecDepth 10000000 in
theorem jobshellref25_stops.calls (a0:Int) (r:Bool) (w:World) (h:jobshellref25_stops.f a0=some r) :
  Calls Tryd.prog 35 #[.int .i64 a0] w fun e w'=>e=.returned (.bool r)∧Drawn0 w w':=by
 have H:(if a0=19 then (some true) else (if a0=20 then (some true) else (if a0=4 then (some true) else (some (a0 == 5)))))=some r:=h
 clear h
 by_cases c2:a0=19
 ·rw [if_pos c2] at H
  have c2b0:(a0 == 19)=true:=beq_iff_eq.mpr c2
  have c2b1:(a0 != 19)=false:=bne_eq_false_iff_eq.mpr c2
  clear c2
  obtain rfl:=Option.some.inj H
  go_enter Tryd.func35,Tryd.ntmps35
  go_wp2
  go_ret
  exact ⟨by first|rfl|(simp;done)|(simp [*];done),by repeat (first|exact Drawn0.refl _|apply Drawn0.step)⟩
 ·rw [if_neg c2] at H
  have c2b0:(a0 == 19)=false:=beq_eq_false_iff_ne.mpr c2
  have c2b1:(a0 != 19)=true:=bne_iff_ne.mpr c2
  by_cases c3:a0=20
  ·rw [if_pos c3] at H
   have c3b0:(a0 == 20)=true:=beq_iff_eq.mpr c3
   have c3b1:(a0 != 20)=false:=bne_eq_false_iff_eq.mpr c3
   clear c3
   obtain rfl:=Option.some.inj H
   go_enter Tryd.func35,Tryd.ntmps35
   go_wp2
   go_ret
   exact ⟨by first|rfl|(simp;done)|(simp [*];done),by repeat (first|exact Drawn0.refl _|apply Drawn0.step)⟩
  ·rw [if_neg c3] at H
   have c3b0:(a0 == 20)=false:=beq_eq_false_iff_ne.mpr c3
   have c3b1:(a0 != 20)=true:=bne_iff_ne.mpr c3
   by_cases c4:a0=4
   ·rw [if_pos c4] at H
    have c4b0:(a0 == 4)=true:=beq_iff_eq.mpr c4
    have c4b1:(a0 != 4)=false:=bne_eq_false_iff_eq.mpr c4
    clear c4
    obtain rfl:=Option.some.inj H
    go_enter Tryd.func35,Tryd.ntmps35
    go_wp2
    go_ret
    exact ⟨by first|rfl|(simp;done)|(simp [*];done),by repeat (first|exact Drawn0.refl _|apply Drawn0.step)⟩
   ·rw [if_neg c4] at H
    have c4b0:(a0 == 4)=false:=beq_eq_false_iff_ne.mpr c4
    have c4b1:(a0 != 4)=true:=bne_iff_ne.mpr c4
    obtain rfl:=Option.some.inj H
    go_enter Tryd.func35,Tryd.ntmps35
    go_wp2
    go_ret
    exact ⟨by first|rfl|(simp;done)|(simp [*];done),by repeat (first|exact Drawn0.refl _|apply Drawn0.step)⟩
end Go.Proofs.YtnkkdpjipfjdaaaDoor.Q
end
section

namespace Go.Proofs.YtnkkdpjipfjdaaaDoor.Q
open Go.RowKit Go.Proofs.YtnkkdpjipfjdaaaDoorW.PrintWords Go.Proofs.YtnkkdpjipfjdaaaDoorW.PrintLast Go.Proofs.YtnkkdpjipfjdaaaDoorW.PrintMore Go.Proofs.YtnkkdpjipfjdaaaDoorM
open Kd
attribute [local go_sem] max2_int min2_int max_two min_two max_three min_three max_four min_four
set_option linter.unusedVariables false
set_option linter.unusedSimpArgs false
def jobshelllaw25_short.f (l0_0:List Int) (l0_1:List Int) (l0_2:List Int):Option (Bool):=if (l0_0.length:Int)≤30 then (if (l0_1.length:Int)≤30 then (some (decide ((l0_2.length:Int)≤30))) else (some false)) else (some false)
set_option maxHeartbeats 8000000 in
set_option maxRecDepth 10000000 in
theorem jobshelllaw25_short.calls (A0_0:Option Addr) (c0_0:Nat) (l0_0:List Int) (A0_1:Option Addr) (c0_1:Nat) (l0_1:List Int) (A0_2:Option Addr) (c0_2:Nat) (l0_2:List Int) (r:Bool) (w:World) (hr0_0:Kd.C (Kd.int .i64) w A0_0 l0_0.length l0_0) (hc0_0:l0_0.length≤c0_0) (hr0_1:Kd.C (Kd.int .i64) w A0_1 l0_1.length l0_1) (hc0_1:l0_1.length≤c0_1) (hr0_2:Kd.C (Kd.int .i64) w A0_2 l0_2.length l0_2) (hc0_2:l0_2.length≤c0_2) (h:jobshelllaw25_short.f l0_0 l0_1 l0_2=some r) :
  Calls Tryd.prog 17 #[.agg #[.slice A0_0 l0_0.length c0_0,.slice A0_1 l0_1.length c0_1,.slice A0_2 l0_2.length c0_2]] w fun e w'=>e=.returned (.bool r)∧Below w.heap.size w w':=by
 have hu30:=Tryd.underlying30
 have HR0_0:=Zk hr0_0
 have HC0_0:=Zk hc0_0
 clear hr0_0 hc0_0
 have HR0_1:=Zk hr0_1
 have HC0_1:=Zk hc0_1
 clear hr0_1 hc0_1
 have HR0_2:=Zk hr0_2
 have HC0_2:=Zk hc0_2
 clear hr0_2 hc0_2
 have HB:=Zk (Below.refl w.heap.size w)
 have H:(if (l0_0.length:Int)≤30 then (if (l0_1.length:Int)≤30 then (some (decide ((l0_2.length:Int)≤30))) else (some false)) else (some false))=some r:=h
 clear h
 by_cases c2:(l0_0.length:Int)≤30
 ·rw [if_pos c2] at H
  have c2b0:decide ((l0_0.length:Int)≤30)=true:=decide_eq_true c2
  have c2b1:decide (l0_0.length≤30)=true:=decide_eq_true (by omega)
  clear c2
  by_cases c3:(l0_1.length:Int)≤30
  ·rw [if_pos c3] at H
   have c3b0:decide ((l0_1.length:Int)≤30)=true:=decide_eq_true c3
   have c3b1:decide (l0_1.length≤30)=true:=decide_eq_true (by omega)
   clear c3
   obtain rfl:=Option.some.inj H
   go_enter Tryd.func17,Tryd.ntmps17
   go_wp2_with (first|((with_reducible refine yT (N:=1) rfl ?_);(try (refine gate_guard (by rfl) ?_;dsimp only));refine yV ?hg (N:=1) ?hd (cs:=#[.slice A0_0 l0_0.length c0_0,.slice A0_1 l0_1.length c0_1,.slice A0_2 l0_2.length c0_2]) (t:=30) ?hr ?_;(case hd=>rfl);(case hg=>rfl);(case hr=>first|(go_simp;done)|(go_simp;rfl));intro gb267 hg w4 hbox hb;have n0_:=Zk (yA (by repeat (first|(with_reducible first|exact HB.out|apply zG|apply zD|apply zH)|exact HB.out)) hb);have n1_:=Zk (hbox);have n2_:=Zk ((by rw [hg];exact (zP (by repeat (first|(with_reducible first|exact HB.out|apply zG|apply zD|apply zH)|exact HB.out))):w.heap.size≤gb267));have n3_:=Zk ((by rw [hg];exact (zP (by repeat (first|(with_reducible first|exact HB.out|apply zG|apply zD|apply zH)|exact HB.out))):w.heap.size≤gb267));clear HB;have HB:=n0_;have BK267:=n1_;have GW267:=n2_;have GE267:=n3_;clear n0_ n1_ n2_ n3_;clear hb hbox hg;have hcz5_0:w4.cell? ⟨gb267,0,none⟩=some (.slice A0_0 l0_0.length c0_0):=(zJ BK267.out 0).trans rfl;have hcz5_1:w4.cell? ⟨gb267,1,none⟩=some (.slice A0_1 l0_1.length c0_1):=(zJ BK267.out 1).trans rfl;have hcz5_2:w4.cell? ⟨gb267,2,none⟩=some (.slice A0_2 l0_2.length c0_2):=(zJ BK267.out 2).trans rfl;have hfz5_0:=zI BK267.out 0;have hfz5_1:=zI BK267.out 1;have hfz5_2:=zI BK267.out 2))
   go_ret
   exact ⟨by first|rfl|(simp [errW_none,errW_some] <;> rfl)|(simp [*,errW_none,errW_some] <;> rfl),by repeat (first|(with_reducible first|exact HB.out|apply zG|apply zD|apply zH|refine zC ?_ GE267.out)|exact HB.out)⟩
  ·rw [if_neg c3] at H
   have c3b0:decide ((l0_1.length:Int)≤30)=false:=decide_eq_false c3
   have c3b1:decide (l0_1.length≤30)=false:=decide_eq_false (by omega)
   clear c3
   obtain rfl:=Option.some.inj H
   go_enter Tryd.func17,Tryd.ntmps17
   go_wp2_with (first|((with_reducible refine yT (N:=1) rfl ?_);(try (refine gate_guard (by rfl) ?_;dsimp only));refine yV ?hg (N:=1) ?hd (cs:=#[.slice A0_0 l0_0.length c0_0,.slice A0_1 l0_1.length c0_1,.slice A0_2 l0_2.length c0_2]) (t:=30) ?hr ?_;(case hd=>rfl);(case hg=>rfl);(case hr=>first|(go_simp;done)|(go_simp;rfl));intro gb267 hg w6 hbox hb;have n0_:=Zk (yA (by repeat (first|(with_reducible first|exact HB.out|apply zG|apply zD|apply zH)|exact HB.out)) hb);have n1_:=Zk (hbox);have n2_:=Zk ((by rw [hg];exact (zP (by repeat (first|(with_reducible first|exact HB.out|apply zG|apply zD|apply zH)|exact HB.out))):w.heap.size≤gb267));have n3_:=Zk ((by rw [hg];exact (zP (by repeat (first|(with_reducible first|exact HB.out|apply zG|apply zD|apply zH)|exact HB.out))):w.heap.size≤gb267));clear HB;have HB:=n0_;have BK267:=n1_;have GW267:=n2_;have GE267:=n3_;clear n0_ n1_ n2_ n3_;clear hb hbox hg;have hcz7_0:w6.cell? ⟨gb267,0,none⟩=some (.slice A0_0 l0_0.length c0_0):=(zJ BK267.out 0).trans rfl;have hcz7_1:w6.cell? ⟨gb267,1,none⟩=some (.slice A0_1 l0_1.length c0_1):=(zJ BK267.out 1).trans rfl;have hcz7_2:w6.cell? ⟨gb267,2,none⟩=some (.slice A0_2 l0_2.length c0_2):=(zJ BK267.out 2).trans rfl;have hfz7_0:=zI BK267.out 0;have hfz7_1:=zI BK267.out 1;have hfz7_2:=zI BK267.out 2))
   go_ret
   exact ⟨by first|rfl|(simp [errW_none,errW_some] <;> rfl)|(simp [*,errW_none,errW_some] <;> rfl),by repeat (first|(with_reducible first|exact HB.out|apply zG|apply zD|apply zH|refine zC ?_ GE267.out)|exact HB.out)⟩
 ·rw [if_neg c2] at H
  have c2b0:decide ((l0_0.length:Int)≤30)=false:=decide_eq_false c2
  have c2b1:decide (l0_0.length≤30)=false:=decide_eq_false (by omega)
  clear c2
  obtain rfl:=Option.some.inj H
  go_enter Tryd.func17,Tryd.ntmps17
  go_wp2_with (first|((with_reducible refine yT (N:=1) rfl ?_);(try (refine gate_guard (by rfl) ?_;dsimp only));refine yV ?hg (N:=1) ?hd (cs:=#[.slice A0_0 l0_0.length c0_0,.slice A0_1 l0_1.length c0_1,.slice A0_2 l0_2.length c0_2]) (t:=30) ?hr ?_;(case hd=>rfl);(case hg=>rfl);(case hr=>first|(go_simp;done)|(go_simp;rfl));intro gb267 hg w8 hbox hb;have n0_:=Zk (yA (by repeat (first|(with_reducible first|exact HB.out|apply zG|apply zD|apply zH)|exact HB.out)) hb);have n1_:=Zk (hbox);have n2_:=Zk ((by rw [hg];exact (zP (by repeat (first|(with_reducible first|exact HB.out|apply zG|apply zD|apply zH)|exact HB.out))):w.heap.size≤gb267));have n3_:=Zk ((by rw [hg];exact (zP (by repeat (first|(with_reducible first|exact HB.out|apply zG|apply zD|apply zH)|exact HB.out))):w.heap.size≤gb267));clear HB;have HB:=n0_;have BK267:=n1_;have GW267:=n2_;have GE267:=n3_;clear n0_ n1_ n2_ n3_;clear hb hbox hg;have hcz9_0:w8.cell? ⟨gb267,0,none⟩=some (.slice A0_0 l0_0.length c0_0):=(zJ BK267.out 0).trans rfl;have hcz9_1:w8.cell? ⟨gb267,1,none⟩=some (.slice A0_1 l0_1.length c0_1):=(zJ BK267.out 1).trans rfl;have hcz9_2:w8.cell? ⟨gb267,2,none⟩=some (.slice A0_2 l0_2.length c0_2):=(zJ BK267.out 2).trans rfl;have hfz9_0:=zI BK267.out 0;have hfz9_1:=zI BK267.out 1;have hfz9_2:=zI BK267.out 2))
  go_ret
  exact ⟨by first|rfl|(simp [errW_none,errW_some] <;> rfl)|(simp [*,errW_none,errW_some] <;> rfl),by repeat (first|(with_reducible first|exact HB.out|apply zG|apply zD|apply zH|refine zC ?_ GE267.out)|exact HB.out)⟩
def jobshellref25_Has.l0:Nat→List Int→Int→Int→Option (Bool)
 |0,_,_,_=>none
 |k + 1,x0,x1,x5=>if x5 < (x0.length:Int) then (if 0≤x5 then (if (rd x0 x5)=x1 then (some true) else (jobshellref25_Has.l0 k x0 x1 (wrap64 (x5 + 1)))) else (none)) else (some false)
def jobshellref25_Has.f (k:Nat) (l0:List Int) (a1:Int):Option (Bool):=jobshellref25_Has.l0 k l0 a1 0
theorem jobshellref25_Has.mono_l:∀ k,(∀ y0 y1 y2,LeO (jobshellref25_Has.l0 k y0 y1 y2) (jobshellref25_Has.l0 (k + 1) y0 y1 y2))
 |0=>fun _ _ _ r h=>by simp [jobshellref25_Has.l0] at h
 |k + 1=>by
  have ih0:=jobshellref25_Has.mono_l k
  ·intro y0 y1 y2
   unfold jobshellref25_Has.l0
   repeat' first
   |(with_reducible exact ih0 _ _ _)
   |(with_reducible exact LeO.refl _)
   |(with_reducible exact LeO.none _)
   |(with_reducible refine LeO.ite ?_ ?_)
   |(with_reducible refine LeO.bind ?_ (fun _=>?_))
   |exact ih0 _ _ _
   |exact LeO.none _
   |refine LeO.ite ?_ ?_
   |refine LeO.bind ?_ (fun _=>?_)
theorem jobshellref25_Has.mono:∀ a0 a1 k,LeO (jobshellref25_Has.f k a0 a1) (jobshellref25_Has.f (k + 1) a0 a1):=by
 intro a0 a1 k
 have ih0:=jobshellref25_Has.mono_l k
 unfold jobshellref25_Has.f
 repeat' first
   |(with_reducible exact ih0 _ _ _)
   |(with_reducible exact LeO.refl _)
   |(with_reducible exact LeO.none _)
   |(with_reducible refine LeO.ite ?_ ?_)
   |(with_reducible refine LeO.bind ?_ (fun _=>?_))
   |exact ih0 _ _ _
   |exact LeO.none _
   |refine LeO.ite ?_ ?_
   |refine LeO.bind ?_ (fun _=>?_)
set_option maxHeartbeats 8000000 in
set_option maxRecDepth 10000000 in
theorem jobshellref25_Has.calls (k:Nat) (A0:Option Addr) (c0:Nat) (l0:List Int) (a1:Int) (r:Bool) (w:World) (hr0:Kd.C (Kd.int .i64) w A0 l0.length l0) (hc0:l0.length≤c0) (h:jobshellref25_Has.f k l0 a1=some r) :
  Calls Tryd.prog 24 #[.slice A0 l0.length c0,.int .i64 a1] w fun e w'=>e=.returned (.bool r)∧Drawn0 w w':=by
 have HR0:=Zk hr0
 have HC0:=Zk hc0
 clear hr0 hc0
 have H:(jobshellref25_Has.l0 k l0 a1 0)=some r:=h
 clear h
 have H':=Zk H
 clear H
 go_enter Tryd.func24,Tryd.ntmps24
 go_wp2
 go_loopg [5] k (fun kq v5 w'=>∃ (x5_1:Int),v5=.int .i64 x5_1∧zN (jobshellref25_Has.l0 kq l0 a1 x5_1=some r)∧zN (kq≤k)∧Drawn0 w w')
 case atStart=>exact ⟨(0),(by first|rfl|(simp;done)|(simp [*];done)|(generalize ByteArray.toList _=l_;cases l_ <;> rfl)),H',⟨Nat.le_refl _⟩,by repeat (first|exact Drawn0.refl _|apply Drawn0.step)⟩
 case round=>
  clear H'
  try clear c2
  try clear p2
  obtain ⟨x5_1,rfl,HA,HK1,⟨m1,rfl⟩⟩:=hrel
  cases gk with
  |zero=>exact absurd HA.out (by simp [jobshellref25_Has.l0])
  |succ k1=>
   have H:=HA.out
   clear HA
   simp only [jobshellref25_Has.l0] at H
   by_cases c3:x5_1 < (l0.length:Int)
   ·rw [if_pos c3] at H
    have c3b0:decide (x5_1 < (l0.length:Int))=true:=decide_eq_true c3
    clear c3
    by_cases c4:0≤x5_1
    ·rw [if_pos c4] at H
     have c4b0:decide (0≤x5_1)=true:=decide_eq_true c4
     clear c4
     by_cases c5:(rd l0 x5_1)=a1
     ·rw [if_pos c5] at H
      have c5b0:((rd l0 x5_1) == a1)=true:=beq_iff_eq.mpr c5
      have c5b1:((rd l0 x5_1) != a1)=false:=bne_eq_false_iff_eq.mpr c5
      clear c5
      obtain rfl:=Option.some.inj H
      have p268:0≤(x5_1:Int):=of_decide_eq_true (by first|(with_reducible assumption)|assumption)
      have q268:x5_1 < (l0.length:Int):=of_decide_eq_true (by first|(with_reducible assumption)|assumption)
      obtain ⟨ad268,e268,hx268_0⟩:=Kd.at_int HR0.out x5_1 p268 q268
      cases e268
      replace p268:=eq_true p268
      replace q268:=eq_true q268
      go_wp2
      go_ret
      exact ⟨by first|rfl|(simp;done)|(simp [*];done),by repeat (first|exact Drawn0.refl _|apply Drawn0.step)⟩
     ·rw [if_neg c5] at H
      have c5b0:((rd l0 x5_1) == a1)=false:=beq_eq_false_iff_ne.mpr c5
      have c5b1:((rd l0 x5_1) != a1)=true:=bne_iff_ne.mpr c5
      have H':=Zk H
      clear H
      have p268:0≤(x5_1:Int):=of_decide_eq_true (by first|(with_reducible assumption)|assumption)
      have q268:x5_1 < (l0.length:Int):=of_decide_eq_true (by first|(with_reducible assumption)|assumption)
      obtain ⟨ad268,e268,hx268_0⟩:=Kd.at_int HR0.out x5_1 p268 q268
      cases e268
      replace p268:=eq_true p268
      replace q268:=eq_true q268
      go_wp2
      go_roundg k1
      case measure=>have:=HK1.out;omega
      case rel=>exact ⟨(wrap64 (x5_1 + 1)),(by first|rfl|(simp;done)|(simp [*];done)|(generalize ByteArray.toList _=l_;cases l_ <;> rfl)),H',⟨by have:=HK1.out;omega⟩,by repeat (first|exact Drawn0.refl _|apply Drawn0.step)⟩
    ·rw [if_neg c4] at H
     exact absurd H (by simp)
   ·rw [if_neg c3] at H
    have c3b0:decide (x5_1 < (l0.length:Int))=false:=decide_eq_false c3
    clear c3
    obtain rfl:=Option.some.inj H
    go_wp2
    go_ret
    exact ⟨by first|rfl|(simp;done)|(simp [*];done),by repeat (first|exact Drawn0.refl _|apply Drawn0.step)⟩
def jobshellref25_list.l0:Nat→List Int→Int→Option (Bool)
 |0,_,_=>none
 |k + 1,x0,x3=>if x3 < (x0.length:Int) then (if 0≤x3 then ((jobshellref25_Name.f (rd x0 x3)).bind fun t270=>(if t270.toList=([]:List UInt8) then (some false) else (if x3 > 0 then (if 0≤(wrap64 (x3 - 1)) then (if (wrap64 (x3 - 1)) < (x0.length:Int) then (if (rd x0 x3)≤(rd x0 (wrap64 (x3 - 1))) then (some false) else (jobshellref25_list.l0 k x0 (wrap64 (x3 + 1)))) else (none)) else (none)) else (jobshellref25_list.l0 k x0 (wrap64 (x3 + 1)))))) else (none)) else (some true)
def jobshellref25_list.f (k:Nat) (l0:List Int):Option (Bool):=jobshellref25_list.l0 k l0 0
theorem jobshellref25_list.mono_l:∀ k,(∀ y0 y1,LeO (jobshellref25_list.l0 k y0 y1) (jobshellref25_list.l0 (k + 1) y0 y1))
 |0=>fun _ _ r h=>by simp [jobshellref25_list.l0] at h
 |k + 1=>by
  have ih0:=jobshellref25_list.mono_l k
  ·intro y0 y1
   unfold jobshellref25_list.l0
   repeat' first
   |(with_reducible exact ih0 _ _)
   |(with_reducible exact LeO.refl _)
   |(with_reducible exact LeO.none _)
   |(with_reducible refine LeO.ite ?_ ?_)
   |(with_reducible refine LeO.bind ?_ (fun _=>?_))
   |exact ih0 _ _
   |exact LeO.none _
   |refine LeO.ite ?_ ?_
   |refine LeO.bind ?_ (fun _=>?_)
theorem jobshellref25_list.mono:∀ a0 k,LeO (jobshellref25_list.f k a0) (jobshellref25_list.f (k + 1) a0):=by
 intro a0 k
 have ih0:=jobshellref25_list.mono_l k
 unfold jobshellref25_list.f
 repeat' first
   |(with_reducible exact ih0 _ _)
   |(with_reducible exact LeO.refl _)
   |(with_reducible exact LeO.none _)
   |(with_reducible refine LeO.ite ?_ ?_)
   |(with_reducible refine LeO.bind ?_ (fun _=>?_))
   |exact ih0 _ _
   |exact LeO.none _
   |refine LeO.ite ?_ ?_
   |refine LeO.bind ?_ (fun _=>?_)
set_option maxHeartbeats 8000000 in
set_option maxRecDepth 10000000 in
theorem jobshellref25_list.calls (k:Nat) (A0:Option Addr) (c0:Nat) (l0:List Int) (r:Bool) (w:World) (hr0:Kd.C (Kd.int .i64) w A0 l0.length l0) (hc0:l0.length≤c0) (h:jobshellref25_list.f k l0=some r) :
  Calls Tryd.prog 36 #[.slice A0 l0.length c0] w fun e w'=>e=.returned (.bool r)∧Drawn0 w w':=by
 have HR0:=Zk hr0
 have HC0:=Zk hc0
 clear hr0 hc0
 have H:(jobshellref25_list.l0 k l0 0)=some r:=h
 clear h
 have H':=Zk H
 clear H
 go_enter Tryd.func36,Tryd.ntmps36
 go_wp2
 repeat (go_quiet (fail);try go_wp2)
 go_loopg [3] k (fun kq v3 w'=>∃ (x3_1:Int),v3=.int .i64 x3_1∧zN (jobshellref25_list.l0 kq l0 x3_1=some r)∧zN (kq≤k)∧Drawn0 w w')
 case atStart=>exact ⟨(0),(by first|rfl|(simp;done)|(simp [*];done)|(generalize ByteArray.toList _=l_;cases l_ <;> rfl)),H',⟨Nat.le_refl _⟩,by repeat (first|exact Drawn0.refl _|apply Drawn0.step)⟩
 case round=>
  clear H'
  obtain ⟨x3_1,rfl,HA,HK1,⟨m1,rfl⟩⟩:=hrel
  cases gk with
  |zero=>exact absurd HA.out (by simp [jobshellref25_list.l0])
  |succ k1=>
   have H:=HA.out
   clear HA
   simp only [jobshellref25_list.l0] at H
   by_cases c2:x3_1 < (l0.length:Int)
   ·rw [if_pos c2] at H
    have c2b0:decide (x3_1 < (l0.length:Int))=true:=decide_eq_true c2
    clear c2
    by_cases c3:0≤x3_1
    ·rw [if_pos c3] at H
     have c3b0:decide (0≤x3_1)=true:=decide_eq_true c3
     clear c3
     replace H:=Option.bind_eq_some_iff.mp H
     obtain ⟨t270,A40,H⟩:=H
     replace H:(if t270.toList=([]:List UInt8) then (some false) else (if x3_1 > 0 then (if 0≤(wrap64 (x3_1 - 1)) then (if (wrap64 (x3_1 - 1)) < (l0.length:Int) then (if (rd l0 x3_1)≤(rd l0 (wrap64 (x3_1 - 1))) then (some false) else (jobshellref25_list.l0 k1 l0 (wrap64 (x3_1 + 1)))) else (none)) else (none)) else (jobshellref25_list.l0 k1 l0 (wrap64 (x3_1 + 1)))))=some r:=H
     have A4:=Zk A40
     clear A40
     by_cases c5:t270.toList=([]:List UInt8)
     ·rw [if_pos c5] at H
      have c5b0:(t270.toList == ([]:List UInt8))=true:=beq_iff_eq.mpr c5
      have c5b1:(t270.toList != ([]:List UInt8))=false:=bne_eq_false_iff_eq.mpr c5
      clear c5
      obtain rfl:=Option.some.inj H
      have p269:0≤(x3_1:Int):=of_decide_eq_true (by first|(with_reducible assumption)|assumption)
      have q269:x3_1 < (l0.length:Int):=of_decide_eq_true (by first|(with_reducible assumption)|assumption)
      obtain ⟨ad269,e269,hx269_0⟩:=Kd.at_int HR0.out x3_1 p269 q269
      cases e269
      replace p269:=eq_true p269
      replace q269:=eq_true q269
      go_wp2_with (first|(go_at_call 14;(with_reducible refine (jobshellref25_Name.calls (rd l0 x3_1) t270 _ A4.out).mono ?_);rintro e w' ⟨rfl,⟨nd,rfl⟩⟩;(try first|exact ⟨rfl,_,World.drewN_drewN _ _ _⟩|exact ⟨rfl,_,Eq.trans (World.drewN_drewN _ _ _) (congrArg (World.drewN _) (Nat.add_assoc _ _ _))⟩)))
      repeat (go_quiet (first|(go_at_call 14;(with_reducible refine (jobshellref25_Name.calls (rd l0 x3_1) t270 _ A4.out).mono ?_);rintro e w' ⟨rfl,⟨nd,rfl⟩⟩;(try first|exact ⟨rfl,_,World.drewN_drewN _ _ _⟩|exact ⟨rfl,_,Eq.trans (World.drewN_drewN _ _ _) (congrArg (World.drewN _) (Nat.add_assoc _ _ _))⟩)));try go_wp2_with (first|(go_at_call 14;(with_reducible refine (jobshellref25_Name.calls (rd l0 x3_1) t270 _ A4.out).mono ?_);rintro e w' ⟨rfl,⟨nd,rfl⟩⟩;(try first|exact ⟨rfl,_,World.drewN_drewN _ _ _⟩|exact ⟨rfl,_,Eq.trans (World.drewN_drewN _ _ _) (congrArg (World.drewN _) (Nat.add_assoc _ _ _))⟩))))
      go_ret
      exact ⟨by first|rfl|(simp;done)|(simp [*];done),by repeat (first|exact Drawn0.refl _|apply Drawn0.step)⟩
     ·rw [if_neg c5] at H
      have c5b0:(t270.toList == ([]:List UInt8))=false:=beq_eq_false_iff_ne.mpr c5
      have c5b1:(t270.toList != ([]:List UInt8))=true:=bne_iff_ne.mpr c5
      by_cases c6:x3_1 > 0
      ·rw [if_pos c6] at H
       have c6b0:decide (0 < x3_1)=true:=decide_eq_true c6
       clear c6
       obtain ⟨ji7,hji7⟩:∃ j_:Int,(wrap64 (x3_1 - 1))=j_:=⟨_,rfl⟩
       replace H:(if 0≤(ji7) then (if (ji7) < (l0.length:Int) then (if (rd l0 x3_1)≤(rd l0 (ji7)) then (some false) else (jobshellref25_list.l0 k1 l0 (wrap64 (x3_1 + 1)))) else (none)) else (none))=some r:=by first|(rw [hji7] at H;exact H)|(simp only [hji7] at H ⊢;exact H)
       (try rw [hji7] at A4)
       have hji7w:(IntKind.i64.wrap (x3_1 - 1))=ji7:=(yX _).trans hji7
       by_cases c8:0≤(ji7)
       ·rw [if_pos c8] at H
        have c8b0:decide (0≤(ji7))=true:=decide_eq_true c8
        clear c8
        by_cases c9:(ji7) < (l0.length:Int)
        ·rw [if_pos c9] at H
         have c9b0:decide ((ji7) < (l0.length:Int))=true:=decide_eq_true c9
         clear c9
         by_cases c10:(rd l0 x3_1)≤(rd l0 (ji7))
         ·rw [if_pos c10] at H
          have c10b0:decide ((rd l0 x3_1)≤(rd l0 (ji7)))=true:=decide_eq_true c10
          clear c10
          obtain rfl:=Option.some.inj H
          have p269:0≤(x3_1:Int):=of_decide_eq_true (by first|(with_reducible assumption)|assumption)
          have q269:x3_1 < (l0.length:Int):=of_decide_eq_true (by first|(with_reducible assumption)|assumption)
          obtain ⟨ad269,e269,hx269_0⟩:=Kd.at_int HR0.out x3_1 p269 q269
          cases e269
          replace p269:=eq_true p269
          replace q269:=eq_true q269
          go_wp2_with (first|(go_at_call 14;(with_reducible refine (jobshellref25_Name.calls (rd l0 x3_1) t270 _ A4.out).mono ?_);rintro e w' ⟨rfl,⟨nd,rfl⟩⟩;(try first|exact ⟨rfl,_,World.drewN_drewN _ _ _⟩|exact ⟨rfl,_,Eq.trans (World.drewN_drewN _ _ _) (congrArg (World.drewN _) (Nat.add_assoc _ _ _))⟩);have p271:0≤(x3_1:Int):=of_decide_eq_true (by first|(with_reducible assumption)|assumption);have q271:x3_1 < (l0.length:Int):=of_decide_eq_true (by first|(with_reducible assumption)|assumption);obtain ⟨ad271,e271,hx271_0⟩:=Kd.at_int HR0.out x3_1 p271 q271;obtain rfl:ad269=ad271:=(by injection e271);replace p271:=eq_true p271;replace q271:=eq_true q271;have p272:0≤((ji7):Int):=of_decide_eq_true (by first|(with_reducible assumption)|assumption);have q272:(ji7) < (l0.length:Int):=of_decide_eq_true (by first|(with_reducible assumption)|assumption);obtain ⟨ad272,e272,hx272_0⟩:=Kd.at_int HR0.out (ji7) p272 q272;obtain rfl:ad269=ad272:=(by injection e272);replace p272:=eq_true p272;replace q272:=eq_true q272))
          repeat (go_quiet (first|(go_at_call 14;(with_reducible refine (jobshellref25_Name.calls (rd l0 x3_1) t270 _ A4.out).mono ?_);rintro e w' ⟨rfl,⟨nd,rfl⟩⟩;(try first|exact ⟨rfl,_,World.drewN_drewN _ _ _⟩|exact ⟨rfl,_,Eq.trans (World.drewN_drewN _ _ _) (congrArg (World.drewN _) (Nat.add_assoc _ _ _))⟩);have p271:0≤(x3_1:Int):=of_decide_eq_true (by first|(with_reducible assumption)|assumption);have q271:x3_1 < (l0.length:Int):=of_decide_eq_true (by first|(with_reducible assumption)|assumption);obtain ⟨ad271,e271,hx271_0⟩:=Kd.at_int HR0.out x3_1 p271 q271;obtain rfl:ad269=ad271:=(by injection e271);replace p271:=eq_true p271;replace q271:=eq_true q271;have p272:0≤((ji7):Int):=of_decide_eq_true (by first|(with_reducible assumption)|assumption);have q272:(ji7) < (l0.length:Int):=of_decide_eq_true (by first|(with_reducible assumption)|assumption);obtain ⟨ad272,e272,hx272_0⟩:=Kd.at_int HR0.out (ji7) p272 q272;obtain rfl:ad269=ad272:=(by injection e272);replace p272:=eq_true p272;replace q272:=eq_true q272));try go_wp2_with (first|(go_at_call 14;(with_reducible refine (jobshellref25_Name.calls (rd l0 x3_1) t270 _ A4.out).mono ?_);rintro e w' ⟨rfl,⟨nd,rfl⟩⟩;(try first|exact ⟨rfl,_,World.drewN_drewN _ _ _⟩|exact ⟨rfl,_,Eq.trans (World.drewN_drewN _ _ _) (congrArg (World.drewN _) (Nat.add_assoc _ _ _))⟩);have p271:0≤(x3_1:Int):=of_decide_eq_true (by first|(with_reducible assumption)|assumption);have q271:x3_1 < (l0.length:Int):=of_decide_eq_true (by first|(with_reducible assumption)|assumption);obtain ⟨ad271,e271,hx271_0⟩:=Kd.at_int HR0.out x3_1 p271 q271;obtain rfl:ad269=ad271:=(by injection e271);replace p271:=eq_true p271;replace q271:=eq_true q271;have p272:0≤((ji7):Int):=of_decide_eq_true (by first|(with_reducible assumption)|assumption);have q272:(ji7) < (l0.length:Int):=of_decide_eq_true (by first|(with_reducible assumption)|assumption);obtain ⟨ad272,e272,hx272_0⟩:=Kd.at_int HR0.out (ji7) p272 q272;obtain rfl:ad269=ad272:=(by injection e272);replace p272:=eq_true p272;replace q272:=eq_true q272)))
          go_ret
          exact ⟨by first|rfl|(simp;done)|(simp only [← hji7] <;> (first|rfl|simp))|(simp [*];done),by repeat (first|exact Drawn0.refl _|apply Drawn0.step)⟩
         ·rw [if_neg c10] at H
          have c10b0:decide ((rd l0 x3_1)≤(rd l0 (ji7)))=false:=decide_eq_false c10
          clear c10
          have H':=Zk H
          clear H
          have p269:0≤(x3_1:Int):=of_decide_eq_true (by first|(with_reducible assumption)|assumption)
          have q269:x3_1 < (l0.length:Int):=of_decide_eq_true (by first|(with_reducible assumption)|assumption)
          obtain ⟨ad269,e269,hx269_0⟩:=Kd.at_int HR0.out x3_1 p269 q269
          cases e269
          replace p269:=eq_true p269
          replace q269:=eq_true q269
          go_wp2_with (first|(go_at_call 14;(with_reducible refine (jobshellref25_Name.calls (rd l0 x3_1) t270 _ A4.out).mono ?_);rintro e w' ⟨rfl,⟨nd,rfl⟩⟩;(try first|exact ⟨rfl,_,World.drewN_drewN _ _ _⟩|exact ⟨rfl,_,Eq.trans (World.drewN_drewN _ _ _) (congrArg (World.drewN _) (Nat.add_assoc _ _ _))⟩);have p271:0≤(x3_1:Int):=of_decide_eq_true (by first|(with_reducible assumption)|assumption);have q271:x3_1 < (l0.length:Int):=of_decide_eq_true (by first|(with_reducible assumption)|assumption);obtain ⟨ad271,e271,hx271_0⟩:=Kd.at_int HR0.out x3_1 p271 q271;obtain rfl:ad269=ad271:=(by injection e271);replace p271:=eq_true p271;replace q271:=eq_true q271;have p272:0≤((ji7):Int):=of_decide_eq_true (by first|(with_reducible assumption)|assumption);have q272:(ji7) < (l0.length:Int):=of_decide_eq_true (by first|(with_reducible assumption)|assumption);obtain ⟨ad272,e272,hx272_0⟩:=Kd.at_int HR0.out (ji7) p272 q272;obtain rfl:ad269=ad272:=(by injection e272);replace p272:=eq_true p272;replace q272:=eq_true q272))
          repeat (go_quiet (first|(go_at_call 14;(with_reducible refine (jobshellref25_Name.calls (rd l0 x3_1) t270 _ A4.out).mono ?_);rintro e w' ⟨rfl,⟨nd,rfl⟩⟩;(try first|exact ⟨rfl,_,World.drewN_drewN _ _ _⟩|exact ⟨rfl,_,Eq.trans (World.drewN_drewN _ _ _) (congrArg (World.drewN _) (Nat.add_assoc _ _ _))⟩);have p271:0≤(x3_1:Int):=of_decide_eq_true (by first|(with_reducible assumption)|assumption);have q271:x3_1 < (l0.length:Int):=of_decide_eq_true (by first|(with_reducible assumption)|assumption);obtain ⟨ad271,e271,hx271_0⟩:=Kd.at_int HR0.out x3_1 p271 q271;obtain rfl:ad269=ad271:=(by injection e271);replace p271:=eq_true p271;replace q271:=eq_true q271;have p272:0≤((ji7):Int):=of_decide_eq_true (by first|(with_reducible assumption)|assumption);have q272:(ji7) < (l0.length:Int):=of_decide_eq_true (by first|(with_reducible assumption)|assumption);obtain ⟨ad272,e272,hx272_0⟩:=Kd.at_int HR0.out (ji7) p272 q272;obtain rfl:ad269=ad272:=(by injection e272);replace p272:=eq_true p272;replace q272:=eq_true q272));try go_wp2_with (first|(go_at_call 14;(with_reducible refine (jobshellref25_Name.calls (rd l0 x3_1) t270 _ A4.out).mono ?_);rintro e w' ⟨rfl,⟨nd,rfl⟩⟩;(try first|exact ⟨rfl,_,World.drewN_drewN _ _ _⟩|exact ⟨rfl,_,Eq.trans (World.drewN_drewN _ _ _) (congrArg (World.drewN _) (Nat.add_assoc _ _ _))⟩);have p271:0≤(x3_1:Int):=of_decide_eq_true (by first|(with_reducible assumption)|assumption);have q271:x3_1 < (l0.length:Int):=of_decide_eq_true (by first|(with_reducible assumption)|assumption);obtain ⟨ad271,e271,hx271_0⟩:=Kd.at_int HR0.out x3_1 p271 q271;obtain rfl:ad269=ad271:=(by injection e271);replace p271:=eq_true p271;replace q271:=eq_true q271;have p272:0≤((ji7):Int):=of_decide_eq_true (by first|(with_reducible assumption)|assumption);have q272:(ji7) < (l0.length:Int):=of_decide_eq_true (by first|(with_reducible assumption)|assumption);obtain ⟨ad272,e272,hx272_0⟩:=Kd.at_int HR0.out (ji7) p272 q272;obtain rfl:ad269=ad272:=(by injection e272);replace p272:=eq_true p272;replace q272:=eq_true q272)))
          go_roundg k1
          case measure=>have:=HK1.out;omega
          case rel=>exact ⟨(wrap64 (x3_1 + 1)),(by first|rfl|(simp;done)|(simp [*];done)|(generalize ByteArray.toList _=l_;cases l_ <;> rfl)),H',⟨by have:=HK1.out;omega⟩,by repeat (first|exact Drawn0.refl _|apply Drawn0.step)⟩
        ·rw [if_neg c9] at H
         exact absurd H (by simp)
       ·rw [if_neg c8] at H
        exact absurd H (by simp)
      ·rw [if_neg c6] at H
       have c6b0:decide (0 < x3_1)=false:=decide_eq_false c6
       clear c6
       have H':=Zk H
       clear H
       have p269:0≤(x3_1:Int):=of_decide_eq_true (by first|(with_reducible assumption)|assumption)
       have q269:x3_1 < (l0.length:Int):=of_decide_eq_true (by first|(with_reducible assumption)|assumption)
       obtain ⟨ad269,e269,hx269_0⟩:=Kd.at_int HR0.out x3_1 p269 q269
       cases e269
       replace p269:=eq_true p269
       replace q269:=eq_true q269
       go_wp2_with (first|(go_at_call 14;(with_reducible refine (jobshellref25_Name.calls (rd l0 x3_1) t270 _ A4.out).mono ?_);rintro e w' ⟨rfl,⟨nd,rfl⟩⟩;(try first|exact ⟨rfl,_,World.drewN_drewN _ _ _⟩|exact ⟨rfl,_,Eq.trans (World.drewN_drewN _ _ _) (congrArg (World.drewN _) (Nat.add_assoc _ _ _))⟩)))
       repeat (go_quiet (first|(go_at_call 14;(with_reducible refine (jobshellref25_Name.calls (rd l0 x3_1) t270 _ A4.out).mono ?_);rintro e w' ⟨rfl,⟨nd,rfl⟩⟩;(try first|exact ⟨rfl,_,World.drewN_drewN _ _ _⟩|exact ⟨rfl,_,Eq.trans (World.drewN_drewN _ _ _) (congrArg (World.drewN _) (Nat.add_assoc _ _ _))⟩)));try go_wp2_with (first|(go_at_call 14;(with_reducible refine (jobshellref25_Name.calls (rd l0 x3_1) t270 _ A4.out).mono ?_);rintro e w' ⟨rfl,⟨nd,rfl⟩⟩;(try first|exact ⟨rfl,_,World.drewN_drewN _ _ _⟩|exact ⟨rfl,_,Eq.trans (World.drewN_drewN _ _ _) (congrArg (World.drewN _) (Nat.add_assoc _ _ _))⟩))))
       go_roundg k1
       case measure=>have:=HK1.out;omega
       case rel=>exact ⟨(wrap64 (x3_1 + 1)),(by first|rfl|(simp;done)|(simp [*];done)|(generalize ByteArray.toList _=l_;cases l_ <;> rfl)),H',⟨by have:=HK1.out;omega⟩,by repeat (first|exact Drawn0.refl _|apply Drawn0.step)⟩
    ·rw [if_neg c3] at H
     exact absurd H (by simp)
   ·rw [if_neg c2] at H
    have c2b0:decide (x3_1 < (l0.length:Int))=false:=decide_eq_false c2
    clear c2
    obtain rfl:=Option.some.inj H
    go_wp2
    repeat (go_quiet (fail);try go_wp2)
    go_ret
    exact ⟨by first|rfl|(simp;done)|(simp [*];done),by repeat (first|exact Drawn0.refl _|apply Drawn0.step)⟩
end Go.Proofs.YtnkkdpjipfjdaaaDoor.Q
end
