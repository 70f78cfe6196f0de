/- Own texts of one claim, put one behind the other by wip/tool/pack.py: words beside the print's, what each printed function computes, and the plain laws. -/
import Derived.Test.YtnkkdpjipfjdaaaDoorKStE
section

namespace Go.Proofs.YtnkkdpjipfjdaaaDoor.Q
open Go.RowKit Go.Proofs.YtnkkdpjipfjdaaaDoorW.PrintWords Go.Proofs.YtnkkdpjipfjdaaaDoorW.PrintLast Go.Proofs.YtnkkdpjipfjdaaaDoorW.PrintMore Go.Proofs.YtnkkdpjipfjdaaaDoorM
open Kd
attribute [local go_sem] max2_int min2_int max_two min_two max_three min_three max_four min_four
set_option linter.unusedVariables false
set_option linter.unusedSimpArgs false
def signal_Fork.f (l0_0:List Int) (l0_1:List Int) (l0_2:List Int):Option (List Int × List Int × List Int):=(signal_copied.f l0_0 l0_1 l0_2).bind fun bt550=>(some (([]:List Int),bt550.2.1,bt550.2.2))
set_option maxHeartbeats 8000000 in
set_option maxRecDepth 10000000 in
theorem signal_Fork.calls (A0_0:Option Addr) (c0_0:Nat) (l0_0:List Int) (A0_1:Option Addr) (c0_1:Nat) (l0_1:List Int) (A0_2:Option Addr) (c0_2:Nat) (l0_2:List Int) (r1:List Int) (r2:List Int) (r3:List Int) (w:World) (hr0_0:Kd.C (Kd.int .i64) w A0_0 l0_0.length l0_0) (hc0_0:l0_0.length≤c0_0) (hr0_1:Kd.C (Kd.int .i64) w A0_1 l0_1.length l0_1) (hc0_1:l0_1.length≤c0_1) (hr0_2:Kd.C (Kd.int .i64) w A0_2 l0_2.length l0_2) (hc0_2:l0_2.length≤c0_2) (h:signal_Fork.f l0_0 l0_1 l0_2=some (r1,r2,r3)) :
  Calls Tryd.prog 27 #[.agg #[.slice A0_0 l0_0.length c0_0,.slice A0_1 l0_1.length c0_1,.slice A0_2 l0_2.length c0_2]] w fun e w'=>∃ v0_ v1_ v2_:Value,e=.returned (.agg #[v0_,v1_,v2_])∧Kd.R (Kd.int .i64) 3 w' w.heap.size (fun k_=>some k_≠(v1_:Value).ownBlock∧some k_≠(v2_:Value).ownBlock) v0_ r1∧Kd.R (Kd.int .i64) 3 w' w.heap.size (fun k_=>some k_≠(v0_:Value).ownBlock∧some k_≠(v2_:Value).ownBlock) v1_ r2∧Kd.R (Kd.int .i64) 3 w' w.heap.size (fun k_=>some k_≠(v0_:Value).ownBlock∧some k_≠(v1_:Value).ownBlock) v2_ r3∧Below w.heap.size w w':=by
 have hu30:=Tryd.underlying30
 have HR0_0:=Zk hr0_0
 have HC0_0:=Zk hc0_0
 clear hr0_0 hc0_0
 have HR0_1:=Zk hr0_1
 have HC0_1:=Zk hc0_1
 clear hr0_1 hc0_1
 have HR0_2:=Zk hr0_2
 have HC0_2:=Zk hc0_2
 clear hr0_2 hc0_2
 have HB:=Zk (Below.refl w.heap.size w)
 have H:((signal_copied.f l0_0 l0_1 l0_2).bind fun bt550=>(some (([]:List Int),bt550.2.1,bt550.2.2)))=some (r1,r2,r3):=h
 clear h
 replace H:=Option.bind_eq_some_iff.mp H
 obtain ⟨⟨t550,t553,t556⟩,A20,H⟩:=H
 replace H:(some (([]:List Int),t553,t556))=some (r1,r2,r3):=H
 have A2:=Zk A20
 clear A20
 simp only [Option.some.injEq,Prod.mk.injEq] at H
 obtain ⟨rfl,rfl,rfl⟩:=H
 go_enter Tryd.func27,Tryd.ntmps27
 go_wp2_with (first|((with_reducible refine yT (N:=1) rfl ?_);refine yV ?hg (N:=1) ?hd (cs:=#[.slice A0_0 l0_0.length c0_0,.slice A0_1 l0_1.length c0_1,.slice A0_2 l0_2.length c0_2]) (t:=30) ?hr ?_;(case hd=>rfl);(case hg=>rfl);(case hr=>first|(go_simp;done)|(go_simp;rfl));intro gb548 hg w3 hbox hb;have n0_:=Zk (yA (by repeat (first|(with_reducible first|exact HB.out|apply zG|apply zD|apply zH)|exact HB.out)) hb);have n1_:=Zk (hbox);have n2_:=Zk ((by rw [hg];exact (zP (by repeat (first|(with_reducible first|exact HB.out|apply zG|apply zD|apply zH)|exact HB.out))):w.heap.size≤gb548));have n3_:=Zk ((by rw [hg];exact (zP (by repeat (first|(with_reducible first|exact HB.out|apply zG|apply zD|apply zH)|exact HB.out))):w.heap.size≤gb548));clear HB;have HB:=n0_;have BK548:=n1_;have GW548:=n2_;have GE548:=n3_;clear n0_ n1_ n2_ n3_;clear hb hbox hg)|((with_reducible refine yT (N:=2) rfl ?_);refine yV ?hg (N:=2) ?hd (cs:=#[.slice none 0 0,.slice none 0 0,.slice none 0 0]) (t:=30) ?hr ?_;(case hd=>rfl);(case hg=>rfl);(case hr=>first|(go_simp;done)|(go_simp;rfl));intro gb549 hg w4 hbox hb;have n0_:=Zk (zW (g:=gb548) (o:=.cells #[.slice A0_0 l0_0.length c0_0,.slice A0_1 l0_1.length c0_1,.slice A0_2 l0_2.length c0_2] 30 (0,0)) (by (with_reducible repeat (first|refine zB ?_ _|refine zF ?_|refine zA ?_ _));exact BK548.out) hb);have n1_:=Zk (yA (by repeat (first|(with_reducible first|exact HB.out|apply zG|apply zD|apply zH|refine zC ?_ GE548.out)|exact HB.out)) hb);have n2_:=Zk (hbox);have n3_:=Zk ((by rw [hg];exact (zP (by repeat (first|(with_reducible first|exact HB.out|apply zG|apply zD|apply zH|refine zC ?_ GE548.out)|exact HB.out))):w.heap.size≤gb549));have n4_:=Zk ((by rw [hg];exact (zP (by repeat (first|(with_reducible first|exact HB.out|apply zG|apply zD|apply zH|refine zC ?_ GE548.out)|exact HB.out))):w.heap.size≤gb549));have n5_:=Zk ((by rw [hg];exact Nat.ne_of_lt (yN (g:=gb548) (o:=.cells #[.slice A0_0 l0_0.length c0_0,.slice A0_1 l0_1.length c0_1,.slice A0_2 l0_2.length c0_2] 30 (0,0)) (by (with_reducible repeat (first|refine zB ?_ _|refine zF ?_|refine zA ?_ _));exact BK548.out)):gb548≠gb549));have n6_:=Zk ((by rw [hg];exact Nat.ne_of_gt (yN (g:=gb548) (o:=.cells #[.slice A0_0 l0_0.length c0_0,.slice A0_1 l0_1.length c0_1,.slice A0_2 l0_2.length c0_2] 30 (0,0)) (by (with_reducible repeat (first|refine zB ?_ _|refine zF ?_|refine zA ?_ _));exact BK548.out)):gb549≠gb548));clear BK548;clear HB;have BK548:=n0_;have HB:=n1_;have BK549:=n2_;have GW549:=n3_;have GE549:=n4_;have NB548_549:=n5_;have NB549_548:=n6_;clear n0_ n1_ n2_ n3_ n4_ n5_ n6_;clear hb hbox hg;have hnb5:=NB548_549.out;have hnc5:=NB549_548.out;have hcz6_0:w4.cell? ⟨gb548,0,none⟩=some (.slice A0_0 l0_0.length c0_0):=(zJ BK548.out 0).trans rfl;have hcz6_1:w4.cell? ⟨gb548,1,none⟩=some (.slice A0_1 l0_1.length c0_1):=(zJ BK548.out 1).trans rfl;have hcz6_2:w4.cell? ⟨gb548,2,none⟩=some (.slice A0_2 l0_2.length c0_2):=(zJ BK548.out 2).trans rfl;have hfz6_0:=zI BK548.out 0;have hfz6_1:=zI BK548.out 1;have hfz6_2:=zI BK548.out 2)|((with_reducible refine yD (f:=39) rfl ?_);refine yM (some 4) rfl rfl Tryd.func39 (by kernel_rfl) rfl #[.agg #[.slice A0_0 l0_0.length c0_0,.slice A0_1 l0_1.length c0_1,.slice A0_2 l0_2.length c0_2]] rfl (by (try simp only [List.map_toArray,List.map_cons,List.map_nil]);first|done|rfl|(simp only [List.length_drop,List.length_take];rfl)) ?_;(with_reducible refine (signal_copied.calls _ _ l0_0 _ _ l0_1 _ _ l0_2 t550 t553 t556 _ ?side1 ?side2 ?side3 ?side4 ?side5 ?side6 A2.out).mono ?_);(case side1=>repeat (first|exact (yS HR0_0.out HB.out)|(with_reducible refine yG ?_ _)|(with_reducible refine yF ?_ _)|(with_reducible refine yI ?_)));(case side2=>exact HC0_0.out);(case side3=>repeat (first|exact (yS HR0_1.out HB.out)|(with_reducible refine yG ?_ _)|(with_reducible refine yF ?_ _)|(with_reducible refine yI ?_)));(case side4=>exact HC0_1.out);(case side5=>repeat (first|exact (yS HR0_2.out HB.out)|(with_reducible refine yG ?_ _)|(with_reducible refine yF ?_ _)|(with_reducible refine yI ?_)));(case side6=>exact HC0_2.out);rintro e w7 ⟨v551,v554,v557,rfl,ho0,ho1,ho2,hb⟩;refine ⟨_,rfl,?_⟩;have n0_:=Zk (yU ho0 (zP (by repeat (first|(with_reducible first|exact HB.out|apply zG|apply zD|apply zH|refine zC ?_ GE548.out|refine zC ?_ GE549.out)|exact HB.out))));have n1_:=Zk (yU ho1 (zP (by repeat (first|(with_reducible first|exact HB.out|apply zG|apply zD|apply zH|refine zC ?_ GE548.out|refine zC ?_ GE549.out)|exact HB.out))));have n2_:=Zk (yU ho2 (zP (by repeat (first|(with_reducible first|exact HB.out|apply zG|apply zD|apply zH|refine zC ?_ GE548.out|refine zC ?_ GE549.out)|exact HB.out))));have n3_:=Zk (zW (g:=gb548) (o:=.cells #[.slice A0_0 l0_0.length c0_0,.slice A0_1 l0_1.length c0_1,.slice A0_2 l0_2.length c0_2] 30 (0,0)) (by (with_reducible repeat (first|refine zB ?_ _|refine zF ?_|refine zA ?_ _));exact BK548.out) hb);have n4_:=Zk (zW (g:=gb549) (o:=.cells #[.slice none 0 0,.slice none 0 0,.slice none 0 0] 30 (0,0)) (by (with_reducible repeat (first|refine zB ?_ _|refine zF ?_|refine zA ?_ _));exact BK549.out) hb);have n5_:=Zk (yA (by repeat (first|(with_reducible first|exact HB.out|apply zG|apply zD|apply zH|refine zC ?_ GE548.out|refine zC ?_ GE549.out)|exact HB.out)) hb);clear BK548;clear BK549;clear HB;have HO552:=n0_;have HO555:=n1_;have HO558:=n2_;have BK548:=n3_;have BK549:=n4_;have HB:=n5_;clear n0_ n1_ n2_ n3_ n4_ n5_;(try clear hb);(try clear hb2);(try clear hk);(try clear hi);(try clear ho0);(try clear ho1);(try clear ho2);obtain ⟨Ao8,co8,eo8⟩:=yQ HO552.out;subst eo8;have hcz9_0:w7.cell? ⟨gb548,0,none⟩=some (.slice A0_0 l0_0.length c0_0):=(zJ BK548.out 0).trans rfl;have hcz9_1:w7.cell? ⟨gb548,1,none⟩=some (.slice A0_1 l0_1.length c0_1):=(zJ BK548.out 1).trans rfl;have hcz9_2:w7.cell? ⟨gb548,2,none⟩=some (.slice A0_2 l0_2.length c0_2):=(zJ BK548.out 2).trans rfl;have hfz9_0:=zI BK548.out 0;have hfz9_1:=zI BK548.out 1;have hfz9_2:=zI BK548.out 2;obtain ⟨Ao10,co10,eo10⟩:=yQ HO555.out;subst eo10;obtain ⟨Ao11,co11,eo11⟩:=yQ HO558.out;subst eo11)|((with_reducible refine xA (t:=30) (p:=1) rfl ?_);refine yY (t:=30) (p:=1) (v:=?vo_w12) (w1:=(((w7.setCell ⟨gb548,0,none⟩ (.slice Ao8 t550.length co8)).setCell ⟨gb548,1,none⟩ (.slice Ao10 t553.length co10)).setCell ⟨gb548,2,none⟩ (.slice Ao11 t556.length co11))) ?hg ?ho ?hn ?hr ?_;(case ho=>rfl);(case hg=>rfl);(case hn=>rfl);(case hr=>first|(go_simp;done)|(go_simp;rfl));intro w12 hw;have n0_:zN (Kd.R (Kd.int .i64) 3 w12 w.heap.size (fun k_=>some k_≠(.slice Ao10 t553.length co10:Value).ownBlock∧some k_≠(.slice Ao11 t556.length co11:Value).ownBlock) (.slice Ao8 t550.length co8) t550):=⟨(by rw [hw];exact (by (with_reducible repeat (first|apply zR|apply zQ|apply zU));exact yB (zT (p:=⟨gb548,2,none⟩) (zT (p:=⟨gb548,1,none⟩) (zT (p:=⟨gb548,0,none⟩) (zX HO552.out BK548.out (by decide)) (fun _ hk=>hk.2) (.slice Ao8 t550.length co8)) (fun _ hk=>hk.2) (.slice Ao10 t553.length co10)) (fun _ hk=>hk.2) (.slice Ao11 t556.length co11)) (fun _ hk=>⟨hk.1.1,hk.1.2⟩)))⟩;have n1_:zN (Kd.R (Kd.int .i64) 3 w12 w.heap.size (fun k_=>some k_≠(.slice Ao8 t550.length co8:Value).ownBlock∧some k_≠(.slice Ao11 t556.length co11:Value).ownBlock) (.slice Ao10 t553.length co10) t553):=⟨(by rw [hw];exact (by (with_reducible repeat (first|apply zR|apply zQ|apply zU));exact yB (zT (p:=⟨gb548,2,none⟩) (zT (p:=⟨gb548,1,none⟩) (zT (p:=⟨gb548,0,none⟩) (zX HO555.out BK548.out (by decide)) (fun _ hk=>hk.2) (.slice Ao8 t550.length co8)) (fun _ hk=>hk.2) (.slice Ao10 t553.length co10)) (fun _ hk=>hk.2) (.slice Ao11 t556.length co11)) (fun _ hk=>⟨hk.1.1,hk.1.2⟩)))⟩;have n2_:zN (Kd.R (Kd.int .i64) 3 w12 w.heap.size (fun k_=>some k_≠(.slice Ao8 t550.length co8:Value).ownBlock∧some k_≠(.slice Ao10 t553.length co10:Value).ownBlock) (.slice Ao11 t556.length co11) t556):=⟨(by rw [hw];exact (by (with_reducible repeat (first|apply zR|apply zQ|apply zU));exact yB (zT (p:=⟨gb548,2,none⟩) (zT (p:=⟨gb548,1,none⟩) (zT (p:=⟨gb548,0,none⟩) (zX HO558.out BK548.out (by decide)) (fun _ hk=>hk.2) (.slice Ao8 t550.length co8)) (fun _ hk=>hk.2) (.slice Ao10 t553.length co10)) (fun _ hk=>hk.2) (.slice Ao11 t556.length co11)) (fun _ hk=>⟨hk.1.1,hk.1.2⟩)))⟩;have n3_:zN (w12.heap[gb548]?=some (.cells #[.slice Ao8 t550.length co8,.slice Ao10 t553.length co10,.slice Ao11 t556.length co11] 30 (0,0))):=⟨(by rw [hw];exact (by (with_reducible repeat (first|refine zB ?_ _|refine zF ?_|refine zA ?_ _));refine yE (cs:=#[.slice Ao8 t550.length co8,.slice Ao10 t553.length co10,.slice A0_2 l0_2.length c0_2]) ?_ 2 _ rfl;(with_reducible repeat (first|refine zB ?_ _|refine zF ?_|refine zA ?_ _));refine yE (cs:=#[.slice Ao8 t550.length co8,.slice A0_1 l0_1.length c0_1,.slice A0_2 l0_2.length c0_2]) ?_ 1 _ rfl;(with_reducible repeat (first|refine zB ?_ _|refine zF ?_|refine zA ?_ _));refine yE (cs:=#[.slice A0_0 l0_0.length c0_0,.slice A0_1 l0_1.length c0_1,.slice A0_2 l0_2.length c0_2]) ?_ 0 _ rfl;(with_reducible repeat (first|refine zB ?_ _|refine zF ?_|refine zA ?_ _));exact BK548.out))⟩;have n4_:zN (w12.heap[gb549]?=some (.cells #[.slice none 0 0,.slice none 0 0,.slice none 0 0] 30 (0,0))):=⟨(by rw [hw];exact (by (with_reducible repeat (first|refine zB ?_ _|refine zF ?_|refine zA ?_ _));refine zY ?_ NB549_548.out _;(with_reducible repeat (first|refine zB ?_ _|refine zF ?_|refine zA ?_ _));refine zY ?_ NB549_548.out _;(with_reducible repeat (first|refine zB ?_ _|refine zF ?_|refine zA ?_ _));refine zY ?_ NB549_548.out _;(with_reducible repeat (first|refine zB ?_ _|refine zF ?_|refine zA ?_ _));exact BK549.out))⟩;have n5_:zN (Below w.heap.size w w12):=⟨(by rw [hw];exact (by repeat (first|(with_reducible first|exact HB.out|apply zG|apply zD|apply zH|refine zC ?_ GE548.out|refine zC ?_ GE549.out)|exact HB.out)))⟩;clear hw;clear HO552;clear HO555;clear HO558;clear BK548;clear BK549;clear HB;have HO552:=n0_;have HO555:=n1_;have HO558:=n2_;have BK548:=n3_;have BK549:=n4_;have HB:=n5_;clear n0_ n1_ n2_ n3_ n4_ n5_;have hcz13_0:w12.cell? ⟨gb548,0,none⟩=some (.slice Ao8 t550.length co8):=(zJ BK548.out 0).trans rfl;have hcz13_1:w12.cell? ⟨gb548,1,none⟩=some (.slice Ao10 t553.length co10):=(zJ BK548.out 1).trans rfl;have hcz13_2:w12.cell? ⟨gb548,2,none⟩=some (.slice Ao11 t556.length co11):=(zJ BK548.out 2).trans rfl;have hfz13_0:=zI BK548.out 0;have hfz13_1:=zI BK548.out 1;have hfz13_2:=zI BK548.out 2;have hcz14_0:w12.cell? ⟨gb549,0,none⟩=some (.slice none 0 0):=(zJ BK549.out 0).trans rfl;have hcz14_1:w12.cell? ⟨gb549,1,none⟩=some (.slice none 0 0):=(zJ BK549.out 1).trans rfl;have hcz14_2:w12.cell? ⟨gb549,2,none⟩=some (.slice none 0 0):=(zJ BK549.out 2).trans rfl;have hfz14_0:=zI BK549.out 0;have hfz14_1:=zI BK549.out 1;have hfz14_2:=zI BK549.out 2)|((with_reducible refine xA (t:=30) (p:=2) rfl ?_);refine yY (t:=30) (p:=2) (v:=?vo_w15) (w1:=((((w12.setCell ⟨gb548,0,none⟩ (.slice none 0 0)).setCell ⟨gb549,0,none⟩ (.slice none 0 0)).setCell ⟨gb549,1,none⟩ (.slice Ao10 t553.length co10)).setCell ⟨gb549,2,none⟩ (.slice Ao11 t556.length co11))) ?hg ?ho ?hn ?hr ?_;(case ho=>rfl);(case hg=>rfl);(case hn=>rfl);(case hr=>first|(go_simp;done)|(go_simp;rfl));intro w15 hw;have n0_:zN (Kd.R (Kd.int .i64) 3 w15 w.heap.size (fun k_=>some k_≠(.slice Ao10 t553.length co10:Value).ownBlock∧some k_≠(.slice Ao11 t556.length co11:Value).ownBlock) (.slice Ao8 t550.length co8) t550):=⟨(by rw [hw];exact (by (with_reducible repeat (first|apply zR|apply zQ|apply zU));exact yB (zT (p:=⟨gb549,2,none⟩) (zT (p:=⟨gb549,1,none⟩) (zT (p:=⟨gb549,0,none⟩) (zT (p:=⟨gb548,0,none⟩) (zX (zX HO552.out BK548.out (by decide)) BK549.out (by decide)) (fun _ hk=>hk.1.2) (.slice none 0 0)) (fun _ hk=>hk.2) (.slice none 0 0)) (fun _ hk=>hk.2) (.slice Ao10 t553.length co10)) (fun _ hk=>hk.2) (.slice Ao11 t556.length co11)) (fun _ hk=>⟨hk.1.1.1,hk.1.1.2⟩)))⟩;have n1_:zN (Kd.R (Kd.int .i64) 3 w15 w.heap.size (fun k_=>some k_≠(.slice Ao8 t550.length co8:Value).ownBlock∧some k_≠(.slice Ao11 t556.length co11:Value).ownBlock) (.slice Ao10 t553.length co10) t553):=⟨(by rw [hw];exact (by (with_reducible repeat (first|apply zR|apply zQ|apply zU));exact yB (zT (p:=⟨gb549,2,none⟩) (zT (p:=⟨gb549,1,none⟩) (zT (p:=⟨gb549,0,none⟩) (zT (p:=⟨gb548,0,none⟩) (zX (zX HO555.out BK548.out (by decide)) BK549.out (by decide)) (fun _ hk=>hk.1.2) (.slice none 0 0)) (fun _ hk=>hk.2) (.slice none 0 0)) (fun _ hk=>hk.2) (.slice Ao10 t553.length co10)) (fun _ hk=>hk.2) (.slice Ao11 t556.length co11)) (fun _ hk=>⟨hk.1.1.1,hk.1.1.2⟩)))⟩;have n2_:zN (Kd.R (Kd.int .i64) 3 w15 w.heap.size (fun k_=>some k_≠(.slice Ao8 t550.length co8:Value).ownBlock∧some k_≠(.slice Ao10 t553.length co10:Value).ownBlock) (.slice Ao11 t556.length co11) t556):=⟨(by rw [hw];exact (by (with_reducible repeat (first|apply zR|apply zQ|apply zU));exact yB (zT (p:=⟨gb549,2,none⟩) (zT (p:=⟨gb549,1,none⟩) (zT (p:=⟨gb549,0,none⟩) (zT (p:=⟨gb548,0,none⟩) (zX (zX HO558.out BK548.out (by decide)) BK549.out (by decide)) (fun _ hk=>hk.1.2) (.slice none 0 0)) (fun _ hk=>hk.2) (.slice none 0 0)) (fun _ hk=>hk.2) (.slice Ao10 t553.length co10)) (fun _ hk=>hk.2) (.slice Ao11 t556.length co11)) (fun _ hk=>⟨hk.1.1.1,hk.1.1.2⟩)))⟩;have n3_:zN (w15.heap[gb548]?=some (.cells #[.slice none 0 0,.slice Ao10 t553.length co10,.slice Ao11 t556.length co11] 30 (0,0))):=⟨(by rw [hw];exact (by (with_reducible repeat (first|refine zB ?_ _|refine zF ?_|refine zA ?_ _));refine zY ?_ NB548_549.out _;(with_reducible repeat (first|refine zB ?_ _|refine zF ?_|refine zA ?_ _));refine zY ?_ NB548_549.out _;(with_reducible repeat (first|refine zB ?_ _|refine zF ?_|refine zA ?_ _));refine zY ?_ NB548_549.out _;(with_reducible repeat (first|refine zB ?_ _|refine zF ?_|refine zA ?_ _));refine yE (cs:=#[.slice Ao8 t550.length co8,.slice Ao10 t553.length co10,.slice Ao11 t556.length co11]) ?_ 0 _ rfl;(with_reducible repeat (first|refine zB ?_ _|refine zF ?_|refine zA ?_ _));exact BK548.out))⟩;have n4_:zN (w15.heap[gb549]?=some (.cells #[.slice none 0 0,.slice Ao10 t553.length co10,.slice Ao11 t556.length co11] 30 (0,0))):=⟨(by rw [hw];exact (by (with_reducible repeat (first|refine zB ?_ _|refine zF ?_|refine zA ?_ _));refine yE (cs:=#[.slice none 0 0,.slice Ao10 t553.length co10,.slice none 0 0]) ?_ 2 _ rfl;(with_reducible repeat (first|refine zB ?_ _|refine zF ?_|refine zA ?_ _));refine yE (cs:=#[.slice none 0 0,.slice none 0 0,.slice none 0 0]) ?_ 1 _ rfl;(with_reducible repeat (first|refine zB ?_ _|refine zF ?_|refine zA ?_ _));refine yE (cs:=#[.slice none 0 0,.slice none 0 0,.slice none 0 0]) ?_ 0 _ rfl;(with_reducible repeat (first|refine zB ?_ _|refine zF ?_|refine zA ?_ _));refine zY ?_ NB549_548.out _;(with_reducible repeat (first|refine zB ?_ _|refine zF ?_|refine zA ?_ _));exact BK549.out))⟩;have n5_:zN (Below w.heap.size w w15):=⟨(by rw [hw];exact (by repeat (first|(with_reducible first|exact HB.out|apply zG|apply zD|apply zH|refine zC ?_ GE548.out|refine zC ?_ GE549.out)|exact HB.out)))⟩;clear hw;clear HO552;clear HO555;clear HO558;clear BK548;clear BK549;clear HB;have HO552:=n0_;have HO555:=n1_;have HO558:=n2_;have BK548:=n3_;have BK549:=n4_;have HB:=n5_;clear n0_ n1_ n2_ n3_ n4_ n5_))
 refine bodyPost_ret (results_cell_row rfl _ _ gb549 30 #[.slice none 0 0,.slice Ao10 t553.length co10,.slice Ao11 t556.length co11] (0,0) _ rfl (by (with_reducible repeat (first|refine zB ?_ _|refine zF ?_|refine zA ?_ _));exact BK549.out) Tryd.underlying30 rfl (by kernel_rfl)) rfl ?_
 exact ⟨_,_,_,by first|rfl|(simp [errW_none,errW_some] <;> rfl)|(simp [*,errW_none,errW_some] <;> rfl),by first|exact R_nil _ _ _ _ _|exact Kd.N_nil _ _ _ _ _|exact V_nil _ _ _ _ _|exact Kd.Q_nil _ _ _ _ _|exact Kd.S_nil _ _ _ _ _,by (with_reducible repeat (first|apply zR|apply zQ|apply zU));exact yB HO555.out (fun _ hk=>⟨(by simp [Value.ownBlock]),hk.2⟩),by (with_reducible repeat (first|apply zR|apply zQ|apply zU));exact yB HO558.out (fun _ hk=>⟨(by simp [Value.ownBlock]),hk.2⟩),by repeat (first|(with_reducible first|exact HB.out|apply zG|apply zD|apply zH|refine zC ?_ GE548.out|refine zC ?_ GE549.out)|exact HB.out)⟩
def signal_Exec.f (l0_0:List Int) (l0_1:List Int) (l0_2:List Int):Option (List Int × List Int × List Int):=(signal_copied.f l0_0 l0_1 l0_2).bind fun bt563=>(some (bt563.1,bt563.2.1,([]:List Int)))
set_option maxHeartbeats 8000000 in
set_option maxRecDepth 10000000 in
theorem signal_Exec.calls (A0_0:Option Addr) (c0_0:Nat) (l0_0:List Int) (A0_1:Option Addr) (c0_1:Nat) (l0_1:List Int) (A0_2:Option Addr) (c0_2:Nat) (l0_2:List Int) (r1:List Int) (r2:List Int) (r3:List Int) (w:World) (hr0_0:Kd.C (Kd.int .i64) w A0_0 l0_0.length l0_0) (hc0_0:l0_0.length≤c0_0) (hr0_1:Kd.C (Kd.int .i64) w A0_1 l0_1.length l0_1) (hc0_1:l0_1.length≤c0_1) (hr0_2:Kd.C (Kd.int .i64) w A0_2 l0_2.length l0_2) (hc0_2:l0_2.length≤c0_2) (h:signal_Exec.f l0_0 l0_1 l0_2=some (r1,r2,r3)) :
  Calls Tryd.prog 29 #[.agg #[.slice A0_0 l0_0.length c0_0,.slice A0_1 l0_1.length c0_1,.slice A0_2 l0_2.length c0_2]] w fun e w'=>∃ v0_ v1_ v2_:Value,e=.returned (.agg #[v0_,v1_,v2_])∧Kd.R (Kd.int .i64) 3 w' w.heap.size (fun k_=>some k_≠(v1_:Value).ownBlock∧some k_≠(v2_:Value).ownBlock) v0_ r1∧Kd.R (Kd.int .i64) 3 w' w.heap.size (fun k_=>some k_≠(v0_:Value).ownBlock∧some k_≠(v2_:Value).ownBlock) v1_ r2∧Kd.R (Kd.int .i64) 3 w' w.heap.size (fun k_=>some k_≠(v0_:Value).ownBlock∧some k_≠(v1_:Value).ownBlock) v2_ r3∧Below w.heap.size w w':=by
 have hu30:=Tryd.underlying30
 have HR0_0:=Zk hr0_0
 have HC0_0:=Zk hc0_0
 clear hr0_0 hc0_0
 have HR0_1:=Zk hr0_1
 have HC0_1:=Zk hc0_1
 clear hr0_1 hc0_1
 have HR0_2:=Zk hr0_2
 have HC0_2:=Zk hc0_2
 clear hr0_2 hc0_2
 have HB:=Zk (Below.refl w.heap.size w)
 have H:((signal_copied.f l0_0 l0_1 l0_2).bind fun bt563=>(some (bt563.1,bt563.2.1,([]:List Int))))=some (r1,r2,r3):=h
 clear h
 replace H:=Option.bind_eq_some_iff.mp H
 obtain ⟨⟨t563,t566,t569⟩,A20,H⟩:=H
 replace H:(some (t563,t566,([]:List Int)))=some (r1,r2,r3):=H
 have A2:=Zk A20
 clear A20
 simp only [Option.some.injEq,Prod.mk.injEq] at H
 obtain ⟨rfl,rfl,rfl⟩:=H
 go_enter Tryd.func29,Tryd.ntmps29
 go_wp2_with (first|((with_reducible refine yT (N:=1) rfl ?_);refine yV ?hg (N:=1) ?hd (cs:=#[.slice A0_0 l0_0.length c0_0,.slice A0_1 l0_1.length c0_1,.slice A0_2 l0_2.length c0_2]) (t:=30) ?hr ?_;(case hd=>rfl);(case hg=>rfl);(case hr=>first|(go_simp;done)|(go_simp;rfl));intro gb561 hg w3 hbox hb;have n0_:=Zk (yA (by repeat (first|(with_reducible first|exact HB.out|apply zG|apply zD|apply zH)|exact HB.out)) hb);have n1_:=Zk (hbox);have n2_:=Zk ((by rw [hg];exact (zP (by repeat (first|(with_reducible first|exact HB.out|apply zG|apply zD|apply zH)|exact HB.out))):w.heap.size≤gb561));have n3_:=Zk ((by rw [hg];exact (zP (by repeat (first|(with_reducible first|exact HB.out|apply zG|apply zD|apply zH)|exact HB.out))):w.heap.size≤gb561));clear HB;have HB:=n0_;have BK561:=n1_;have GW561:=n2_;have GE561:=n3_;clear n0_ n1_ n2_ n3_;clear hb hbox hg)|((with_reducible refine yT (N:=2) rfl ?_);refine yV ?hg (N:=2) ?hd (cs:=#[.slice none 0 0,.slice none 0 0,.slice none 0 0]) (t:=30) ?hr ?_;(case hd=>rfl);(case hg=>rfl);(case hr=>first|(go_simp;done)|(go_simp;rfl));intro gb562 hg w4 hbox hb;have n0_:=Zk (zW (g:=gb561) (o:=.cells #[.slice A0_0 l0_0.length c0_0,.slice A0_1 l0_1.length c0_1,.slice A0_2 l0_2.length c0_2] 30 (0,0)) (by (with_reducible repeat (first|refine zB ?_ _|refine zF ?_|refine zA ?_ _));exact BK561.out) hb);have n1_:=Zk (yA (by repeat (first|(with_reducible first|exact HB.out|apply zG|apply zD|apply zH|refine zC ?_ GE561.out)|exact HB.out)) hb);have n2_:=Zk (hbox);have n3_:=Zk ((by rw [hg];exact (zP (by repeat (first|(with_reducible first|exact HB.out|apply zG|apply zD|apply zH|refine zC ?_ GE561.out)|exact HB.out))):w.heap.size≤gb562));have n4_:=Zk ((by rw [hg];exact (zP (by repeat (first|(with_reducible first|exact HB.out|apply zG|apply zD|apply zH|refine zC ?_ GE561.out)|exact HB.out))):w.heap.size≤gb562));have n5_:=Zk ((by rw [hg];exact Nat.ne_of_lt (yN (g:=gb561) (o:=.cells #[.slice A0_0 l0_0.length c0_0,.slice A0_1 l0_1.length c0_1,.slice A0_2 l0_2.length c0_2] 30 (0,0)) (by (with_reducible repeat (first|refine zB ?_ _|refine zF ?_|refine zA ?_ _));exact BK561.out)):gb561≠gb562));have n6_:=Zk ((by rw [hg];exact Nat.ne_of_gt (yN (g:=gb561) (o:=.cells #[.slice A0_0 l0_0.length c0_0,.slice A0_1 l0_1.length c0_1,.slice A0_2 l0_2.length c0_2] 30 (0,0)) (by (with_reducible repeat (first|refine zB ?_ _|refine zF ?_|refine zA ?_ _));exact BK561.out)):gb562≠gb561));clear BK561;clear HB;have BK561:=n0_;have HB:=n1_;have BK562:=n2_;have GW562:=n3_;have GE562:=n4_;have NB561_562:=n5_;have NB562_561:=n6_;clear n0_ n1_ n2_ n3_ n4_ n5_ n6_;clear hb hbox hg;have hnb5:=NB561_562.out;have hnc5:=NB562_561.out;have hcz6_0:w4.cell? ⟨gb561,0,none⟩=some (.slice A0_0 l0_0.length c0_0):=(zJ BK561.out 0).trans rfl;have hcz6_1:w4.cell? ⟨gb561,1,none⟩=some (.slice A0_1 l0_1.length c0_1):=(zJ BK561.out 1).trans rfl;have hcz6_2:w4.cell? ⟨gb561,2,none⟩=some (.slice A0_2 l0_2.length c0_2):=(zJ BK561.out 2).trans rfl;have hfz6_0:=zI BK561.out 0;have hfz6_1:=zI BK561.out 1;have hfz6_2:=zI BK561.out 2)|((with_reducible refine yD (f:=39) rfl ?_);refine yM (some 4) rfl rfl Tryd.func39 (by kernel_rfl) rfl #[.agg #[.slice A0_0 l0_0.length c0_0,.slice A0_1 l0_1.length c0_1,.slice A0_2 l0_2.length c0_2]] rfl (by (try simp only [List.map_toArray,List.map_cons,List.map_nil]);first|done|rfl|(simp only [List.length_drop,List.length_take];rfl)) ?_;(with_reducible refine (signal_copied.calls _ _ l0_0 _ _ l0_1 _ _ l0_2 t563 t566 t569 _ ?side1 ?side2 ?side3 ?side4 ?side5 ?side6 A2.out).mono ?_);(case side1=>repeat (first|exact (yS HR0_0.out HB.out)|(with_reducible refine yG ?_ _)|(with_reducible refine yF ?_ _)|(with_reducible refine yI ?_)));(case side2=>exact HC0_0.out);(case side3=>repeat (first|exact (yS HR0_1.out HB.out)|(with_reducible refine yG ?_ _)|(with_reducible refine yF ?_ _)|(with_reducible refine yI ?_)));(case side4=>exact HC0_1.out);(case side5=>repeat (first|exact (yS HR0_2.out HB.out)|(with_reducible refine yG ?_ _)|(with_reducible refine yF ?_ _)|(with_reducible refine yI ?_)));(case side6=>exact HC0_2.out);rintro e w7 ⟨v564,v567,v570,rfl,ho0,ho1,ho2,hb⟩;refine ⟨_,rfl,?_⟩;have n0_:=Zk (yU ho0 (zP (by repeat (first|(with_reducible first|exact HB.out|apply zG|apply zD|apply zH|refine zC ?_ GE561.out|refine zC ?_ GE562.out)|exact HB.out))));have n1_:=Zk (yU ho1 (zP (by repeat (first|(with_reducible first|exact HB.out|apply zG|apply zD|apply zH|refine zC ?_ GE561.out|refine zC ?_ GE562.out)|exact HB.out))));have n2_:=Zk (yU ho2 (zP (by repeat (first|(with_reducible first|exact HB.out|apply zG|apply zD|apply zH|refine zC ?_ GE561.out|refine zC ?_ GE562.out)|exact HB.out))));have n3_:=Zk (zW (g:=gb561) (o:=.cells #[.slice A0_0 l0_0.length c0_0,.slice A0_1 l0_1.length c0_1,.slice A0_2 l0_2.length c0_2] 30 (0,0)) (by (with_reducible repeat (first|refine zB ?_ _|refine zF ?_|refine zA ?_ _));exact BK561.out) hb);have n4_:=Zk (zW (g:=gb562) (o:=.cells #[.slice none 0 0,.slice none 0 0,.slice none 0 0] 30 (0,0)) (by (with_reducible repeat (first|refine zB ?_ _|refine zF ?_|refine zA ?_ _));exact BK562.out) hb);have n5_:=Zk (yA (by repeat (first|(with_reducible first|exact HB.out|apply zG|apply zD|apply zH|refine zC ?_ GE561.out|refine zC ?_ GE562.out)|exact HB.out)) hb);clear BK561;clear BK562;clear HB;have HO565:=n0_;have HO568:=n1_;have HO571:=n2_;have BK561:=n3_;have BK562:=n4_;have HB:=n5_;clear n0_ n1_ n2_ n3_ n4_ n5_;(try clear hb);(try clear hb2);(try clear hk);(try clear hi);(try clear ho0);(try clear ho1);(try clear ho2);obtain ⟨Ao8,co8,eo8⟩:=yQ HO565.out;subst eo8;have hcz9_0:w7.cell? ⟨gb561,0,none⟩=some (.slice A0_0 l0_0.length c0_0):=(zJ BK561.out 0).trans rfl;have hcz9_1:w7.cell? ⟨gb561,1,none⟩=some (.slice A0_1 l0_1.length c0_1):=(zJ BK561.out 1).trans rfl;have hcz9_2:w7.cell? ⟨gb561,2,none⟩=some (.slice A0_2 l0_2.length c0_2):=(zJ BK561.out 2).trans rfl;have hfz9_0:=zI BK561.out 0;have hfz9_1:=zI BK561.out 1;have hfz9_2:=zI BK561.out 2;obtain ⟨Ao10,co10,eo10⟩:=yQ HO568.out;subst eo10;obtain ⟨Ao11,co11,eo11⟩:=yQ HO571.out;subst eo11)|((with_reducible refine xA (t:=30) (p:=1) rfl ?_);refine yY (t:=30) (p:=1) (v:=?vo_w12) (w1:=(((w7.setCell ⟨gb561,0,none⟩ (.slice Ao8 t563.length co8)).setCell ⟨gb561,1,none⟩ (.slice Ao10 t566.length co10)).setCell ⟨gb561,2,none⟩ (.slice Ao11 t569.length co11))) ?hg ?ho ?hn ?hr ?_;(case ho=>rfl);(case hg=>rfl);(case hn=>rfl);(case hr=>first|(go_simp;done)|(go_simp;rfl));intro w12 hw;have n0_:zN (Kd.R (Kd.int .i64) 3 w12 w.heap.size (fun k_=>some k_≠(.slice Ao10 t566.length co10:Value).ownBlock∧some k_≠(.slice Ao11 t569.length co11:Value).ownBlock) (.slice Ao8 t563.length co8) t563):=⟨(by rw [hw];exact (by (with_reducible repeat (first|apply zR|apply zQ|apply zU));exact yB (zT (p:=⟨gb561,2,none⟩) (zT (p:=⟨gb561,1,none⟩) (zT (p:=⟨gb561,0,none⟩) (zX HO565.out BK561.out (by decide)) (fun _ hk=>hk.2) (.slice Ao8 t563.length co8)) (fun _ hk=>hk.2) (.slice Ao10 t566.length co10)) (fun _ hk=>hk.2) (.slice Ao11 t569.length co11)) (fun _ hk=>⟨hk.1.1,hk.1.2⟩)))⟩;have n1_:zN (Kd.R (Kd.int .i64) 3 w12 w.heap.size (fun k_=>some k_≠(.slice Ao8 t563.length co8:Value).ownBlock∧some k_≠(.slice Ao11 t569.length co11:Value).ownBlock) (.slice Ao10 t566.length co10) t566):=⟨(by rw [hw];exact (by (with_reducible repeat (first|apply zR|apply zQ|apply zU));exact yB (zT (p:=⟨gb561,2,none⟩) (zT (p:=⟨gb561,1,none⟩) (zT (p:=⟨gb561,0,none⟩) (zX HO568.out BK561.out (by decide)) (fun _ hk=>hk.2) (.slice Ao8 t563.length co8)) (fun _ hk=>hk.2) (.slice Ao10 t566.length co10)) (fun _ hk=>hk.2) (.slice Ao11 t569.length co11)) (fun _ hk=>⟨hk.1.1,hk.1.2⟩)))⟩;have n2_:zN (Kd.R (Kd.int .i64) 3 w12 w.heap.size (fun k_=>some k_≠(.slice Ao8 t563.length co8:Value).ownBlock∧some k_≠(.slice Ao10 t566.length co10:Value).ownBlock) (.slice Ao11 t569.length co11) t569):=⟨(by rw [hw];exact (by (with_reducible repeat (first|apply zR|apply zQ|apply zU));exact yB (zT (p:=⟨gb561,2,none⟩) (zT (p:=⟨gb561,1,none⟩) (zT (p:=⟨gb561,0,none⟩) (zX HO571.out BK561.out (by decide)) (fun _ hk=>hk.2) (.slice Ao8 t563.length co8)) (fun _ hk=>hk.2) (.slice Ao10 t566.length co10)) (fun _ hk=>hk.2) (.slice Ao11 t569.length co11)) (fun _ hk=>⟨hk.1.1,hk.1.2⟩)))⟩;have n3_:zN (w12.heap[gb561]?=some (.cells #[.slice Ao8 t563.length co8,.slice Ao10 t566.length co10,.slice Ao11 t569.length co11] 30 (0,0))):=⟨(by rw [hw];exact (by (with_reducible repeat (first|refine zB ?_ _|refine zF ?_|refine zA ?_ _));refine yE (cs:=#[.slice Ao8 t563.length co8,.slice Ao10 t566.length co10,.slice A0_2 l0_2.length c0_2]) ?_ 2 _ rfl;(with_reducible repeat (first|refine zB ?_ _|refine zF ?_|refine zA ?_ _));refine yE (cs:=#[.slice Ao8 t563.length co8,.slice A0_1 l0_1.length c0_1,.slice A0_2 l0_2.length c0_2]) ?_ 1 _ rfl;(with_reducible repeat (first|refine zB ?_ _|refine zF ?_|refine zA ?_ _));refine yE (cs:=#[.slice A0_0 l0_0.length c0_0,.slice A0_1 l0_1.length c0_1,.slice A0_2 l0_2.length c0_2]) ?_ 0 _ rfl;(with_reducible repeat (first|refine zB ?_ _|refine zF ?_|refine zA ?_ _));exact BK561.out))⟩;have n4_:zN (w12.heap[gb562]?=some (.cells #[.slice none 0 0,.slice none 0 0,.slice none 0 0] 30 (0,0))):=⟨(by rw [hw];exact (by (with_reducible repeat (first|refine zB ?_ _|refine zF ?_|refine zA ?_ _));refine zY ?_ NB562_561.out _;(with_reducible repeat (first|refine zB ?_ _|refine zF ?_|refine zA ?_ _));refine zY ?_ NB562_561.out _;(with_reducible repeat (first|refine zB ?_ _|refine zF ?_|refine zA ?_ _));refine zY ?_ NB562_561.out _;(with_reducible repeat (first|refine zB ?_ _|refine zF ?_|refine zA ?_ _));exact BK562.out))⟩;have n5_:zN (Below w.heap.size w w12):=⟨(by rw [hw];exact (by repeat (first|(with_reducible first|exact HB.out|apply zG|apply zD|apply zH|refine zC ?_ GE561.out|refine zC ?_ GE562.out)|exact HB.out)))⟩;clear hw;clear HO565;clear HO568;clear HO571;clear BK561;clear BK562;clear HB;have HO565:=n0_;have HO568:=n1_;have HO571:=n2_;have BK561:=n3_;have BK562:=n4_;have HB:=n5_;clear n0_ n1_ n2_ n3_ n4_ n5_;have hcz13_0:w12.cell? ⟨gb561,0,none⟩=some (.slice Ao8 t563.length co8):=(zJ BK561.out 0).trans rfl;have hcz13_1:w12.cell? ⟨gb561,1,none⟩=some (.slice Ao10 t566.length co10):=(zJ BK561.out 1).trans rfl;have hcz13_2:w12.cell? ⟨gb561,2,none⟩=some (.slice Ao11 t569.length co11):=(zJ BK561.out 2).trans rfl;have hfz13_0:=zI BK561.out 0;have hfz13_1:=zI BK561.out 1;have hfz13_2:=zI BK561.out 2;have hcz14_0:w12.cell? ⟨gb562,0,none⟩=some (.slice none 0 0):=(zJ BK562.out 0).trans rfl;have hcz14_1:w12.cell? ⟨gb562,1,none⟩=some (.slice none 0 0):=(zJ BK562.out 1).trans rfl;have hcz14_2:w12.cell? ⟨gb562,2,none⟩=some (.slice none 0 0):=(zJ BK562.out 2).trans rfl;have hfz14_0:=zI BK562.out 0;have hfz14_1:=zI BK562.out 1;have hfz14_2:=zI BK562.out 2)|((with_reducible refine xA (t:=30) (p:=2) rfl ?_);refine yY (t:=30) (p:=2) (v:=?vo_w15) (w1:=((((w12.setCell ⟨gb561,2,none⟩ (.slice none 0 0)).setCell ⟨gb562,0,none⟩ (.slice Ao8 t563.length co8)).setCell ⟨gb562,1,none⟩ (.slice Ao10 t566.length co10)).setCell ⟨gb562,2,none⟩ (.slice none 0 0))) ?hg ?ho ?hn ?hr ?_;(case ho=>rfl);(case hg=>rfl);(case hn=>rfl);(case hr=>first|(go_simp;done)|(go_simp;rfl));intro w15 hw;have n0_:zN (Kd.R (Kd.int .i64) 3 w15 w.heap.size (fun k_=>some k_≠(.slice Ao10 t566.length co10:Value).ownBlock∧some k_≠(.slice Ao11 t569.length co11:Value).ownBlock) (.slice Ao8 t563.length co8) t563):=⟨(by rw [hw];exact (by (with_reducible repeat (first|apply zR|apply zQ|apply zU));exact yB (zT (p:=⟨gb562,2,none⟩) (zT (p:=⟨gb562,1,none⟩) (zT (p:=⟨gb562,0,none⟩) (zT (p:=⟨gb561,2,none⟩) (zX (zX HO565.out BK561.out (by decide)) BK562.out (by decide)) (fun _ hk=>hk.1.2) (.slice none 0 0)) (fun _ hk=>hk.2) (.slice Ao8 t563.length co8)) (fun _ hk=>hk.2) (.slice Ao10 t566.length co10)) (fun _ hk=>hk.2) (.slice none 0 0)) (fun _ hk=>⟨hk.1.1.1,hk.1.1.2⟩)))⟩;have n1_:zN (Kd.R (Kd.int .i64) 3 w15 w.heap.size (fun k_=>some k_≠(.slice Ao8 t563.length co8:Value).ownBlock∧some k_≠(.slice Ao11 t569.length co11:Value).ownBlock) (.slice Ao10 t566.length co10) t566):=⟨(by rw [hw];exact (by (with_reducible repeat (first|apply zR|apply zQ|apply zU));exact yB (zT (p:=⟨gb562,2,none⟩) (zT (p:=⟨gb562,1,none⟩) (zT (p:=⟨gb562,0,none⟩) (zT (p:=⟨gb561,2,none⟩) (zX (zX HO568.out BK561.out (by decide)) BK562.out (by decide)) (fun _ hk=>hk.1.2) (.slice none 0 0)) (fun _ hk=>hk.2) (.slice Ao8 t563.length co8)) (fun _ hk=>hk.2) (.slice Ao10 t566.length co10)) (fun _ hk=>hk.2) (.slice none 0 0)) (fun _ hk=>⟨hk.1.1.1,hk.1.1.2⟩)))⟩;have n2_:zN (Kd.R (Kd.int .i64) 3 w15 w.heap.size (fun k_=>some k_≠(.slice Ao8 t563.length co8:Value).ownBlock∧some k_≠(.slice Ao10 t566.length co10:Value).ownBlock) (.slice Ao11 t569.length co11) t569):=⟨(by rw [hw];exact (by (with_reducible repeat (first|apply zR|apply zQ|apply zU));exact yB (zT (p:=⟨gb562,2,none⟩) (zT (p:=⟨gb562,1,none⟩) (zT (p:=⟨gb562,0,none⟩) (zT (p:=⟨gb561,2,none⟩) (zX (zX HO571.out BK561.out (by decide)) BK562.out (by decide)) (fun _ hk=>hk.1.2) (.slice none 0 0)) (fun _ hk=>hk.2) (.slice Ao8 t563.length co8)) (fun _ hk=>hk.2) (.slice Ao10 t566.length co10)) (fun _ hk=>hk.2) (.slice none 0 0)) (fun _ hk=>⟨hk.1.1.1,hk.1.1.2⟩)))⟩;have n3_:zN (w15.heap[gb561]?=some (.cells #[.slice Ao8 t563.length co8,.slice Ao10 t566.length co10,.slice none 0 0] 30 (0,0))):=⟨(by rw [hw];exact (by (with_reducible repeat (first|refine zB ?_ _|refine zF ?_|refine zA ?_ _));refine zY ?_ NB561_562.out _;(with_reducible repeat (first|refine zB ?_ _|refine zF ?_|refine zA ?_ _));refine zY ?_ NB561_562.out _;(with_reducible repeat (first|refine zB ?_ _|refine zF ?_|refine zA ?_ _));refine zY ?_ NB561_562.out _;(with_reducible repeat (first|refine zB ?_ _|refine zF ?_|refine zA ?_ _));refine yE (cs:=#[.slice Ao8 t563.length co8,.slice Ao10 t566.length co10,.slice Ao11 t569.length co11]) ?_ 2 _ rfl;(with_reducible repeat (first|refine zB ?_ _|refine zF ?_|refine zA ?_ _));exact BK561.out))⟩;have n4_:zN (w15.heap[gb562]?=some (.cells #[.slice Ao8 t563.length co8,.slice Ao10 t566.length co10,.slice none 0 0] 30 (0,0))):=⟨(by rw [hw];exact (by (with_reducible repeat (first|refine zB ?_ _|refine zF ?_|refine zA ?_ _));refine yE (cs:=#[.slice Ao8 t563.length co8,.slice Ao10 t566.length co10,.slice none 0 0]) ?_ 2 _ rfl;(with_reducible repeat (first|refine zB ?_ _|refine zF ?_|refine zA ?_ _));refine yE (cs:=#[.slice Ao8 t563.length co8,.slice none 0 0,.slice none 0 0]) ?_ 1 _ rfl;(with_reducible repeat (first|refine zB ?_ _|refine zF ?_|refine zA ?_ _));refine yE (cs:=#[.slice none 0 0,.slice none 0 0,.slice none 0 0]) ?_ 0 _ rfl;(with_reducible repeat (first|refine zB ?_ _|refine zF ?_|refine zA ?_ _));refine zY ?_ NB562_561.out _;(with_reducible repeat (first|refine zB ?_ _|refine zF ?_|refine zA ?_ _));exact BK562.out))⟩;have n5_:zN (Below w.heap.size w w15):=⟨(by rw [hw];exact (by repeat (first|(with_reducible first|exact HB.out|apply zG|apply zD|apply zH|refine zC ?_ GE561.out|refine zC ?_ GE562.out)|exact HB.out)))⟩;clear hw;clear HO565;clear HO568;clear HO571;clear BK561;clear BK562;clear HB;have HO565:=n0_;have HO568:=n1_;have HO571:=n2_;have BK561:=n3_;have BK562:=n4_;have HB:=n5_;clear n0_ n1_ n2_ n3_ n4_ n5_))
 refine bodyPost_ret (results_cell_row rfl _ _ gb562 30 #[.slice Ao8 t563.length co8,.slice Ao10 t566.length co10,.slice none 0 0] (0,0) _ rfl (by (with_reducible repeat (first|refine zB ?_ _|refine zF ?_|refine zA ?_ _));exact BK562.out) Tryd.underlying30 rfl (by kernel_rfl)) rfl ?_
 exact ⟨_,_,_,by first|rfl|(simp [errW_none,errW_some] <;> rfl)|(simp [*,errW_none,errW_some] <;> rfl),by (with_reducible repeat (first|apply zR|apply zQ|apply zU));exact yB HO565.out (fun _ hk=>⟨hk.1,(by simp [Value.ownBlock])⟩),by (with_reducible repeat (first|apply zR|apply zQ|apply zU));exact yB HO568.out (fun _ hk=>⟨hk.1,(by simp [Value.ownBlock])⟩),by first|exact R_nil _ _ _ _ _|exact Kd.N_nil _ _ _ _ _|exact V_nil _ _ _ _ _|exact Kd.Q_nil _ _ _ _ _|exact Kd.S_nil _ _ _ _ _,by repeat (first|(with_reducible first|exact HB.out|apply zG|apply zD|apply zH|refine zC ?_ GE561.out|refine zC ?_ GE562.out)|exact HB.out)⟩
end Go.Proofs.YtnkkdpjipfjdaaaDoor.Q
end
section

namespace Go.Proofs.YtnkkdpjipfjdaaaDoor.Q
open Go.RowKit Go.Proofs.YtnkkdpjipfjdaaaDoorW.PrintWords Go.Proofs.YtnkkdpjipfjdaaaDoorW.PrintLast Go.Proofs.YtnkkdpjipfjdaaaDoorW.PrintMore Go.Proofs.YtnkkdpjipfjdaaaDoorM
open Kd
attribute [local go_sem] max2_int min2_int max_two min_two max_three min_three max_four min_four
set_option linter.unusedVariables false
set_option linter.unusedSimpArgs false
def jobshelllaw25_play.f (k:Nat) (l0_0:List Int) (l0_1:List Int) (l0_2:List Int) (a1_0:Int) (a1_1:Int) (a1_2:Int):Option (List Int × List Int × List Int):=if a1_0=0 then ((signal_Send.f k l0_0 l0_1 l0_2 a1_1).bind fun bt664=>(some (bt664.1,bt664.2.1,bt664.2.2))) else (if a1_0=1 then ((signal_Next.f k l0_0 l0_1 l0_2).bind fun bt673=>(some (bt673.1,bt673.2.1,bt673.2.2.1))) else (if a1_0=2 then ((signal_Set.f k l0_0 l0_1 l0_2 a1_1 a1_2).bind fun bt685=>(some (bt685.1,bt685.2.1,bt685.2.2.1))) else (if a1_0=3 then ((signal_Fork.f l0_0 l0_1 l0_2).bind fun bt696=>(some (bt696.1,bt696.2.1,bt696.2.2))) else ((signal_Exec.f l0_0 l0_1 l0_2).bind fun bt705=>(some (bt705.1,bt705.2.1,bt705.2.2))))))
theorem jobshelllaw25_play.mono:∀ a0 a1 a2 a3 a4 a5 k,LeO (jobshelllaw25_play.f k a0 a1 a2 a3 a4 a5) (jobshelllaw25_play.f (k + 1) a0 a1 a2 a3 a4 a5):=by
 intro a0 a1 a2 a3 a4 a5 k
 unfold jobshelllaw25_play.f
 repeat' first
   |(with_reducible exact signal_Next.mono _ _ _ _)
   |(with_reducible exact signal_Send.mono _ _ _ _ _)
   |(with_reducible exact signal_Set.mono _ _ _ _ _ _)
   |(with_reducible exact LeO.refl _)
   |(with_reducible exact LeO.none _)
   |(with_reducible refine LeO.ite ?_ ?_)
   |(with_reducible refine LeO.bind ?_ (fun _=>?_))
   |exact signal_Next.mono _ _ _ _
   |exact signal_Send.mono _ _ _ _ _
   |exact signal_Set.mono _ _ _ _ _ _
   |exact LeO.none _
   |refine LeO.ite ?_ ?_
   |refine LeO.bind ?_ (fun _=>?_)
set_option maxHeartbeats 8000000 in
set_option maxRecDepth 10000000 in
theorem jobshelllaw25_play.calls (k:Nat) (P0_0_:Nat→Prop) (A0_0:Option Addr) (c0_0:Nat) (l0_0:List Int) (P0_1_:Nat→Prop) (A0_1:Option Addr) (c0_1:Nat) (l0_1:List Int) (P0_2_:Nat→Prop) (A0_2:Option Addr) (c0_2:Nat) (l0_2:List Int) (a1_0:Int) (a1_1:Int) (a1_2:Int) (r1:List Int) (r2:List Int) (r3:List Int) (w:World) (hs0_0:Kd.V (Kd.int .i64) 3 w w.heap.size (fun k_=>P0_0_ k_) (.slice A0_0 l0_0.length c0_0) l0_0) (hs0_1:Kd.V (Kd.int .i64) 3 w w.heap.size (fun k_=>P0_1_ k_) (.slice A0_1 l0_1.length c0_1) l0_1) (hs0_2:Kd.V (Kd.int .i64) 3 w w.heap.size (fun k_=>P0_2_ k_) (.slice A0_2 l0_2.length c0_2) l0_2) (h:jobshelllaw25_play.f k l0_0 l0_1 l0_2 a1_0 a1_1 a1_2=some (r1,r2,r3)) :
  Calls Tryd.prog 32 #[.agg #[.slice A0_0 l0_0.length c0_0,.slice A0_1 l0_1.length c0_1,.slice A0_2 l0_2.length c0_2],.agg #[.int .i64 a1_0,.int .i64 a1_1,.int .i64 a1_2]] w fun e w'=>∃ v0_ v1_ v2_:Value,e=.returned (.agg #[v0_,v1_,v2_])∧Kd.V (Kd.int .i64) 3 w' w.heap.size (fun k_=>((P0_0_ k_∨P0_1_ k_∨P0_2_ k_)∨w.heap.size≤k_)) v0_ r1∧Kd.V (Kd.int .i64) 3 w' w.heap.size (fun k_=>((P0_0_ k_∨P0_1_ k_∨P0_2_ k_)∨w.heap.size≤k_)) v1_ r2∧Kd.V (Kd.int .i64) 3 w' w.heap.size (fun k_=>((P0_0_ k_∨P0_1_ k_∨P0_2_ k_)∨w.heap.size≤k_)) v2_ r3∧Below w.heap.size w w':=by
 have hu30:=Tryd.underlying30
 have hu51:=Tryd.underlying51
 have HO0_0:=Zk (show Kd.V (Kd.int .i64) 3 w w.heap.size (fun k_=>((P0_0_ k_∨P0_1_ k_∨P0_2_ k_)∨w.heap.size≤k_)) (.slice A0_0 l0_0.length c0_0) l0_0 from zO hs0_0 (fun k_ hk=>.inl (.inl hk)))
 have HO0_1:=Zk (show Kd.V (Kd.int .i64) 3 w w.heap.size (fun k_=>((P0_0_ k_∨P0_1_ k_∨P0_2_ k_)∨w.heap.size≤k_)) (.slice A0_1 l0_1.length c0_1) l0_1 from zO hs0_1 (fun k_ hk=>.inl (.inr (.inl hk))))
 have HO0_2:=Zk (show Kd.V (Kd.int .i64) 3 w w.heap.size (fun k_=>((P0_0_ k_∨P0_1_ k_∨P0_2_ k_)∨w.heap.size≤k_)) (.slice A0_2 l0_2.length c0_2) l0_2 from zO hs0_2 (fun k_ hk=>.inl (.inr (.inr hk))))
 have HB:=Zk (Below.refl w.heap.size w)
 have H:(if a1_0=0 then ((signal_Send.f k l0_0 l0_1 l0_2 a1_1).bind fun bt664=>(some (bt664.1,bt664.2.1,bt664.2.2))) else (if a1_0=1 then ((signal_Next.f k l0_0 l0_1 l0_2).bind fun bt673=>(some (bt673.1,bt673.2.1,bt673.2.2.1))) else (if a1_0=2 then ((signal_Set.f k l0_0 l0_1 l0_2 a1_1 a1_2).bind fun bt685=>(some (bt685.1,bt685.2.1,bt685.2.2.1))) else (if a1_0=3 then ((signal_Fork.f l0_0 l0_1 l0_2).bind fun bt696=>(some (bt696.1,bt696.2.1,bt696.2.2))) else ((signal_Exec.f l0_0 l0_1 l0_2).bind fun bt705=>(some (bt705.1,bt705.2.1,bt705.2.2)))))))=some (r1,r2,r3):=h
 clear h
 by_cases c3:a1_0=0
 ·rw [if_pos c3] at H
  have c3b0:(a1_0 == 0)=true:=beq_iff_eq.mpr c3
  have c3b1:(a1_0 != 0)=false:=bne_eq_false_iff_eq.mpr c3
  clear c3
  replace H:=Option.bind_eq_some_iff.mp H
  obtain ⟨⟨t664,t667,t670⟩,A40,H⟩:=H
  replace H:(some (t664,t667,t670))=some (r1,r2,r3):=H
  have A4:=Zk A40
  clear A40
  simp only [Option.some.injEq,Prod.mk.injEq] at H
  obtain ⟨rfl,rfl,rfl⟩:=H
  go_enter Tryd.func32,Tryd.ntmps32
  go_wp2_with (first|((with_reducible refine yT (N:=2) rfl ?_);refine yV ?hg (N:=2) ?hd (cs:=#[.slice A0_0 l0_0.length c0_0,.slice A0_1 l0_1.length c0_1,.slice A0_2 l0_2.length c0_2]) (t:=30) ?hr ?_;(case hd=>rfl);(case hg=>rfl);(case hr=>first|(go_simp;done)|(go_simp;rfl));intro gb661 hg w5 hbox hb;have n0_:=Zk (zV (yC (by (with_reducible repeat (first|apply zL|apply zK|apply zM));exact HO0_0.out) gb661 (Nat.le_of_eq hg.symm)) hb);have n1_:=Zk (zV (yC (by (with_reducible repeat (first|apply zL|apply zK|apply zM));exact HO0_1.out) gb661 (Nat.le_of_eq hg.symm)) hb);have n2_:=Zk (zV (yC (by (with_reducible repeat (first|apply zL|apply zK|apply zM));exact HO0_2.out) gb661 (Nat.le_of_eq hg.symm)) hb);have n3_:=Zk (yA (by repeat (first|(with_reducible first|exact HB.out|apply zG|apply zD|apply zH)|exact HB.out)) hb);have n4_:=Zk (hbox);have n5_:=Zk ((by rw [hg];exact (zP (by repeat (first|(with_reducible first|exact HB.out|apply zG|apply zD|apply zH)|exact HB.out))):w.heap.size≤gb661));have n6_:=Zk ((by rw [hg];exact (zP (by repeat (first|(with_reducible first|exact HB.out|apply zG|apply zD|apply zH)|exact HB.out))):w.heap.size≤gb661));clear HO0_0;clear HO0_1;clear HO0_2;clear HB;have HO0_0:=n0_;have HO0_1:=n1_;have HO0_2:=n2_;have HB:=n3_;have BK661:=n4_;have GW661:=n5_;have GE661:=n6_;clear n0_ n1_ n2_ n3_ n4_ n5_ n6_;clear hb hbox hg)|((with_reducible refine yT (N:=3) rfl ?_);refine yV ?hg (N:=3) ?hd (cs:=#[.int .i64 a1_0,.int .i64 a1_1,.int .i64 a1_2]) (t:=51) ?hr ?_;(case hd=>rfl);(case hg=>rfl);(case hr=>first|(go_simp;done)|(go_simp;rfl));intro gb662 hg w6 hbox hb;have n0_:=Zk (zV (yC (by (with_reducible repeat (first|apply zL|apply zK|apply zM));exact HO0_0.out) gb662 (Nat.le_of_eq hg.symm)) hb);have n1_:=Zk (zV (yC (by (with_reducible repeat (first|apply zL|apply zK|apply zM));exact HO0_1.out) gb662 (Nat.le_of_eq hg.symm)) hb);have n2_:=Zk (zV (yC (by (with_reducible repeat (first|apply zL|apply zK|apply zM));exact HO0_2.out) gb662 (Nat.le_of_eq hg.symm)) hb);have n3_:=Zk (zW (g:=gb661) (o:=.cells #[.slice A0_0 l0_0.length c0_0,.slice A0_1 l0_1.length c0_1,.slice A0_2 l0_2.length c0_2] 30 (0,0)) (by (with_reducible repeat (first|refine zB ?_ _|refine zF ?_|refine zA ?_ _));exact BK661.out) hb);have n4_:=Zk (yA (by repeat (first|(with_reducible first|exact HB.out|apply zG|apply zD|apply zH|refine zC ?_ GE661.out)|exact HB.out)) hb);have n5_:=Zk (hbox);have n6_:=Zk ((by rw [hg];exact (zP (by repeat (first|(with_reducible first|exact HB.out|apply zG|apply zD|apply zH|refine zC ?_ GE661.out)|exact HB.out))):w.heap.size≤gb662));have n7_:=Zk ((by rw [hg];exact (zP (by repeat (first|(with_reducible first|exact HB.out|apply zG|apply zD|apply zH|refine zC ?_ GE661.out)|exact HB.out))):w.heap.size≤gb662));have n8_:=Zk ((by rw [hg];exact Nat.ne_of_lt (yN (g:=gb661) (o:=.cells #[.slice A0_0 l0_0.length c0_0,.slice A0_1 l0_1.length c0_1,.slice A0_2 l0_2.length c0_2] 30 (0,0)) (by (with_reducible repeat (first|refine zB ?_ _|refine zF ?_|refine zA ?_ _));exact BK661.out)):gb661≠gb662));have n9_:=Zk ((by rw [hg];exact Nat.ne_of_gt (yN (g:=gb661) (o:=.cells #[.slice A0_0 l0_0.length c0_0,.slice A0_1 l0_1.length c0_1,.slice A0_2 l0_2.length c0_2] 30 (0,0)) (by (with_reducible repeat (first|refine zB ?_ _|refine zF ?_|refine zA ?_ _));exact BK661.out)):gb662≠gb661));clear HO0_0;clear HO0_1;clear HO0_2;clear BK661;clear HB;have HO0_0:=n0_;have HO0_1:=n1_;have HO0_2:=n2_;have BK661:=n3_;have HB:=n4_;have BK662:=n5_;have GW662:=n6_;have GE662:=n7_;have NB661_662:=n8_;have NB662_661:=n9_;clear n0_ n1_ n2_ n3_ n4_ n5_ n6_ n7_ n8_ n9_;clear hb hbox hg)|((with_reducible refine yT (N:=4) rfl ?_);refine yV ?hg (N:=4) ?hd (cs:=#[.slice none 0 0,.slice none 0 0,.slice none 0 0]) (t:=30) ?hr ?_;(case hd=>rfl);(case hg=>rfl);(case hr=>first|(go_simp;done)|(go_simp;rfl));intro gb663 hg w7 hbox hb;have n0_:=Zk (zV (yC (by (with_reducible repeat (first|apply zL|apply zK|apply zM));exact HO0_0.out) gb663 (Nat.le_of_eq hg.symm)) hb);have n1_:=Zk (zV (yC (by (with_reducible repeat (first|apply zL|apply zK|apply zM));exact HO0_1.out) gb663 (Nat.le_of_eq hg.symm)) hb);have n2_:=Zk (zV (yC (by (with_reducible repeat (first|apply zL|apply zK|apply zM));exact HO0_2.out) gb663 (Nat.le_of_eq hg.symm)) hb);have n3_:=Zk (zW (g:=gb661) (o:=.cells #[.slice A0_0 l0_0.length c0_0,.slice A0_1 l0_1.length c0_1,.slice A0_2 l0_2.length c0_2] 30 (0,0)) (by (with_reducible repeat (first|refine zB ?_ _|refine zF ?_|refine zA ?_ _));exact BK661.out) hb);have n4_:=Zk (zW (g:=gb662) (o:=.cells #[.int .i64 a1_0,.int .i64 a1_1,.int .i64 a1_2] 51 (0,0)) (by (with_reducible repeat (first|refine zB ?_ _|refine zF ?_|refine zA ?_ _));exact BK662.out) hb);have n5_:=Zk (yA (by repeat (first|(with_reducible first|exact HB.out|apply zG|apply zD|apply zH|refine zC ?_ GE661.out|refine zC ?_ GE662.out)|exact HB.out)) hb);have n6_:=Zk (hbox);have n7_:=Zk ((by rw [hg];exact (zP (by repeat (first|(with_reducible first|exact HB.out|apply zG|apply zD|apply zH|refine zC ?_ GE661.out|refine zC ?_ GE662.out)|exact HB.out))):w.heap.size≤gb663));have n8_:=Zk ((by rw [hg];exact (zP (by repeat (first|(with_reducible first|exact HB.out|apply zG|apply zD|apply zH|refine zC ?_ GE661.out|refine zC ?_ GE662.out)|exact HB.out))):w.heap.size≤gb663));have n9_:=Zk ((by rw [hg];exact Nat.ne_of_lt (yN (g:=gb661) (o:=.cells #[.slice A0_0 l0_0.length c0_0,.slice A0_1 l0_1.length c0_1,.slice A0_2 l0_2.length c0_2] 30 (0,0)) (by (with_reducible repeat (first|refine zB ?_ _|refine zF ?_|refine zA ?_ _));exact BK661.out)):gb661≠gb663));have n10_:=Zk ((by rw [hg];exact Nat.ne_of_gt (yN (g:=gb661) (o:=.cells #[.slice A0_0 l0_0.length c0_0,.slice A0_1 l0_1.length c0_1,.slice A0_2 l0_2.length c0_2] 30 (0,0)) (by (with_reducible repeat (first|refine zB ?_ _|refine zF ?_|refine zA ?_ _));exact BK661.out)):gb663≠gb661));have n11_:=Zk ((by rw [hg];exact Nat.ne_of_lt (yN (g:=gb662) (o:=.cells #[.int .i64 a1_0,.int .i64 a1_1,.int .i64 a1_2] 51 (0,0)) (by (with_reducible repeat (first|refine zB ?_ _|refine zF ?_|refine zA ?_ _));exact BK662.out)):gb662≠gb663));have n12_:=Zk ((by rw [hg];exact Nat.ne_of_gt (yN (g:=gb662) (o:=.cells #[.int .i64 a1_0,.int .i64 a1_1,.int .i64 a1_2] 51 (0,0)) (by (with_reducible repeat (first|refine zB ?_ _|refine zF ?_|refine zA ?_ _));exact BK662.out)):gb663≠gb662));clear HO0_0;clear HO0_1;clear HO0_2;clear BK661;clear BK662;clear HB;have HO0_0:=n0_;have HO0_1:=n1_;have HO0_2:=n2_;have BK661:=n3_;have BK662:=n4_;have HB:=n5_;have BK663:=n6_;have GW663:=n7_;have GE663:=n8_;have NB661_663:=n9_;have NB663_661:=n10_;have NB662_663:=n11_;have NB663_662:=n12_;clear n0_ n1_ n2_ n3_ n4_ n5_ n6_ n7_ n8_ n9_ n10_ n11_ n12_;clear hb hbox hg;have hnb8:=NB662_661.out;have hnc8:=NB661_662.out;have hnb9:=NB662_663.out;have hnc9:=NB663_662.out;have hcz10_0:w7.cell? ⟨gb662,0,none⟩=some (.int .i64 a1_0):=(zJ BK662.out 0).trans rfl;have hcz10_1:w7.cell? ⟨gb662,1,none⟩=some (.int .i64 a1_1):=(zJ BK662.out 1).trans rfl;have hcz10_2:w7.cell? ⟨gb662,2,none⟩=some (.int .i64 a1_2):=(zJ BK662.out 2).trans rfl;have hfz10_0:=zI BK662.out 0;have hfz10_1:=zI BK662.out 1;have hfz10_2:=zI BK662.out 2;have hnb11:=NB661_663.out;have hnc11:=NB663_661.out;have hcz12_0:w7.cell? ⟨gb661,0,none⟩=some (.slice A0_0 l0_0.length c0_0):=(zJ BK661.out 0).trans rfl;have hcz12_1:w7.cell? ⟨gb661,1,none⟩=some (.slice A0_1 l0_1.length c0_1):=(zJ BK661.out 1).trans rfl;have hcz12_2:w7.cell? ⟨gb661,2,none⟩=some (.slice A0_2 l0_2.length c0_2):=(zJ BK661.out 2).trans rfl;have hfz12_0:=zI BK661.out 0;have hfz12_1:=zI BK661.out 1;have hfz12_2:=zI BK661.out 2)|((with_reducible refine yD (f:=22) rfl ?_);refine yM (some 17) rfl rfl Tryd.func22 (by kernel_rfl) rfl #[.agg #[.slice A0_0 l0_0.length c0_0,.slice A0_1 l0_1.length c0_1,.slice A0_2 l0_2.length c0_2],.int .i64 a1_1] rfl (by (try simp only [List.map_toArray,List.map_cons,List.map_nil]);first|done|rfl|(simp only [List.length_drop,List.length_take];rfl)) ?_;(with_reducible refine (signal_Send.calls k (fun k_=>(((((P0_0_ k_∨P0_1_ k_∨P0_2_ k_)∨w.heap.size≤k_)∧k_≠gb661)∧k_≠gb662)∧k_≠gb663)) _ _ l0_0 (fun k_=>(((((P0_0_ k_∨P0_1_ k_∨P0_2_ k_)∨w.heap.size≤k_)∧k_≠gb661)∧k_≠gb662)∧k_≠gb663)) _ _ l0_1 (fun k_=>(((((P0_0_ k_∨P0_1_ k_∨P0_2_ k_)∨w.heap.size≤k_)∧k_≠gb661)∧k_≠gb662)∧k_≠gb663)) _ _ l0_2 a1_1 t664 t667 t670 _ ?side1 ?side2 ?side3 A4.out).mono ?_);(case side1=>exact HO0_0.out);(case side2=>exact HO0_1.out);(case side3=>exact HO0_2.out);rintro e w13 ⟨v665,v668,v671,rfl,ho0,ho1,ho2,hb⟩;refine ⟨_,rfl,?_⟩;have n0_:=Zk (zV (by (with_reducible repeat (first|apply zL|apply zK|apply zM));exact HO0_0.out) hb);have n1_:=Zk (zV (by (with_reducible repeat (first|apply zL|apply zK|apply zM));exact HO0_1.out) hb);have n2_:=Zk (zV (by (with_reducible repeat (first|apply zL|apply zK|apply zM));exact HO0_2.out) hb);have n3_:=Zk (V_lower (zO (ok':=fun k_=>((P0_0_ k_∨P0_1_ k_∨P0_2_ k_)∨w.heap.size≤k_)∧k_≠gb661∧k_≠gb662∧k_≠gb663) ho0 (fun k_ hk_=>⟨Or.elim hk_ (fun hs_=>Or.elim hs_ (fun hs_=>hs_.1.1.1) (fun hs_=>Or.elim hs_ (fun hs_=>hs_.1.1.1) (fun hs_=>hs_.1.1.1))) (fun hn_=>(.inr (Nat.le_trans (zP (by repeat (first|(with_reducible first|exact HB.out|apply zG|apply zD|apply zH|refine zC ?_ GE661.out|refine zC ?_ GE662.out|refine zC ?_ GE663.out)|exact HB.out))) hn_))),Or.elim hk_ (fun hs_=>Or.elim hs_ (fun hs_=>hs_.1.1.2) (fun hs_=>Or.elim hs_ (fun hs_=>hs_.1.1.2) (fun hs_=>hs_.1.1.2))) (fun hn_=>(Kd.freshB (g:=gb661) (o:=.cells #[.slice A0_0 l0_0.length c0_0,.slice A0_1 l0_1.length c0_1,.slice A0_2 l0_2.length c0_2] 30 (0,0)) (by (with_reducible repeat (first|refine zB ?_ _|refine zF ?_|refine zA ?_ _));exact BK661.out) k_ hn_)),Or.elim hk_ (fun hs_=>Or.elim hs_ (fun hs_=>hs_.1.2) (fun hs_=>Or.elim hs_ (fun hs_=>hs_.1.2) (fun hs_=>hs_.1.2))) (fun hn_=>(Kd.freshB (g:=gb662) (o:=.cells #[.int .i64 a1_0,.int .i64 a1_1,.int .i64 a1_2] 51 (0,0)) (by (with_reducible repeat (first|refine zB ?_ _|refine zF ?_|refine zA ?_ _));exact BK662.out) k_ hn_)),Or.elim hk_ (fun hs_=>Or.elim hs_ (fun hs_=>hs_.2) (fun hs_=>Or.elim hs_ (fun hs_=>hs_.2) (fun hs_=>hs_.2))) (fun hn_=>(Kd.freshB (g:=gb663) (o:=.cells #[.slice none 0 0,.slice none 0 0,.slice none 0 0] 30 (0,0)) (by (with_reducible repeat (first|refine zB ?_ _|refine zF ?_|refine zA ?_ _));exact BK663.out) k_ hn_))⟩)) (zP (by repeat (first|(with_reducible first|exact HB.out|apply zG|apply zD|apply zH|refine zC ?_ GE661.out|refine zC ?_ GE662.out|refine zC ?_ GE663.out)|exact HB.out))));have n4_:=Zk (V_lower (zO (ok':=fun k_=>((P0_0_ k_∨P0_1_ k_∨P0_2_ k_)∨w.heap.size≤k_)∧k_≠gb661∧k_≠gb662∧k_≠gb663) ho1 (fun k_ hk_=>⟨Or.elim hk_ (fun hs_=>Or.elim hs_ (fun hs_=>hs_.1.1.1) (fun hs_=>Or.elim hs_ (fun hs_=>hs_.1.1.1) (fun hs_=>hs_.1.1.1))) (fun hn_=>(.inr (Nat.le_trans (zP (by repeat (first|(with_reducible first|exact HB.out|apply zG|apply zD|apply zH|refine zC ?_ GE661.out|refine zC ?_ GE662.out|refine zC ?_ GE663.out)|exact HB.out))) hn_))),Or.elim hk_ (fun hs_=>Or.elim hs_ (fun hs_=>hs_.1.1.2) (fun hs_=>Or.elim hs_ (fun hs_=>hs_.1.1.2) (fun hs_=>hs_.1.1.2))) (fun hn_=>(Kd.freshB (g:=gb661) (o:=.cells #[.slice A0_0 l0_0.length c0_0,.slice A0_1 l0_1.length c0_1,.slice A0_2 l0_2.length c0_2] 30 (0,0)) (by (with_reducible repeat (first|refine zB ?_ _|refine zF ?_|refine zA ?_ _));exact BK661.out) k_ hn_)),Or.elim hk_ (fun hs_=>Or.elim hs_ (fun hs_=>hs_.1.2) (fun hs_=>Or.elim hs_ (fun hs_=>hs_.1.2) (fun hs_=>hs_.1.2))) (fun hn_=>(Kd.freshB (g:=gb662) (o:=.cells #[.int .i64 a1_0,.int .i64 a1_1,.int .i64 a1_2] 51 (0,0)) (by (with_reducible repeat (first|refine zB ?_ _|refine zF ?_|refine zA ?_ _));exact BK662.out) k_ hn_)),Or.elim hk_ (fun hs_=>Or.elim hs_ (fun hs_=>hs_.2) (fun hs_=>Or.elim hs_ (fun hs_=>hs_.2) (fun hs_=>hs_.2))) (fun hn_=>(Kd.freshB (g:=gb663) (o:=.cells #[.slice none 0 0,.slice none 0 0,.slice none 0 0] 30 (0,0)) (by (with_reducible repeat (first|refine zB ?_ _|refine zF ?_|refine zA ?_ _));exact BK663.out) k_ hn_))⟩)) (zP (by repeat (first|(with_reducible first|exact HB.out|apply zG|apply zD|apply zH|refine zC ?_ GE661.out|refine zC ?_ GE662.out|refine zC ?_ GE663.out)|exact HB.out))));have n5_:=Zk (V_lower (zO (ok':=fun k_=>((P0_0_ k_∨P0_1_ k_∨P0_2_ k_)∨w.heap.size≤k_)∧k_≠gb661∧k_≠gb662∧k_≠gb663) ho2 (fun k_ hk_=>⟨Or.elim hk_ (fun hs_=>Or.elim hs_ (fun hs_=>hs_.1.1.1) (fun hs_=>Or.elim hs_ (fun hs_=>hs_.1.1.1) (fun hs_=>hs_.1.1.1))) (fun hn_=>(.inr (Nat.le_trans (zP (by repeat (first|(with_reducible first|exact HB.out|apply zG|apply zD|apply zH|refine zC ?_ GE661.out|refine zC ?_ GE662.out|refine zC ?_ GE663.out)|exact HB.out))) hn_))),Or.elim hk_ (fun hs_=>Or.elim hs_ (fun hs_=>hs_.1.1.2) (fun hs_=>Or.elim hs_ (fun hs_=>hs_.1.1.2) (fun hs_=>hs_.1.1.2))) (fun hn_=>(Kd.freshB (g:=gb661) (o:=.cells #[.slice A0_0 l0_0.length c0_0,.slice A0_1 l0_1.length c0_1,.slice A0_2 l0_2.length c0_2] 30 (0,0)) (by (with_reducible repeat (first|refine zB ?_ _|refine zF ?_|refine zA ?_ _));exact BK661.out) k_ hn_)),Or.elim hk_ (fun hs_=>Or.elim hs_ (fun hs_=>hs_.1.2) (fun hs_=>Or.elim hs_ (fun hs_=>hs_.1.2) (fun hs_=>hs_.1.2))) (fun hn_=>(Kd.freshB (g:=gb662) (o:=.cells #[.int .i64 a1_0,.int .i64 a1_1,.int .i64 a1_2] 51 (0,0)) (by (with_reducible repeat (first|refine zB ?_ _|refine zF ?_|refine zA ?_ _));exact BK662.out) k_ hn_)),Or.elim hk_ (fun hs_=>Or.elim hs_ (fun hs_=>hs_.2) (fun hs_=>Or.elim hs_ (fun hs_=>hs_.2) (fun hs_=>hs_.2))) (fun hn_=>(Kd.freshB (g:=gb663) (o:=.cells #[.slice none 0 0,.slice none 0 0,.slice none 0 0] 30 (0,0)) (by (with_reducible repeat (first|refine zB ?_ _|refine zF ?_|refine zA ?_ _));exact BK663.out) k_ hn_))⟩)) (zP (by repeat (first|(with_reducible first|exact HB.out|apply zG|apply zD|apply zH|refine zC ?_ GE661.out|refine zC ?_ GE662.out|refine zC ?_ GE663.out)|exact HB.out))));have n6_:=Zk (zW (g:=gb661) (o:=.cells #[.slice A0_0 l0_0.length c0_0,.slice A0_1 l0_1.length c0_1,.slice A0_2 l0_2.length c0_2] 30 (0,0)) (by (with_reducible repeat (first|refine zB ?_ _|refine zF ?_|refine zA ?_ _));exact BK661.out) hb);have n7_:=Zk (zW (g:=gb662) (o:=.cells #[.int .i64 a1_0,.int .i64 a1_1,.int .i64 a1_2] 51 (0,0)) (by (with_reducible repeat (first|refine zB ?_ _|refine zF ?_|refine zA ?_ _));exact BK662.out) hb);have n8_:=Zk (zW (g:=gb663) (o:=.cells #[.slice none 0 0,.slice none 0 0,.slice none 0 0] 30 (0,0)) (by (with_reducible repeat (first|refine zB ?_ _|refine zF ?_|refine zA ?_ _));exact BK663.out) hb);have n9_:=Zk (yA (by repeat (first|(with_reducible first|exact HB.out|apply zG|apply zD|apply zH|refine zC ?_ GE661.out|refine zC ?_ GE662.out|refine zC ?_ GE663.out)|exact HB.out)) hb);clear HO0_0;clear HO0_1;clear HO0_2;clear BK661;clear BK662;clear BK663;clear HB;have HO0_0:=n0_;have HO0_1:=n1_;have HO0_2:=n2_;have HO666:=n3_;have HO669:=n4_;have HO672:=n5_;have BK661:=n6_;have BK662:=n7_;have BK663:=n8_;have HB:=n9_;clear n0_ n1_ n2_ n3_ n4_ n5_ n6_ n7_ n8_ n9_;(try clear hb);(try clear hb2);(try clear hk);(try clear hi);(try clear ho0);(try clear ho1);(try clear ho2);obtain ⟨Ao14,co14,eo14⟩:=V_slice HO666.out;subst eo14;have hcz15_0:w13.cell? ⟨gb663,0,none⟩=some (.slice none 0 0):=(zJ BK663.out 0).trans rfl;have hcz15_1:w13.cell? ⟨gb663,1,none⟩=some (.slice none 0 0):=(zJ BK663.out 1).trans rfl;have hcz15_2:w13.cell? ⟨gb663,2,none⟩=some (.slice none 0 0):=(zJ BK663.out 2).trans rfl;have hfz15_0:=zI BK663.out 0;have hfz15_1:=zI BK663.out 1;have hfz15_2:=zI BK663.out 2;obtain ⟨Ao16,co16,eo16⟩:=V_slice HO669.out;subst eo16;obtain ⟨Ao17,co17,eo17⟩:=V_slice HO672.out;subst eo17)|((with_reducible refine xA (t:=30) (p:=4) rfl ?_);refine yY (t:=30) (p:=4) (v:=?vo_w18) (w1:=(((w13.setCell ⟨gb663,0,none⟩ (.slice Ao14 t664.length co14)).setCell ⟨gb663,1,none⟩ (.slice Ao16 t667.length co16)).setCell ⟨gb663,2,none⟩ (.slice Ao17 t670.length co17))) ?hg ?ho ?hn ?hr ?_;(case ho=>rfl);(case hg=>rfl);(case hn=>rfl);(case hr=>first|(go_simp;done)|(go_simp;rfl));intro w18 hw;have n0_:zN (Kd.V (Kd.int .i64) 3 w18 w.heap.size (fun k_=>((P0_0_ k_∨P0_1_ k_∨P0_2_ k_)∨w.heap.size≤k_)∧k_≠gb661∧k_≠gb662∧k_≠gb663) (.slice A0_0 l0_0.length c0_0) l0_0):=⟨(by rw [hw];exact (by (with_reducible repeat (first|apply zL|apply zK|apply zM));exact zO (zS (p:=⟨gb663,2,none⟩) (zS (p:=⟨gb663,1,none⟩) (zS (p:=⟨gb663,0,none⟩) (zO HO0_0.out (fun k_ hk=>(⟨hk,hk.2⟩:_∧k_≠gb663))) (fun _ hk=>hk.2) (.slice Ao14 t664.length co14)) (fun _ hk=>hk.2) (.slice Ao16 t667.length co16)) (fun _ hk=>hk.2) (.slice Ao17 t670.length co17)) (fun _ hk=>⟨hk.1.1.1.1,⟨hk.1.1.1.2,⟨hk.1.1.2,hk.1.2⟩⟩⟩)))⟩;have n1_:zN (Kd.V (Kd.int .i64) 3 w18 w.heap.size (fun k_=>((P0_0_ k_∨P0_1_ k_∨P0_2_ k_)∨w.heap.size≤k_)∧k_≠gb661∧k_≠gb662∧k_≠gb663) (.slice A0_1 l0_1.length c0_1) l0_1):=⟨(by rw [hw];exact (by (with_reducible repeat (first|apply zL|apply zK|apply zM));exact zO (zS (p:=⟨gb663,2,none⟩) (zS (p:=⟨gb663,1,none⟩) (zS (p:=⟨gb663,0,none⟩) (zO HO0_1.out (fun k_ hk=>(⟨hk,hk.2⟩:_∧k_≠gb663))) (fun _ hk=>hk.2) (.slice Ao14 t664.length co14)) (fun _ hk=>hk.2) (.slice Ao16 t667.length co16)) (fun _ hk=>hk.2) (.slice Ao17 t670.length co17)) (fun _ hk=>⟨hk.1.1.1.1,⟨hk.1.1.1.2,⟨hk.1.1.2,hk.1.2⟩⟩⟩)))⟩;have n2_:zN (Kd.V (Kd.int .i64) 3 w18 w.heap.size (fun k_=>((P0_0_ k_∨P0_1_ k_∨P0_2_ k_)∨w.heap.size≤k_)∧k_≠gb661∧k_≠gb662∧k_≠gb663) (.slice A0_2 l0_2.length c0_2) l0_2):=⟨(by rw [hw];exact (by (with_reducible repeat (first|apply zL|apply zK|apply zM));exact zO (zS (p:=⟨gb663,2,none⟩) (zS (p:=⟨gb663,1,none⟩) (zS (p:=⟨gb663,0,none⟩) (zO HO0_2.out (fun k_ hk=>(⟨hk,hk.2⟩:_∧k_≠gb663))) (fun _ hk=>hk.2) (.slice Ao14 t664.length co14)) (fun _ hk=>hk.2) (.slice Ao16 t667.length co16)) (fun _ hk=>hk.2) (.slice Ao17 t670.length co17)) (fun _ hk=>⟨hk.1.1.1.1,⟨hk.1.1.1.2,⟨hk.1.1.2,hk.1.2⟩⟩⟩)))⟩;have n3_:zN (Kd.V (Kd.int .i64) 3 w18 w.heap.size (fun k_=>((P0_0_ k_∨P0_1_ k_∨P0_2_ k_)∨w.heap.size≤k_)∧k_≠gb661∧k_≠gb662∧k_≠gb663) (.slice Ao14 t664.length co14) t664):=⟨(by rw [hw];exact (by (with_reducible repeat (first|apply zL|apply zK|apply zM));exact zO (zS (p:=⟨gb663,2,none⟩) (zS (p:=⟨gb663,1,none⟩) (zS (p:=⟨gb663,0,none⟩) (zO HO666.out (fun k_ hk=>(⟨hk,hk.2.2.2⟩:_∧k_≠gb663))) (fun _ hk=>hk.2) (.slice Ao14 t664.length co14)) (fun _ hk=>hk.2) (.slice Ao16 t667.length co16)) (fun _ hk=>hk.2) (.slice Ao17 t670.length co17)) (fun _ hk=>⟨hk.1.1,⟨hk.1.2.1,⟨hk.1.2.2.1,hk.1.2.2.2⟩⟩⟩)))⟩;have n4_:zN (Kd.V (Kd.int .i64) 3 w18 w.heap.size (fun k_=>((P0_0_ k_∨P0_1_ k_∨P0_2_ k_)∨w.heap.size≤k_)∧k_≠gb661∧k_≠gb662∧k_≠gb663) (.slice Ao16 t667.length co16) t667):=⟨(by rw [hw];exact (by (with_reducible repeat (first|apply zL|apply zK|apply zM));exact zO (zS (p:=⟨gb663,2,none⟩) (zS (p:=⟨gb663,1,none⟩) (zS (p:=⟨gb663,0,none⟩) (zO HO669.out (fun k_ hk=>(⟨hk,hk.2.2.2⟩:_∧k_≠gb663))) (fun _ hk=>hk.2) (.slice Ao14 t664.length co14)) (fun _ hk=>hk.2) (.slice Ao16 t667.length co16)) (fun _ hk=>hk.2) (.slice Ao17 t670.length co17)) (fun _ hk=>⟨hk.1.1,⟨hk.1.2.1,⟨hk.1.2.2.1,hk.1.2.2.2⟩⟩⟩)))⟩;have n5_:zN (Kd.V (Kd.int .i64) 3 w18 w.heap.size (fun k_=>((P0_0_ k_∨P0_1_ k_∨P0_2_ k_)∨w.heap.size≤k_)∧k_≠gb661∧k_≠gb662∧k_≠gb663) (.slice Ao17 t670.length co17) t670):=⟨(by rw [hw];exact (by (with_reducible repeat (first|apply zL|apply zK|apply zM));exact zO (zS (p:=⟨gb663,2,none⟩) (zS (p:=⟨gb663,1,none⟩) (zS (p:=⟨gb663,0,none⟩) (zO HO672.out (fun k_ hk=>(⟨hk,hk.2.2.2⟩:_∧k_≠gb663))) (fun _ hk=>hk.2) (.slice Ao14 t664.length co14)) (fun _ hk=>hk.2) (.slice Ao16 t667.length co16)) (fun _ hk=>hk.2) (.slice Ao17 t670.length co17)) (fun _ hk=>⟨hk.1.1,⟨hk.1.2.1,⟨hk.1.2.2.1,hk.1.2.2.2⟩⟩⟩)))⟩;have n6_:zN (w18.heap[gb661]?=some (.cells #[.slice A0_0 l0_0.length c0_0,.slice A0_1 l0_1.length c0_1,.slice A0_2 l0_2.length c0_2] 30 (0,0))):=⟨(by rw [hw];exact (by (with_reducible repeat (first|refine zB ?_ _|refine zF ?_|refine zA ?_ _));refine zY ?_ NB661_663.out _;(with_reducible repeat (first|refine zB ?_ _|refine zF ?_|refine zA ?_ _));refine zY ?_ NB661_663.out _;(with_reducible repeat (first|refine zB ?_ _|refine zF ?_|refine zA ?_ _));refine zY ?_ NB661_663.out _;(with_reducible repeat (first|refine zB ?_ _|refine zF ?_|refine zA ?_ _));exact BK661.out))⟩;have n7_:zN (w18.heap[gb662]?=some (.cells #[.int .i64 a1_0,.int .i64 a1_1,.int .i64 a1_2] 51 (0,0))):=⟨(by rw [hw];exact (by (with_reducible repeat (first|refine zB ?_ _|refine zF ?_|refine zA ?_ _));refine zY ?_ NB662_663.out _;(with_reducible repeat (first|refine zB ?_ _|refine zF ?_|refine zA ?_ _));refine zY ?_ NB662_663.out _;(with_reducible repeat (first|refine zB ?_ _|refine zF ?_|refine zA ?_ _));refine zY ?_ NB662_663.out _;(with_reducible repeat (first|refine zB ?_ _|refine zF ?_|refine zA ?_ _));exact BK662.out))⟩;have n8_:zN (w18.heap[gb663]?=some (.cells #[.slice Ao14 t664.length co14,.slice Ao16 t667.length co16,.slice Ao17 t670.length co17] 30 (0,0))):=⟨(by rw [hw];exact (by (with_reducible repeat (first|refine zB ?_ _|refine zF ?_|refine zA ?_ _));refine yE (cs:=#[.slice Ao14 t664.length co14,.slice Ao16 t667.length co16,.slice none 0 0]) ?_ 2 _ rfl;(with_reducible repeat (first|refine zB ?_ _|refine zF ?_|refine zA ?_ _));refine yE (cs:=#[.slice Ao14 t664.length co14,.slice none 0 0,.slice none 0 0]) ?_ 1 _ rfl;(with_reducible repeat (first|refine zB ?_ _|refine zF ?_|refine zA ?_ _));refine yE (cs:=#[.slice none 0 0,.slice none 0 0,.slice none 0 0]) ?_ 0 _ rfl;(with_reducible repeat (first|refine zB ?_ _|refine zF ?_|refine zA ?_ _));exact BK663.out))⟩;have n9_:zN (Below w.heap.size w w18):=⟨(by rw [hw];exact (by repeat (first|(with_reducible first|exact HB.out|apply zG|apply zD|apply zH|refine zC ?_ GE661.out|refine zC ?_ GE662.out|refine zC ?_ GE663.out)|exact HB.out)))⟩;clear hw;clear HO0_0;clear HO0_1;clear HO0_2;clear HO666;clear HO669;clear HO672;clear BK661;clear BK662;clear BK663;clear HB;have HO0_0:=n0_;have HO0_1:=n1_;have HO0_2:=n2_;have HO666:=n3_;have HO669:=n4_;have HO672:=n5_;have BK661:=n6_;have BK662:=n7_;have BK663:=n8_;have HB:=n9_;clear n0_ n1_ n2_ n3_ n4_ n5_ n6_ n7_ n8_ n9_))
  refine bodyPost_ret (results_cell_row rfl _ _ gb663 30 #[.slice Ao14 t664.length co14,.slice Ao16 t667.length co16,.slice Ao17 t670.length co17] (0,0) _ rfl (by (with_reducible repeat (first|refine zB ?_ _|refine zF ?_|refine zA ?_ _));exact BK663.out) Tryd.underlying30 rfl (by kernel_rfl)) rfl ?_
  exact ⟨_,_,_,by first|rfl|(simp [errW_none,errW_some] <;> rfl)|(simp [*,errW_none,errW_some] <;> rfl),by (with_reducible repeat (first|apply zL|apply zK|apply zM));exact zO HO666.out (fun _ hk=>hk.1),by (with_reducible repeat (first|apply zL|apply zK|apply zM));exact zO HO669.out (fun _ hk=>hk.1),by (with_reducible repeat (first|apply zL|apply zK|apply zM));exact zO HO672.out (fun _ hk=>hk.1),by repeat (first|(with_reducible first|exact HB.out|apply zG|apply zD|apply zH|refine zC ?_ GE661.out|refine zC ?_ GE662.out|refine zC ?_ GE663.out)|exact HB.out)⟩
 ·rw [if_neg c3] at H
  have c3b0:(a1_0 == 0)=false:=beq_eq_false_iff_ne.mpr c3
  have c3b1:(a1_0 != 0)=true:=bne_iff_ne.mpr c3
  by_cases c19:a1_0=1
  ·rw [if_pos c19] at H
   have c19b0:(a1_0 == 1)=true:=beq_iff_eq.mpr c19
   have c19b1:(a1_0 != 1)=false:=bne_eq_false_iff_eq.mpr c19
   clear c19
   replace H:=Option.bind_eq_some_iff.mp H
   obtain ⟨⟨t673,t676,t679,t682,t683⟩,A200,H⟩:=H
   replace H:(some (t673,t676,t679))=some (r1,r2,r3):=H
   have A20:=Zk A200
   clear A200
   simp only [Option.some.injEq,Prod.mk.injEq] at H
   obtain ⟨rfl,rfl,rfl⟩:=H
   go_enter Tryd.func32,Tryd.ntmps32
   go_wp2_with (first|((with_reducible refine yT (N:=2) rfl ?_);refine yV ?hg (N:=2) ?hd (cs:=#[.slice A0_0 l0_0.length c0_0,.slice A0_1 l0_1.length c0_1,.slice A0_2 l0_2.length c0_2]) (t:=30) ?hr ?_;(case hd=>rfl);(case hg=>rfl);(case hr=>first|(go_simp;done)|(go_simp;rfl));intro gb661 hg w21 hbox hb;have n0_:=Zk (zV (yC (by (with_reducible repeat (first|apply zL|apply zK|apply zM));exact HO0_0.out) gb661 (Nat.le_of_eq hg.symm)) hb);have n1_:=Zk (zV (yC (by (with_reducible repeat (first|apply zL|apply zK|apply zM));exact HO0_1.out) gb661 (Nat.le_of_eq hg.symm)) hb);have n2_:=Zk (zV (yC (by (with_reducible repeat (first|apply zL|apply zK|apply zM));exact HO0_2.out) gb661 (Nat.le_of_eq hg.symm)) hb);have n3_:=Zk (yA (by repeat (first|(with_reducible first|exact HB.out|apply zG|apply zD|apply zH)|exact HB.out)) hb);have n4_:=Zk (hbox);have n5_:=Zk ((by rw [hg];exact (zP (by repeat (first|(with_reducible first|exact HB.out|apply zG|apply zD|apply zH)|exact HB.out))):w.heap.size≤gb661));have n6_:=Zk ((by rw [hg];exact (zP (by repeat (first|(with_reducible first|exact HB.out|apply zG|apply zD|apply zH)|exact HB.out))):w.heap.size≤gb661));clear HO0_0;clear HO0_1;clear HO0_2;clear HB;have HO0_0:=n0_;have HO0_1:=n1_;have HO0_2:=n2_;have HB:=n3_;have BK661:=n4_;have GW661:=n5_;have GE661:=n6_;clear n0_ n1_ n2_ n3_ n4_ n5_ n6_;clear hb hbox hg)|((with_reducible refine yT (N:=3) rfl ?_);refine yV ?hg (N:=3) ?hd (cs:=#[.int .i64 a1_0,.int .i64 a1_1,.int .i64 a1_2]) (t:=51) ?hr ?_;(case hd=>rfl);(case hg=>rfl);(case hr=>first|(go_simp;done)|(go_simp;rfl));intro gb662 hg w22 hbox hb;have n0_:=Zk (zV (yC (by (with_reducible repeat (first|apply zL|apply zK|apply zM));exact HO0_0.out) gb662 (Nat.le_of_eq hg.symm)) hb);have n1_:=Zk (zV (yC (by (with_reducible repeat (first|apply zL|apply zK|apply zM));exact HO0_1.out) gb662 (Nat.le_of_eq hg.symm)) hb);have n2_:=Zk (zV (yC (by (with_reducible repeat (first|apply zL|apply zK|apply zM));exact HO0_2.out) gb662 (Nat.le_of_eq hg.symm)) hb);have n3_:=Zk (zW (g:=gb661) (o:=.cells #[.slice A0_0 l0_0.length c0_0,.slice A0_1 l0_1.length c0_1,.slice A0_2 l0_2.length c0_2] 30 (0,0)) (by (with_reducible repeat (first|refine zB ?_ _|refine zF ?_|refine zA ?_ _));exact BK661.out) hb);have n4_:=Zk (yA (by repeat (first|(with_reducible first|exact HB.out|apply zG|apply zD|apply zH|refine zC ?_ GE661.out)|exact HB.out)) hb);have n5_:=Zk (hbox);have n6_:=Zk ((by rw [hg];exact (zP (by repeat (first|(with_reducible first|exact HB.out|apply zG|apply zD|apply zH|refine zC ?_ GE661.out)|exact HB.out))):w.heap.size≤gb662));have n7_:=Zk ((by rw [hg];exact (zP (by repeat (first|(with_reducible first|exact HB.out|apply zG|apply zD|apply zH|refine zC ?_ GE661.out)|exact HB.out))):w.heap.size≤gb662));have n8_:=Zk ((by rw [hg];exact Nat.ne_of_lt (yN (g:=gb661) (o:=.cells #[.slice A0_0 l0_0.length c0_0,.slice A0_1 l0_1.length c0_1,.slice A0_2 l0_2.length c0_2] 30 (0,0)) (by (with_reducible repeat (first|refine zB ?_ _|refine zF ?_|refine zA ?_ _));exact BK661.out)):gb661≠gb662));have n9_:=Zk ((by rw [hg];exact Nat.ne_of_gt (yN (g:=gb661) (o:=.cells #[.slice A0_0 l0_0.length c0_0,.slice A0_1 l0_1.length c0_1,.slice A0_2 l0_2.length c0_2] 30 (0,0)) (by (with_reducible repeat (first|refine zB ?_ _|refine zF ?_|refine zA ?_ _));exact BK661.out)):gb662≠gb661));clear HO0_0;clear HO0_1;clear HO0_2;clear BK661;clear HB;have HO0_0:=n0_;have HO0_1:=n1_;have HO0_2:=n2_;have BK661:=n3_;have HB:=n4_;have BK662:=n5_;have GW662:=n6_;have GE662:=n7_;have NB661_662:=n8_;have NB662_661:=n9_;clear n0_ n1_ n2_ n3_ n4_ n5_ n6_ n7_ n8_ n9_;clear hb hbox hg)|((with_reducible refine yT (N:=4) rfl ?_);refine yV ?hg (N:=4) ?hd (cs:=#[.slice none 0 0,.slice none 0 0,.slice none 0 0]) (t:=30) ?hr ?_;(case hd=>rfl);(case hg=>rfl);(case hr=>first|(go_simp;done)|(go_simp;rfl));intro gb663 hg w23 hbox hb;have n0_:=Zk (zV (yC (by (with_reducible repeat (first|apply zL|apply zK|apply zM));exact HO0_0.out) gb663 (Nat.le_of_eq hg.symm)) hb);have n1_:=Zk (zV (yC (by (with_reducible repeat (first|apply zL|apply zK|apply zM));exact HO0_1.out) gb663 (Nat.le_of_eq hg.symm)) hb);have n2_:=Zk (zV (yC (by (with_reducible repeat (first|apply zL|apply zK|apply zM));exact HO0_2.out) gb663 (Nat.le_of_eq hg.symm)) hb);have n3_:=Zk (zW (g:=gb661) (o:=.cells #[.slice A0_0 l0_0.length c0_0,.slice A0_1 l0_1.length c0_1,.slice A0_2 l0_2.length c0_2] 30 (0,0)) (by (with_reducible repeat (first|refine zB ?_ _|refine zF ?_|refine zA ?_ _));exact BK661.out) hb);have n4_:=Zk (zW (g:=gb662) (o:=.cells #[.int .i64 a1_0,.int .i64 a1_1,.int .i64 a1_2] 51 (0,0)) (by (with_reducible repeat (first|refine zB ?_ _|refine zF ?_|refine zA ?_ _));exact BK662.out) hb);have n5_:=Zk (yA (by repeat (first|(with_reducible first|exact HB.out|apply zG|apply zD|apply zH|refine zC ?_ GE661.out|refine zC ?_ GE662.out)|exact HB.out)) hb);have n6_:=Zk (hbox);have n7_:=Zk ((by rw [hg];exact (zP (by repeat (first|(with_reducible first|exact HB.out|apply zG|apply zD|apply zH|refine zC ?_ GE661.out|refine zC ?_ GE662.out)|exact HB.out))):w.heap.size≤gb663));have n8_:=Zk ((by rw [hg];exact (zP (by repeat (first|(with_reducible first|exact HB.out|apply zG|apply zD|apply zH|refine zC ?_ GE661.out|refine zC ?_ GE662.out)|exact HB.out))):w.heap.size≤gb663));have n9_:=Zk ((by rw [hg];exact Nat.ne_of_lt (yN (g:=gb661) (o:=.cells #[.slice A0_0 l0_0.length c0_0,.slice A0_1 l0_1.length c0_1,.slice A0_2 l0_2.length c0_2] 30 (0,0)) (by (with_reducible repeat (first|refine zB ?_ _|refine zF ?_|refine zA ?_ _));exact BK661.out)):gb661≠gb663));have n10_:=Zk ((by rw [hg];exact Nat.ne_of_gt (yN (g:=gb661) (o:=.cells #[.slice A0_0 l0_0.length c0_0,.slice A0_1 l0_1.length c0_1,.slice A0_2 l0_2.length c0_2] 30 (0,0)) (by (with_reducible repeat (first|refine zB ?_ _|refine zF ?_|refine zA ?_ _));exact BK661.out)):gb663≠gb661));have n11_:=Zk ((by rw [hg];exact Nat.ne_of_lt (yN (g:=gb662) (o:=.cells #[.int .i64 a1_0,.int .i64 a1_1,.int .i64 a1_2] 51 (0,0)) (by (with_reducible repeat (first|refine zB ?_ _|refine zF ?_|refine zA ?_ _));exact BK662.out)):gb662≠gb663));have n12_:=Zk ((by rw [hg];exact Nat.ne_of_gt (yN (g:=gb662) (o:=.cells #[.int .i64 a1_0,.int .i64 a1_1,.int .i64 a1_2] 51 (0,0)) (by (with_reducible repeat (first|refine zB ?_ _|refine zF ?_|refine zA ?_ _));exact BK662.out)):gb663≠gb662));clear HO0_0;clear HO0_1;clear HO0_2;clear BK661;clear BK662;clear HB;have HO0_0:=n0_;have HO0_1:=n1_;have HO0_2:=n2_;have BK661:=n3_;have BK662:=n4_;have HB:=n5_;have BK663:=n6_;have GW663:=n7_;have GE663:=n8_;have NB661_663:=n9_;have NB663_661:=n10_;have NB662_663:=n11_;have NB663_662:=n12_;clear n0_ n1_ n2_ n3_ n4_ n5_ n6_ n7_ n8_ n9_ n10_ n11_ n12_;clear hb hbox hg;have hnb24:=NB662_661.out;have hnc24:=NB661_662.out;have hnb25:=NB662_663.out;have hnc25:=NB663_662.out;have hcz26_0:w23.cell? ⟨gb662,0,none⟩=some (.int .i64 a1_0):=(zJ BK662.out 0).trans rfl;have hcz26_1:w23.cell? ⟨gb662,1,none⟩=some (.int .i64 a1_1):=(zJ BK662.out 1).trans rfl;have hcz26_2:w23.cell? ⟨gb662,2,none⟩=some (.int .i64 a1_2):=(zJ BK662.out 2).trans rfl;have hfz26_0:=zI BK662.out 0;have hfz26_1:=zI BK662.out 1;have hfz26_2:=zI BK662.out 2;have hnb27:=NB661_663.out;have hnc27:=NB663_661.out;have hcz28_0:w23.cell? ⟨gb661,0,none⟩=some (.slice A0_0 l0_0.length c0_0):=(zJ BK661.out 0).trans rfl;have hcz28_1:w23.cell? ⟨gb661,1,none⟩=some (.slice A0_1 l0_1.length c0_1):=(zJ BK661.out 1).trans rfl;have hcz28_2:w23.cell? ⟨gb661,2,none⟩=some (.slice A0_2 l0_2.length c0_2):=(zJ BK661.out 2).trans rfl;have hfz28_0:=zI BK661.out 0;have hfz28_1:=zI BK661.out 1;have hfz28_2:=zI BK661.out 2)|((with_reducible refine yD (f:=19) rfl ?_);refine yM (some 22) rfl rfl Tryd.func19 (by kernel_rfl) rfl #[.agg #[.slice A0_0 l0_0.length c0_0,.slice A0_1 l0_1.length c0_1,.slice A0_2 l0_2.length c0_2]] rfl (by (try simp only [List.map_toArray,List.map_cons,List.map_nil]);first|done|rfl|(simp only [List.length_drop,List.length_take];rfl)) ?_;(with_reducible refine (signal_Next.calls k (fun k_=>(((((P0_0_ k_∨P0_1_ k_∨P0_2_ k_)∨w.heap.size≤k_)∧k_≠gb661)∧k_≠gb662)∧k_≠gb663)) _ _ l0_0 (fun k_=>(((((P0_0_ k_∨P0_1_ k_∨P0_2_ k_)∨w.heap.size≤k_)∧k_≠gb661)∧k_≠gb662)∧k_≠gb663)) _ _ l0_1 (fun k_=>(((((P0_0_ k_∨P0_1_ k_∨P0_2_ k_)∨w.heap.size≤k_)∧k_≠gb661)∧k_≠gb662)∧k_≠gb663)) _ _ l0_2 t673 t676 t679 t682 t683 _ ?side1 ?side2 ?side3 A20.out).mono ?_);(case side1=>exact HO0_0.out);(case side2=>exact HO0_1.out);(case side3=>exact HO0_2.out);rintro e w29 ⟨v674,v677,v680,rfl,ho0,ho1,ho2,hb⟩;refine ⟨_,rfl,?_⟩;have n0_:=Zk (zV (by (with_reducible repeat (first|apply zL|apply zK|apply zM));exact HO0_0.out) hb);have n1_:=Zk (zV (by (with_reducible repeat (first|apply zL|apply zK|apply zM));exact HO0_1.out) hb);have n2_:=Zk (zV (by (with_reducible repeat (first|apply zL|apply zK|apply zM));exact HO0_2.out) hb);have n3_:=Zk (V_lower (zO (ok':=fun k_=>((P0_0_ k_∨P0_1_ k_∨P0_2_ k_)∨w.heap.size≤k_)∧k_≠gb661∧k_≠gb662∧k_≠gb663) ho0 (fun k_ hk_=>⟨Or.elim hk_ (fun hs_=>Or.elim hs_ (fun hs_=>hs_.1.1.1) (fun hs_=>Or.elim hs_ (fun hs_=>hs_.1.1.1) (fun hs_=>hs_.1.1.1))) (fun hn_=>(.inr (Nat.le_trans (zP (by repeat (first|(with_reducible first|exact HB.out|apply zG|apply zD|apply zH|refine zC ?_ GE661.out|refine zC ?_ GE662.out|refine zC ?_ GE663.out)|exact HB.out))) hn_))),Or.elim hk_ (fun hs_=>Or.elim hs_ (fun hs_=>hs_.1.1.2) (fun hs_=>Or.elim hs_ (fun hs_=>hs_.1.1.2) (fun hs_=>hs_.1.1.2))) (fun hn_=>(Kd.freshB (g:=gb661) (o:=.cells #[.slice A0_0 l0_0.length c0_0,.slice A0_1 l0_1.length c0_1,.slice A0_2 l0_2.length c0_2] 30 (0,0)) (by (with_reducible repeat (first|refine zB ?_ _|refine zF ?_|refine zA ?_ _));exact BK661.out) k_ hn_)),Or.elim hk_ (fun hs_=>Or.elim hs_ (fun hs_=>hs_.1.2) (fun hs_=>Or.elim hs_ (fun hs_=>hs_.1.2) (fun hs_=>hs_.1.2))) (fun hn_=>(Kd.freshB (g:=gb662) (o:=.cells #[.int .i64 a1_0,.int .i64 a1_1,.int .i64 a1_2] 51 (0,0)) (by (with_reducible repeat (first|refine zB ?_ _|refine zF ?_|refine zA ?_ _));exact BK662.out) k_ hn_)),Or.elim hk_ (fun hs_=>Or.elim hs_ (fun hs_=>hs_.2) (fun hs_=>Or.elim hs_ (fun hs_=>hs_.2) (fun hs_=>hs_.2))) (fun hn_=>(Kd.freshB (g:=gb663) (o:=.cells #[.slice none 0 0,.slice none 0 0,.slice none 0 0] 30 (0,0)) (by (with_reducible repeat (first|refine zB ?_ _|refine zF ?_|refine zA ?_ _));exact BK663.out) k_ hn_))⟩)) (zP (by repeat (first|(with_reducible first|exact HB.out|apply zG|apply zD|apply zH|refine zC ?_ GE661.out|refine zC ?_ GE662.out|refine zC ?_ GE663.out)|exact HB.out))));have n4_:=Zk (V_lower (zO (ok':=fun k_=>((P0_0_ k_∨P0_1_ k_∨P0_2_ k_)∨w.heap.size≤k_)∧k_≠gb661∧k_≠gb662∧k_≠gb663) ho1 (fun k_ hk_=>⟨Or.elim hk_ (fun hs_=>Or.elim hs_ (fun hs_=>hs_.1.1.1) (fun hs_=>Or.elim hs_ (fun hs_=>hs_.1.1.1) (fun hs_=>hs_.1.1.1))) (fun hn_=>(.inr (Nat.le_trans (zP (by repeat (first|(with_reducible first|exact HB.out|apply zG|apply zD|apply zH|refine zC ?_ GE661.out|refine zC ?_ GE662.out|refine zC ?_ GE663.out)|exact HB.out))) hn_))),Or.elim hk_ (fun hs_=>Or.elim hs_ (fun hs_=>hs_.1.1.2) (fun hs_=>Or.elim hs_ (fun hs_=>hs_.1.1.2) (fun hs_=>hs_.1.1.2))) (fun hn_=>(Kd.freshB (g:=gb661) (o:=.cells #[.slice A0_0 l0_0.length c0_0,.slice A0_1 l0_1.length c0_1,.slice A0_2 l0_2.length c0_2] 30 (0,0)) (by (with_reducible repeat (first|refine zB ?_ _|refine zF ?_|refine zA ?_ _));exact BK661.out) k_ hn_)),Or.elim hk_ (fun hs_=>Or.elim hs_ (fun hs_=>hs_.1.2) (fun hs_=>Or.elim hs_ (fun hs_=>hs_.1.2) (fun hs_=>hs_.1.2))) (fun hn_=>(Kd.freshB (g:=gb662) (o:=.cells #[.int .i64 a1_0,.int .i64 a1_1,.int .i64 a1_2] 51 (0,0)) (by (with_reducible repeat (first|refine zB ?_ _|refine zF ?_|refine zA ?_ _));exact BK662.out) k_ hn_)),Or.elim hk_ (fun hs_=>Or.elim hs_ (fun hs_=>hs_.2) (fun hs_=>Or.elim hs_ (fun hs_=>hs_.2) (fun hs_=>hs_.2))) (fun hn_=>(Kd.freshB (g:=gb663) (o:=.cells #[.slice none 0 0,.slice none 0 0,.slice none 0 0] 30 (0,0)) (by (with_reducible repeat (first|refine zB ?_ _|refine zF ?_|refine zA ?_ _));exact BK663.out) k_ hn_))⟩)) (zP (by repeat (first|(with_reducible first|exact HB.out|apply zG|apply zD|apply zH|refine zC ?_ GE661.out|refine zC ?_ GE662.out|refine zC ?_ GE663.out)|exact HB.out))));have n5_:=Zk (V_lower (zO (ok':=fun k_=>((P0_0_ k_∨P0_1_ k_∨P0_2_ k_)∨w.heap.size≤k_)∧k_≠gb661∧k_≠gb662∧k_≠gb663) ho2 (fun k_ hk_=>⟨Or.elim hk_ (fun hs_=>Or.elim hs_ (fun hs_=>hs_.1.1.1) (fun hs_=>Or.elim hs_ (fun hs_=>hs_.1.1.1) (fun hs_=>hs_.1.1.1))) (fun hn_=>(.inr (Nat.le_trans (zP (by repeat (first|(with_reducible first|exact HB.out|apply zG|apply zD|apply zH|refine zC ?_ GE661.out|refine zC ?_ GE662.out|refine zC ?_ GE663.out)|exact HB.out))) hn_))),Or.elim hk_ (fun hs_=>Or.elim hs_ (fun hs_=>hs_.1.1.2) (fun hs_=>Or.elim hs_ (fun hs_=>hs_.1.1.2) (fun hs_=>hs_.1.1.2))) (fun hn_=>(Kd.freshB (g:=gb661) (o:=.cells #[.slice A0_0 l0_0.length c0_0,.slice A0_1 l0_1.length c0_1,.slice A0_2 l0_2.length c0_2] 30 (0,0)) (by (with_reducible repeat (first|refine zB ?_ _|refine zF ?_|refine zA ?_ _));exact BK661.out) k_ hn_)),Or.elim hk_ (fun hs_=>Or.elim hs_ (fun hs_=>hs_.1.2) (fun hs_=>Or.elim hs_ (fun hs_=>hs_.1.2) (fun hs_=>hs_.1.2))) (fun hn_=>(Kd.freshB (g:=gb662) (o:=.cells #[.int .i64 a1_0,.int .i64 a1_1,.int .i64 a1_2] 51 (0,0)) (by (with_reducible repeat (first|refine zB ?_ _|refine zF ?_|refine zA ?_ _));exact BK662.out) k_ hn_)),Or.elim hk_ (fun hs_=>Or.elim hs_ (fun hs_=>hs_.2) (fun hs_=>Or.elim hs_ (fun hs_=>hs_.2) (fun hs_=>hs_.2))) (fun hn_=>(Kd.freshB (g:=gb663) (o:=.cells #[.slice none 0 0,.slice none 0 0,.slice none 0 0] 30 (0,0)) (by (with_reducible repeat (first|refine zB ?_ _|refine zF ?_|refine zA ?_ _));exact BK663.out) k_ hn_))⟩)) (zP (by repeat (first|(with_reducible first|exact HB.out|apply zG|apply zD|apply zH|refine zC ?_ GE661.out|refine zC ?_ GE662.out|refine zC ?_ GE663.out)|exact HB.out))));have n6_:=Zk (zW (g:=gb661) (o:=.cells #[.slice A0_0 l0_0.length c0_0,.slice A0_1 l0_1.length c0_1,.slice A0_2 l0_2.length c0_2] 30 (0,0)) (by (with_reducible repeat (first|refine zB ?_ _|refine zF ?_|refine zA ?_ _));exact BK661.out) hb);have n7_:=Zk (zW (g:=gb662) (o:=.cells #[.int .i64 a1_0,.int .i64 a1_1,.int .i64 a1_2] 51 (0,0)) (by (with_reducible repeat (first|refine zB ?_ _|refine zF ?_|refine zA ?_ _));exact BK662.out) hb);have n8_:=Zk (zW (g:=gb663) (o:=.cells #[.slice none 0 0,.slice none 0 0,.slice none 0 0] 30 (0,0)) (by (with_reducible repeat (first|refine zB ?_ _|refine zF ?_|refine zA ?_ _));exact BK663.out) hb);have n9_:=Zk (yA (by repeat (first|(with_reducible first|exact HB.out|apply zG|apply zD|apply zH|refine zC ?_ GE661.out|refine zC ?_ GE662.out|refine zC ?_ GE663.out)|exact HB.out)) hb);clear HO0_0;clear HO0_1;clear HO0_2;clear BK661;clear BK662;clear BK663;clear HB;have HO0_0:=n0_;have HO0_1:=n1_;have HO0_2:=n2_;have HO675:=n3_;have HO678:=n4_;have HO681:=n5_;have BK661:=n6_;have BK662:=n7_;have BK663:=n8_;have HB:=n9_;clear n0_ n1_ n2_ n3_ n4_ n5_ n6_ n7_ n8_ n9_;(try clear hb);(try clear hb2);(try clear hk);(try clear hi);(try clear ho0);(try clear ho1);(try clear ho2))|((with_reducible refine yT (N:=5) rfl ?_);refine yV ?hg (N:=5) ?hd (cs:=#[.slice none 0 0,.slice none 0 0,.slice none 0 0]) (t:=30) ?hr ?_;(case hd=>rfl);(case hg=>rfl);(case hr=>first|(go_simp;done)|(go_simp;rfl));intro gb684 hg w30 hbox hb;have n0_:=Zk (zV (yC (by (with_reducible repeat (first|apply zL|apply zK|apply zM));exact HO0_0.out) gb684 (Nat.le_of_eq hg.symm)) hb);have n1_:=Zk (zV (yC (by (with_reducible repeat (first|apply zL|apply zK|apply zM));exact HO0_1.out) gb684 (Nat.le_of_eq hg.symm)) hb);have n2_:=Zk (zV (yC (by (with_reducible repeat (first|apply zL|apply zK|apply zM));exact HO0_2.out) gb684 (Nat.le_of_eq hg.symm)) hb);have n3_:=Zk (zV (yC (by (with_reducible repeat (first|apply zL|apply zK|apply zM));exact HO675.out) gb684 (Nat.le_of_eq hg.symm)) hb);have n4_:=Zk (zV (yC (by (with_reducible repeat (first|apply zL|apply zK|apply zM));exact HO678.out) gb684 (Nat.le_of_eq hg.symm)) hb);have n5_:=Zk (zV (yC (by (with_reducible repeat (first|apply zL|apply zK|apply zM));exact HO681.out) gb684 (Nat.le_of_eq hg.symm)) hb);have n6_:=Zk (zW (g:=gb661) (o:=.cells #[.slice A0_0 l0_0.length c0_0,.slice A0_1 l0_1.length c0_1,.slice A0_2 l0_2.length c0_2] 30 (0,0)) (by (with_reducible repeat (first|refine zB ?_ _|refine zF ?_|refine zA ?_ _));exact BK661.out) hb);have n7_:=Zk (zW (g:=gb662) (o:=.cells #[.int .i64 a1_0,.int .i64 a1_1,.int .i64 a1_2] 51 (0,0)) (by (with_reducible repeat (first|refine zB ?_ _|refine zF ?_|refine zA ?_ _));exact BK662.out) hb);have n8_:=Zk (zW (g:=gb663) (o:=.cells #[.slice none 0 0,.slice none 0 0,.slice none 0 0] 30 (0,0)) (by (with_reducible repeat (first|refine zB ?_ _|refine zF ?_|refine zA ?_ _));exact BK663.out) hb);have n9_:=Zk (yA (by repeat (first|(with_reducible first|exact HB.out|apply zG|apply zD|apply zH|refine zC ?_ GE661.out|refine zC ?_ GE662.out|refine zC ?_ GE663.out)|exact HB.out)) hb);have n10_:=Zk (hbox);have n11_:=Zk ((by rw [hg];exact (zP (by repeat (first|(with_reducible first|exact HB.out|apply zG|apply zD|apply zH|refine zC ?_ GE661.out|refine zC ?_ GE662.out|refine zC ?_ GE663.out)|exact HB.out))):w.heap.size≤gb684));have n12_:=Zk ((by rw [hg];exact (zP (by repeat (first|(with_reducible first|exact HB.out|apply zG|apply zD|apply zH|refine zC ?_ GE661.out|refine zC ?_ GE662.out|refine zC ?_ GE663.out)|exact HB.out))):w.heap.size≤gb684));have n13_:=Zk ((by rw [hg];exact Nat.ne_of_lt (yN (g:=gb661) (o:=.cells #[.slice A0_0 l0_0.length c0_0,.slice A0_1 l0_1.length c0_1,.slice A0_2 l0_2.length c0_2] 30 (0,0)) (by (with_reducible repeat (first|refine zB ?_ _|refine zF ?_|refine zA ?_ _));exact BK661.out)):gb661≠gb684));have n14_:=Zk ((by rw [hg];exact Nat.ne_of_gt (yN (g:=gb661) (o:=.cells #[.slice A0_0 l0_0.length c0_0,.slice A0_1 l0_1.length c0_1,.slice A0_2 l0_2.length c0_2] 30 (0,0)) (by (with_reducible repeat (first|refine zB ?_ _|refine zF ?_|refine zA ?_ _));exact BK661.out)):gb684≠gb661));have n15_:=Zk ((by rw [hg];exact Nat.ne_of_lt (yN (g:=gb662) (o:=.cells #[.int .i64 a1_0,.int .i64 a1_1,.int .i64 a1_2] 51 (0,0)) (by (with_reducible repeat (first|refine zB ?_ _|refine zF ?_|refine zA ?_ _));exact BK662.out)):gb662≠gb684));have n16_:=Zk ((by rw [hg];exact Nat.ne_of_gt (yN (g:=gb662) (o:=.cells #[.int .i64 a1_0,.int .i64 a1_1,.int .i64 a1_2] 51 (0,0)) (by (with_reducible repeat (first|refine zB ?_ _|refine zF ?_|refine zA ?_ _));exact BK662.out)):gb684≠gb662));have n17_:=Zk ((by rw [hg];exact Nat.ne_of_lt (yN (g:=gb663) (o:=.cells #[.slice none 0 0,.slice none 0 0,.slice none 0 0] 30 (0,0)) (by (with_reducible repeat (first|refine zB ?_ _|refine zF ?_|refine zA ?_ _));exact BK663.out)):gb663≠gb684));have n18_:=Zk ((by rw [hg];exact Nat.ne_of_gt (yN (g:=gb663) (o:=.cells #[.slice none 0 0,.slice none 0 0,.slice none 0 0] 30 (0,0)) (by (with_reducible repeat (first|refine zB ?_ _|refine zF ?_|refine zA ?_ _));exact BK663.out)):gb684≠gb663));clear HO0_0;clear HO0_1;clear HO0_2;clear HO675;clear HO678;clear HO681;clear BK661;clear BK662;clear BK663;clear HB;have HO0_0:=n0_;have HO0_1:=n1_;have HO0_2:=n2_;have HO675:=n3_;have HO678:=n4_;have HO681:=n5_;have BK661:=n6_;have BK662:=n7_;have BK663:=n8_;have HB:=n9_;have BK684:=n10_;have GW684:=n11_;have GE684:=n12_;have NB661_684:=n13_;have NB684_661:=n14_;have NB662_684:=n15_;have NB684_662:=n16_;have NB663_684:=n17_;have NB684_663:=n18_;clear n0_ n1_ n2_ n3_ n4_ n5_ n6_ n7_ n8_ n9_ n10_ n11_ n12_ n13_ n14_ n15_ n16_ n17_ n18_;clear hb hbox hg;obtain ⟨Ao31,co31,eo31⟩:=V_slice HO675.out;subst eo31;have hnb32:=NB684_661.out;have hnc32:=NB661_684.out;have hnb33:=NB684_662.out;have hnc33:=NB662_684.out;have hnb34:=NB684_663.out;have hnc34:=NB663_684.out;have hcz35_0:w30.cell? ⟨gb684,0,none⟩=some (.slice none 0 0):=(zJ BK684.out 0).trans rfl;have hcz35_1:w30.cell? ⟨gb684,1,none⟩=some (.slice none 0 0):=(zJ BK684.out 1).trans rfl;have hcz35_2:w30.cell? ⟨gb684,2,none⟩=some (.slice none 0 0):=(zJ BK684.out 2).trans rfl;have hfz35_0:=zI BK684.out 0;have hfz35_1:=zI BK684.out 1;have hfz35_2:=zI BK684.out 2;obtain ⟨Ao36,co36,eo36⟩:=V_slice HO678.out;subst eo36;obtain ⟨Ao37,co37,eo37⟩:=V_slice HO681.out;subst eo37)|((with_reducible refine xA (t:=30) (p:=5) rfl ?_);refine yY (t:=30) (p:=5) (v:=?vo_w38) (w1:=(((w30.setCell ⟨gb684,0,none⟩ (.slice Ao31 t673.length co31)).setCell ⟨gb684,1,none⟩ (.slice Ao36 t676.length co36)).setCell ⟨gb684,2,none⟩ (.slice Ao37 t679.length co37))) ?hg ?ho ?hn ?hr ?_;(case ho=>rfl);(case hg=>rfl);(case hn=>rfl);(case hr=>first|(go_simp;done)|(go_simp;rfl));intro w38 hw;have n0_:zN (Kd.V (Kd.int .i64) 3 w38 w.heap.size (fun k_=>((P0_0_ k_∨P0_1_ k_∨P0_2_ k_)∨w.heap.size≤k_)∧k_≠gb661∧k_≠gb662∧k_≠gb663∧k_≠gb684) (.slice A0_0 l0_0.length c0_0) l0_0):=⟨(by rw [hw];exact (by (with_reducible repeat (first|apply zL|apply zK|apply zM));exact zO (zS (p:=⟨gb684,2,none⟩) (zS (p:=⟨gb684,1,none⟩) (zS (p:=⟨gb684,0,none⟩) (zO HO0_0.out (fun k_ hk=>(⟨hk,hk.2⟩:_∧k_≠gb684))) (fun _ hk=>hk.2) (.slice Ao31 t673.length co31)) (fun _ hk=>hk.2) (.slice Ao36 t676.length co36)) (fun _ hk=>hk.2) (.slice Ao37 t679.length co37)) (fun _ hk=>⟨hk.1.1.1.1.1,⟨hk.1.1.1.1.2,⟨hk.1.1.1.2,⟨hk.1.1.2,hk.1.2⟩⟩⟩⟩)))⟩;have n1_:zN (Kd.V (Kd.int .i64) 3 w38 w.heap.size (fun k_=>((P0_0_ k_∨P0_1_ k_∨P0_2_ k_)∨w.heap.size≤k_)∧k_≠gb661∧k_≠gb662∧k_≠gb663∧k_≠gb684) (.slice A0_1 l0_1.length c0_1) l0_1):=⟨(by rw [hw];exact (by (with_reducible repeat (first|apply zL|apply zK|apply zM));exact zO (zS (p:=⟨gb684,2,none⟩) (zS (p:=⟨gb684,1,none⟩) (zS (p:=⟨gb684,0,none⟩) (zO HO0_1.out (fun k_ hk=>(⟨hk,hk.2⟩:_∧k_≠gb684))) (fun _ hk=>hk.2) (.slice Ao31 t673.length co31)) (fun _ hk=>hk.2) (.slice Ao36 t676.length co36)) (fun _ hk=>hk.2) (.slice Ao37 t679.length co37)) (fun _ hk=>⟨hk.1.1.1.1.1,⟨hk.1.1.1.1.2,⟨hk.1.1.1.2,⟨hk.1.1.2,hk.1.2⟩⟩⟩⟩)))⟩;have n2_:zN (Kd.V (Kd.int .i64) 3 w38 w.heap.size (fun k_=>((P0_0_ k_∨P0_1_ k_∨P0_2_ k_)∨w.heap.size≤k_)∧k_≠gb661∧k_≠gb662∧k_≠gb663∧k_≠gb684) (.slice A0_2 l0_2.length c0_2) l0_2):=⟨(by rw [hw];exact (by (with_reducible repeat (first|apply zL|apply zK|apply zM));exact zO (zS (p:=⟨gb684,2,none⟩) (zS (p:=⟨gb684,1,none⟩) (zS (p:=⟨gb684,0,none⟩) (zO HO0_2.out (fun k_ hk=>(⟨hk,hk.2⟩:_∧k_≠gb684))) (fun _ hk=>hk.2) (.slice Ao31 t673.length co31)) (fun _ hk=>hk.2) (.slice Ao36 t676.length co36)) (fun _ hk=>hk.2) (.slice Ao37 t679.length co37)) (fun _ hk=>⟨hk.1.1.1.1.1,⟨hk.1.1.1.1.2,⟨hk.1.1.1.2,⟨hk.1.1.2,hk.1.2⟩⟩⟩⟩)))⟩;have n3_:zN (Kd.V (Kd.int .i64) 3 w38 w.heap.size (fun k_=>((P0_0_ k_∨P0_1_ k_∨P0_2_ k_)∨w.heap.size≤k_)∧k_≠gb661∧k_≠gb662∧k_≠gb663∧k_≠gb684) (.slice Ao31 t673.length co31) t673):=⟨(by rw [hw];exact (by (with_reducible repeat (first|apply zL|apply zK|apply zM));exact zO (zS (p:=⟨gb684,2,none⟩) (zS (p:=⟨gb684,1,none⟩) (zS (p:=⟨gb684,0,none⟩) (zO HO675.out (fun k_ hk=>(⟨hk,hk.2⟩:_∧k_≠gb684))) (fun _ hk=>hk.2) (.slice Ao31 t673.length co31)) (fun _ hk=>hk.2) (.slice Ao36 t676.length co36)) (fun _ hk=>hk.2) (.slice Ao37 t679.length co37)) (fun _ hk=>⟨hk.1.1.1,⟨hk.1.1.2.1,⟨hk.1.1.2.2.1,⟨hk.1.1.2.2.2,hk.1.2⟩⟩⟩⟩)))⟩;have n4_:zN (Kd.V (Kd.int .i64) 3 w38 w.heap.size (fun k_=>((P0_0_ k_∨P0_1_ k_∨P0_2_ k_)∨w.heap.size≤k_)∧k_≠gb661∧k_≠gb662∧k_≠gb663∧k_≠gb684) (.slice Ao36 t676.length co36) t676):=⟨(by rw [hw];exact (by (with_reducible repeat (first|apply zL|apply zK|apply zM));exact zO (zS (p:=⟨gb684,2,none⟩) (zS (p:=⟨gb684,1,none⟩) (zS (p:=⟨gb684,0,none⟩) (zO HO678.out (fun k_ hk=>(⟨hk,hk.2⟩:_∧k_≠gb684))) (fun _ hk=>hk.2) (.slice Ao31 t673.length co31)) (fun _ hk=>hk.2) (.slice Ao36 t676.length co36)) (fun _ hk=>hk.2) (.slice Ao37 t679.length co37)) (fun _ hk=>⟨hk.1.1.1,⟨hk.1.1.2.1,⟨hk.1.1.2.2.1,⟨hk.1.1.2.2.2,hk.1.2⟩⟩⟩⟩)))⟩;have n5_:zN (Kd.V (Kd.int .i64) 3 w38 w.heap.size (fun k_=>((P0_0_ k_∨P0_1_ k_∨P0_2_ k_)∨w.heap.size≤k_)∧k_≠gb661∧k_≠gb662∧k_≠gb663∧k_≠gb684) (.slice Ao37 t679.length co37) t679):=⟨(by rw [hw];exact (by (with_reducible repeat (first|apply zL|apply zK|apply zM));exact zO (zS (p:=⟨gb684,2,none⟩) (zS (p:=⟨gb684,1,none⟩) (zS (p:=⟨gb684,0,none⟩) (zO HO681.out (fun k_ hk=>(⟨hk,hk.2⟩:_∧k_≠gb684))) (fun _ hk=>hk.2) (.slice Ao31 t673.length co31)) (fun _ hk=>hk.2) (.slice Ao36 t676.length co36)) (fun _ hk=>hk.2) (.slice Ao37 t679.length co37)) (fun _ hk=>⟨hk.1.1.1,⟨hk.1.1.2.1,⟨hk.1.1.2.2.1,⟨hk.1.1.2.2.2,hk.1.2⟩⟩⟩⟩)))⟩;have n6_:zN (w38.heap[gb661]?=some (.cells #[.slice A0_0 l0_0.length c0_0,.slice A0_1 l0_1.length c0_1,.slice A0_2 l0_2.length c0_2] 30 (0,0))):=⟨(by rw [hw];exact (by (with_reducible repeat (first|refine zB ?_ _|refine zF ?_|refine zA ?_ _));refine zY ?_ NB661_684.out _;(with_reducible repeat (first|refine zB ?_ _|refine zF ?_|refine zA ?_ _));refine zY ?_ NB661_684.out _;(with_reducible repeat (first|refine zB ?_ _|refine zF ?_|refine zA ?_ _));refine zY ?_ NB661_684.out _;(with_reducible repeat (first|refine zB ?_ _|refine zF ?_|refine zA ?_ _));exact BK661.out))⟩;have n7_:zN (w38.heap[gb662]?=some (.cells #[.int .i64 a1_0,.int .i64 a1_1,.int .i64 a1_2] 51 (0,0))):=⟨(by rw [hw];exact (by (with_reducible repeat (first|refine zB ?_ _|refine zF ?_|refine zA ?_ _));refine zY ?_ NB662_684.out _;(with_reducible repeat (first|refine zB ?_ _|refine zF ?_|refine zA ?_ _));refine zY ?_ NB662_684.out _;(with_reducible repeat (first|refine zB ?_ _|refine zF ?_|refine zA ?_ _));refine zY ?_ NB662_684.out _;(with_reducible repeat (first|refine zB ?_ _|refine zF ?_|refine zA ?_ _));exact BK662.out))⟩;have n8_:zN (w38.heap[gb663]?=some (.cells #[.slice none 0 0,.slice none 0 0,.slice none 0 0] 30 (0,0))):=⟨(by rw [hw];exact (by (with_reducible repeat (first|refine zB ?_ _|refine zF ?_|refine zA ?_ _));refine zY ?_ NB663_684.out _;(with_reducible repeat (first|refine zB ?_ _|refine zF ?_|refine zA ?_ _));refine zY ?_ NB663_684.out _;(with_reducible repeat (first|refine zB ?_ _|refine zF ?_|refine zA ?_ _));refine zY ?_ NB663_684.out _;(with_reducible repeat (first|refine zB ?_ _|refine zF ?_|refine zA ?_ _));exact BK663.out))⟩;have n9_:zN (w38.heap[gb684]?=some (.cells #[.slice Ao31 t673.length co31,.slice Ao36 t676.length co36,.slice Ao37 t679.length co37] 30 (0,0))):=⟨(by rw [hw];exact (by (with_reducible repeat (first|refine zB ?_ _|refine zF ?_|refine zA ?_ _));refine yE (cs:=#[.slice Ao31 t673.length co31,.slice Ao36 t676.length co36,.slice none 0 0]) ?_ 2 _ rfl;(with_reducible repeat (first|refine zB ?_ _|refine zF ?_|refine zA ?_ _));refine yE (cs:=#[.slice Ao31 t673.length co31,.slice none 0 0,.slice none 0 0]) ?_ 1 _ rfl;(with_reducible repeat (first|refine zB ?_ _|refine zF ?_|refine zA ?_ _));refine yE (cs:=#[.slice none 0 0,.slice none 0 0,.slice none 0 0]) ?_ 0 _ rfl;(with_reducible repeat (first|refine zB ?_ _|refine zF ?_|refine zA ?_ _));exact BK684.out))⟩;have n10_:zN (Below w.heap.size w w38):=⟨(by rw [hw];exact (by repeat (first|(with_reducible first|exact HB.out|apply zG|apply zD|apply zH|refine zC ?_ GE661.out|refine zC ?_ GE662.out|refine zC ?_ GE663.out|refine zC ?_ GE684.out)|exact HB.out)))⟩;clear hw;clear HO0_0;clear HO0_1;clear HO0_2;clear HO675;clear HO678;clear HO681;clear BK661;clear BK662;clear BK663;clear BK684;clear HB;have HO0_0:=n0_;have HO0_1:=n1_;have HO0_2:=n2_;have HO675:=n3_;have HO678:=n4_;have HO681:=n5_;have BK661:=n6_;have BK662:=n7_;have BK663:=n8_;have BK684:=n9_;have HB:=n10_;clear n0_ n1_ n2_ n3_ n4_ n5_ n6_ n7_ n8_ n9_ n10_;have hcz39_0:w38.cell? ⟨gb684,0,none⟩=some (.slice Ao31 t673.length co31):=(zJ BK684.out 0).trans rfl;have hcz39_1:w38.cell? ⟨gb684,1,none⟩=some (.slice Ao36 t676.length co36):=(zJ BK684.out 1).trans rfl;have hcz39_2:w38.cell? ⟨gb684,2,none⟩=some (.slice Ao37 t679.length co37):=(zJ BK684.out 2).trans rfl;have hfz39_0:=zI BK684.out 0;have hfz39_1:=zI BK684.out 1;have hfz39_2:=zI BK684.out 2;have hcz40_0:w38.cell? ⟨gb663,0,none⟩=some (.slice none 0 0):=(zJ BK663.out 0).trans rfl;have hcz40_1:w38.cell? ⟨gb663,1,none⟩=some (.slice none 0 0):=(zJ BK663.out 1).trans rfl;have hcz40_2:w38.cell? ⟨gb663,2,none⟩=some (.slice none 0 0):=(zJ BK663.out 2).trans rfl;have hfz40_0:=zI BK663.out 0;have hfz40_1:=zI BK663.out 1;have hfz40_2:=zI BK663.out 2)|((with_reducible refine xA (t:=30) (p:=4) rfl ?_);refine yY (t:=30) (p:=4) (v:=?vo_w41) (w1:=(((w38.setCell ⟨gb663,0,none⟩ (.slice Ao31 t673.length co31)).setCell ⟨gb663,1,none⟩ (.slice Ao36 t676.length co36)).setCell ⟨gb663,2,none⟩ (.slice Ao37 t679.length co37))) ?hg ?ho ?hn ?hr ?_;(case ho=>rfl);(case hg=>rfl);(case hn=>rfl);(case hr=>first|(go_simp;done)|(go_simp;rfl));intro w41 hw;have n0_:zN (Kd.V (Kd.int .i64) 3 w41 w.heap.size (fun k_=>((P0_0_ k_∨P0_1_ k_∨P0_2_ k_)∨w.heap.size≤k_)∧k_≠gb661∧k_≠gb662∧k_≠gb663∧k_≠gb684) (.slice A0_0 l0_0.length c0_0) l0_0):=⟨(by rw [hw];exact (by (with_reducible repeat (first|apply zL|apply zK|apply zM));exact zO (zS (p:=⟨gb663,2,none⟩) (zS (p:=⟨gb663,1,none⟩) (zS (p:=⟨gb663,0,none⟩) (zO HO0_0.out (fun k_ hk=>(⟨hk,hk.2.2.2.1⟩:_∧k_≠gb663))) (fun _ hk=>hk.2) (.slice Ao31 t673.length co31)) (fun _ hk=>hk.2) (.slice Ao36 t676.length co36)) (fun _ hk=>hk.2) (.slice Ao37 t679.length co37)) (fun _ hk=>⟨hk.1.1,⟨hk.1.2.1,⟨hk.1.2.2.1,⟨hk.1.2.2.2.1,hk.1.2.2.2.2⟩⟩⟩⟩)))⟩;have n1_:zN (Kd.V (Kd.int .i64) 3 w41 w.heap.size (fun k_=>((P0_0_ k_∨P0_1_ k_∨P0_2_ k_)∨w.heap.size≤k_)∧k_≠gb661∧k_≠gb662∧k_≠gb663∧k_≠gb684) (.slice A0_1 l0_1.length c0_1) l0_1):=⟨(by rw [hw];exact (by (with_reducible repeat (first|apply zL|apply zK|apply zM));exact zO (zS (p:=⟨gb663,2,none⟩) (zS (p:=⟨gb663,1,none⟩) (zS (p:=⟨gb663,0,none⟩) (zO HO0_1.out (fun k_ hk=>(⟨hk,hk.2.2.2.1⟩:_∧k_≠gb663))) (fun _ hk=>hk.2) (.slice Ao31 t673.length co31)) (fun _ hk=>hk.2) (.slice Ao36 t676.length co36)) (fun _ hk=>hk.2) (.slice Ao37 t679.length co37)) (fun _ hk=>⟨hk.1.1,⟨hk.1.2.1,⟨hk.1.2.2.1,⟨hk.1.2.2.2.1,hk.1.2.2.2.2⟩⟩⟩⟩)))⟩;have n2_:zN (Kd.V (Kd.int .i64) 3 w41 w.heap.size (fun k_=>((P0_0_ k_∨P0_1_ k_∨P0_2_ k_)∨w.heap.size≤k_)∧k_≠gb661∧k_≠gb662∧k_≠gb663∧k_≠gb684) (.slice A0_2 l0_2.length c0_2) l0_2):=⟨(by rw [hw];exact (by (with_reducible repeat (first|apply zL|apply zK|apply zM));exact zO (zS (p:=⟨gb663,2,none⟩) (zS (p:=⟨gb663,1,none⟩) (zS (p:=⟨gb663,0,none⟩) (zO HO0_2.out (fun k_ hk=>(⟨hk,hk.2.2.2.1⟩:_∧k_≠gb663))) (fun _ hk=>hk.2) (.slice Ao31 t673.length co31)) (fun _ hk=>hk.2) (.slice Ao36 t676.length co36)) (fun _ hk=>hk.2) (.slice Ao37 t679.length co37)) (fun _ hk=>⟨hk.1.1,⟨hk.1.2.1,⟨hk.1.2.2.1,⟨hk.1.2.2.2.1,hk.1.2.2.2.2⟩⟩⟩⟩)))⟩;have n3_:zN (Kd.V (Kd.int .i64) 3 w41 w.heap.size (fun k_=>((P0_0_ k_∨P0_1_ k_∨P0_2_ k_)∨w.heap.size≤k_)∧k_≠gb661∧k_≠gb662∧k_≠gb663∧k_≠gb684) (.slice Ao31 t673.length co31) t673):=⟨(by rw [hw];exact (by (with_reducible repeat (first|apply zL|apply zK|apply zM));exact zO (zS (p:=⟨gb663,2,none⟩) (zS (p:=⟨gb663,1,none⟩) (zS (p:=⟨gb663,0,none⟩) (zO HO675.out (fun k_ hk=>(⟨hk,hk.2.2.2.1⟩:_∧k_≠gb663))) (fun _ hk=>hk.2) (.slice Ao31 t673.length co31)) (fun _ hk=>hk.2) (.slice Ao36 t676.length co36)) (fun _ hk=>hk.2) (.slice Ao37 t679.length co37)) (fun _ hk=>⟨hk.1.1,⟨hk.1.2.1,⟨hk.1.2.2.1,⟨hk.1.2.2.2.1,hk.1.2.2.2.2⟩⟩⟩⟩)))⟩;have n4_:zN (Kd.V (Kd.int .i64) 3 w41 w.heap.size (fun k_=>((P0_0_ k_∨P0_1_ k_∨P0_2_ k_)∨w.heap.size≤k_)∧k_≠gb661∧k_≠gb662∧k_≠gb663∧k_≠gb684) (.slice Ao36 t676.length co36) t676):=⟨(by rw [hw];exact (by (with_reducible repeat (first|apply zL|apply zK|apply zM));exact zO (zS (p:=⟨gb663,2,none⟩) (zS (p:=⟨gb663,1,none⟩) (zS (p:=⟨gb663,0,none⟩) (zO HO678.out (fun k_ hk=>(⟨hk,hk.2.2.2.1⟩:_∧k_≠gb663))) (fun _ hk=>hk.2) (.slice Ao31 t673.length co31)) (fun _ hk=>hk.2) (.slice Ao36 t676.length co36)) (fun _ hk=>hk.2) (.slice Ao37 t679.length co37)) (fun _ hk=>⟨hk.1.1,⟨hk.1.2.1,⟨hk.1.2.2.1,⟨hk.1.2.2.2.1,hk.1.2.2.2.2⟩⟩⟩⟩)))⟩;have n5_:zN (Kd.V (Kd.int .i64) 3 w41 w.heap.size (fun k_=>((P0_0_ k_∨P0_1_ k_∨P0_2_ k_)∨w.heap.size≤k_)∧k_≠gb661∧k_≠gb662∧k_≠gb663∧k_≠gb684) (.slice Ao37 t679.length co37) t679):=⟨(by rw [hw];exact (by (with_reducible repeat (first|apply zL|apply zK|apply zM));exact zO (zS (p:=⟨gb663,2,none⟩) (zS (p:=⟨gb663,1,none⟩) (zS (p:=⟨gb663,0,none⟩) (zO HO681.out (fun k_ hk=>(⟨hk,hk.2.2.2.1⟩:_∧k_≠gb663))) (fun _ hk=>hk.2) (.slice Ao31 t673.length co31)) (fun _ hk=>hk.2) (.slice Ao36 t676.length co36)) (fun _ hk=>hk.2) (.slice Ao37 t679.length co37)) (fun _ hk=>⟨hk.1.1,⟨hk.1.2.1,⟨hk.1.2.2.1,⟨hk.1.2.2.2.1,hk.1.2.2.2.2⟩⟩⟩⟩)))⟩;have n6_:zN (w41.heap[gb661]?=some (.cells #[.slice A0_0 l0_0.length c0_0,.slice A0_1 l0_1.length c0_1,.slice A0_2 l0_2.length c0_2] 30 (0,0))):=⟨(by rw [hw];exact (by (with_reducible repeat (first|refine zB ?_ _|refine zF ?_|refine zA ?_ _));refine zY ?_ NB661_663.out _;(with_reducible repeat (first|refine zB ?_ _|refine zF ?_|refine zA ?_ _));refine zY ?_ NB661_663.out _;(with_reducible repeat (first|refine zB ?_ _|refine zF ?_|refine zA ?_ _));refine zY ?_ NB661_663.out _;(with_reducible repeat (first|refine zB ?_ _|refine zF ?_|refine zA ?_ _));exact BK661.out))⟩;have n7_:zN (w41.heap[gb662]?=some (.cells #[.int .i64 a1_0,.int .i64 a1_1,.int .i64 a1_2] 51 (0,0))):=⟨(by rw [hw];exact (by (with_reducible repeat (first|refine zB ?_ _|refine zF ?_|refine zA ?_ _));refine zY ?_ NB662_663.out _;(with_reducible repeat (first|refine zB ?_ _|refine zF ?_|refine zA ?_ _));refine zY ?_ NB662_663.out _;(with_reducible repeat (first|refine zB ?_ _|refine zF ?_|refine zA ?_ _));refine zY ?_ NB662_663.out _;(with_reducible repeat (first|refine zB ?_ _|refine zF ?_|refine zA ?_ _));exact BK662.out))⟩;have n8_:zN (w41.heap[gb663]?=some (.cells #[.slice Ao31 t673.length co31,.slice Ao36 t676.length co36,.slice Ao37 t679.length co37] 30 (0,0))):=⟨(by rw [hw];exact (by (with_reducible repeat (first|refine zB ?_ _|refine zF ?_|refine zA ?_ _));refine yE (cs:=#[.slice Ao31 t673.length co31,.slice Ao36 t676.length co36,.slice none 0 0]) ?_ 2 _ rfl;(with_reducible repeat (first|refine zB ?_ _|refine zF ?_|refine zA ?_ _));refine yE (cs:=#[.slice Ao31 t673.length co31,.slice none 0 0,.slice none 0 0]) ?_ 1 _ rfl;(with_reducible repeat (first|refine zB ?_ _|refine zF ?_|refine zA ?_ _));refine yE (cs:=#[.slice none 0 0,.slice none 0 0,.slice none 0 0]) ?_ 0 _ rfl;(with_reducible repeat (first|refine zB ?_ _|refine zF ?_|refine zA ?_ _));exact BK663.out))⟩;have n9_:zN (w41.heap[gb684]?=some (.cells #[.slice Ao31 t673.length co31,.slice Ao36 t676.length co36,.slice Ao37 t679.length co37] 30 (0,0))):=⟨(by rw [hw];exact (by (with_reducible repeat (first|refine zB ?_ _|refine zF ?_|refine zA ?_ _));refine zY ?_ NB684_663.out _;(with_reducible repeat (first|refine zB ?_ _|refine zF ?_|refine zA ?_ _));refine zY ?_ NB684_663.out _;(with_reducible repeat (first|refine zB ?_ _|refine zF ?_|refine zA ?_ _));refine zY ?_ NB684_663.out _;(with_reducible repeat (first|refine zB ?_ _|refine zF ?_|refine zA ?_ _));exact BK684.out))⟩;have n10_:zN (Below w.heap.size w w41):=⟨(by rw [hw];exact (by repeat (first|(with_reducible first|exact HB.out|apply zG|apply zD|apply zH|refine zC ?_ GE661.out|refine zC ?_ GE662.out|refine zC ?_ GE663.out|refine zC ?_ GE684.out)|exact HB.out)))⟩;clear hw;clear HO0_0;clear HO0_1;clear HO0_2;clear HO675;clear HO678;clear HO681;clear BK661;clear BK662;clear BK663;clear BK684;clear HB;have HO0_0:=n0_;have HO0_1:=n1_;have HO0_2:=n2_;have HO675:=n3_;have HO678:=n4_;have HO681:=n5_;have BK661:=n6_;have BK662:=n7_;have BK663:=n8_;have BK684:=n9_;have HB:=n10_;clear n0_ n1_ n2_ n3_ n4_ n5_ n6_ n7_ n8_ n9_ n10_))
   refine bodyPost_ret (results_cell_row rfl _ _ gb663 30 #[.slice Ao31 t673.length co31,.slice Ao36 t676.length co36,.slice Ao37 t679.length co37] (0,0) _ rfl (by (with_reducible repeat (first|refine zB ?_ _|refine zF ?_|refine zA ?_ _));exact BK663.out) Tryd.underlying30 rfl (by kernel_rfl)) rfl ?_
   exact ⟨_,_,_,by first|rfl|(simp [errW_none,errW_some] <;> rfl)|(simp [*,errW_none,errW_some] <;> rfl),by (with_reducible repeat (first|apply zL|apply zK|apply zM));exact zO HO675.out (fun _ hk=>hk.1),by (with_reducible repeat (first|apply zL|apply zK|apply zM));exact zO HO678.out (fun _ hk=>hk.1),by (with_reducible repeat (first|apply zL|apply zK|apply zM));exact zO HO681.out (fun _ hk=>hk.1),by repeat (first|(with_reducible first|exact HB.out|apply zG|apply zD|apply zH|refine zC ?_ GE661.out|refine zC ?_ GE662.out|refine zC ?_ GE663.out|refine zC ?_ GE684.out)|exact HB.out)⟩
  ·rw [if_neg c19] at H
   have c19b0:(a1_0 == 1)=false:=beq_eq_false_iff_ne.mpr c19
   have c19b1:(a1_0 != 1)=true:=bne_iff_ne.mpr c19
   by_cases c42:a1_0=2
   ·rw [if_pos c42] at H
    have c42b0:(a1_0 == 2)=true:=beq_iff_eq.mpr c42
    have c42b1:(a1_0 != 2)=false:=bne_eq_false_iff_eq.mpr c42
    clear c42
    replace H:=Option.bind_eq_some_iff.mp H
    obtain ⟨⟨t685,t688,t691,t694⟩,A430,H⟩:=H
    replace H:(some (t685,t688,t691))=some (r1,r2,r3):=H
    have A43:=Zk A430
    clear A430
    simp only [Option.some.injEq,Prod.mk.injEq] at H
    obtain ⟨rfl,rfl,rfl⟩:=H
    go_enter Tryd.func32,Tryd.ntmps32
    go_wp2_with (first|((with_reducible refine yT (N:=2) rfl ?_);refine yV ?hg (N:=2) ?hd (cs:=#[.slice A0_0 l0_0.length c0_0,.slice A0_1 l0_1.length c0_1,.slice A0_2 l0_2.length c0_2]) (t:=30) ?hr ?_;(case hd=>rfl);(case hg=>rfl);(case hr=>first|(go_simp;done)|(go_simp;rfl));intro gb661 hg w44 hbox hb;have n0_:=Zk (zV (yC (by (with_reducible repeat (first|apply zL|apply zK|apply zM));exact HO0_0.out) gb661 (Nat.le_of_eq hg.symm)) hb);have n1_:=Zk (zV (yC (by (with_reducible repeat (first|apply zL|apply zK|apply zM));exact HO0_1.out) gb661 (Nat.le_of_eq hg.symm)) hb);have n2_:=Zk (zV (yC (by (with_reducible repeat (first|apply zL|apply zK|apply zM));exact HO0_2.out) gb661 (Nat.le_of_eq hg.symm)) hb);have n3_:=Zk (yA (by repeat (first|(with_reducible first|exact HB.out|apply zG|apply zD|apply zH)|exact HB.out)) hb);have n4_:=Zk (hbox);have n5_:=Zk ((by rw [hg];exact (zP (by repeat (first|(with_reducible first|exact HB.out|apply zG|apply zD|apply zH)|exact HB.out))):w.heap.size≤gb661));have n6_:=Zk ((by rw [hg];exact (zP (by repeat (first|(with_reducible first|exact HB.out|apply zG|apply zD|apply zH)|exact HB.out))):w.heap.size≤gb661));clear HO0_0;clear HO0_1;clear HO0_2;clear HB;have HO0_0:=n0_;have HO0_1:=n1_;have HO0_2:=n2_;have HB:=n3_;have BK661:=n4_;have GW661:=n5_;have GE661:=n6_;clear n0_ n1_ n2_ n3_ n4_ n5_ n6_;clear hb hbox hg)|((with_reducible refine yT (N:=3) rfl ?_);refine yV ?hg (N:=3) ?hd (cs:=#[.int .i64 a1_0,.int .i64 a1_1,.int .i64 a1_2]) (t:=51) ?hr ?_;(case hd=>rfl);(case hg=>rfl);(case hr=>first|(go_simp;done)|(go_simp;rfl));intro gb662 hg w45 hbox hb;have n0_:=Zk (zV (yC (by (with_reducible repeat (first|apply zL|apply zK|apply zM));exact HO0_0.out) gb662 (Nat.le_of_eq hg.symm)) hb);have n1_:=Zk (zV (yC (by (with_reducible repeat (first|apply zL|apply zK|apply zM));exact HO0_1.out) gb662 (Nat.le_of_eq hg.symm)) hb);have n2_:=Zk (zV (yC (by (with_reducible repeat (first|apply zL|apply zK|apply zM));exact HO0_2.out) gb662 (Nat.le_of_eq hg.symm)) hb);have n3_:=Zk (zW (g:=gb661) (o:=.cells #[.slice A0_0 l0_0.length c0_0,.slice A0_1 l0_1.length c0_1,.slice A0_2 l0_2.length c0_2] 30 (0,0)) (by (with_reducible repeat (first|refine zB ?_ _|refine zF ?_|refine zA ?_ _));exact BK661.out) hb);have n4_:=Zk (yA (by repeat (first|(with_reducible first|exact HB.out|apply zG|apply zD|apply zH|refine zC ?_ GE661.out)|exact HB.out)) hb);have n5_:=Zk (hbox);have n6_:=Zk ((by rw [hg];exact (zP (by repeat (first|(with_reducible first|exact HB.out|apply zG|apply zD|apply zH|refine zC ?_ GE661.out)|exact HB.out))):w.heap.size≤gb662));have n7_:=Zk ((by rw [hg];exact (zP (by repeat (first|(with_reducible first|exact HB.out|apply zG|apply zD|apply zH|refine zC ?_ GE661.out)|exact HB.out))):w.heap.size≤gb662));have n8_:=Zk ((by rw [hg];exact Nat.ne_of_lt (yN (g:=gb661) (o:=.cells #[.slice A0_0 l0_0.length c0_0,.slice A0_1 l0_1.length c0_1,.slice A0_2 l0_2.length c0_2] 30 (0,0)) (by (with_reducible repeat (first|refine zB ?_ _|refine zF ?_|refine zA ?_ _));exact BK661.out)):gb661≠gb662));have n9_:=Zk ((by rw [hg];exact Nat.ne_of_gt (yN (g:=gb661) (o:=.cells #[.slice A0_0 l0_0.length c0_0,.slice A0_1 l0_1.length c0_1,.slice A0_2 l0_2.length c0_2] 30 (0,0)) (by (with_reducible repeat (first|refine zB ?_ _|refine zF ?_|refine zA ?_ _));exact BK661.out)):gb662≠gb661));clear HO0_0;clear HO0_1;clear HO0_2;clear BK661;clear HB;have HO0_0:=n0_;have HO0_1:=n1_;have HO0_2:=n2_;have BK661:=n3_;have HB:=n4_;have BK662:=n5_;have GW662:=n6_;have GE662:=n7_;have NB661_662:=n8_;have NB662_661:=n9_;clear n0_ n1_ n2_ n3_ n4_ n5_ n6_ n7_ n8_ n9_;clear hb hbox hg)|((with_reducible refine yT (N:=4) rfl ?_);refine yV ?hg (N:=4) ?hd (cs:=#[.slice none 0 0,.slice none 0 0,.slice none 0 0]) (t:=30) ?hr ?_;(case hd=>rfl);(case hg=>rfl);(case hr=>first|(go_simp;done)|(go_simp;rfl));intro gb663 hg w46 hbox hb;have n0_:=Zk (zV (yC (by (with_reducible repeat (first|apply zL|apply zK|apply zM));exact HO0_0.out) gb663 (Nat.le_of_eq hg.symm)) hb);have n1_:=Zk (zV (yC (by (with_reducible repeat (first|apply zL|apply zK|apply zM));exact HO0_1.out) gb663 (Nat.le_of_eq hg.symm)) hb);have n2_:=Zk (zV (yC (by (with_reducible repeat (first|apply zL|apply zK|apply zM));exact HO0_2.out) gb663 (Nat.le_of_eq hg.symm)) hb);have n3_:=Zk (zW (g:=gb661) (o:=.cells #[.slice A0_0 l0_0.length c0_0,.slice A0_1 l0_1.length c0_1,.slice A0_2 l0_2.length c0_2] 30 (0,0)) (by (with_reducible repeat (first|refine zB ?_ _|refine zF ?_|refine zA ?_ _));exact BK661.out) hb);have n4_:=Zk (zW (g:=gb662) (o:=.cells #[.int .i64 a1_0,.int .i64 a1_1,.int .i64 a1_2] 51 (0,0)) (by (with_reducible repeat (first|refine zB ?_ _|refine zF ?_|refine zA ?_ _));exact BK662.out) hb);have n5_:=Zk (yA (by repeat (first|(with_reducible first|exact HB.out|apply zG|apply zD|apply zH|refine zC ?_ GE661.out|refine zC ?_ GE662.out)|exact HB.out)) hb);have n6_:=Zk (hbox);have n7_:=Zk ((by rw [hg];exact (zP (by repeat (first|(with_reducible first|exact HB.out|apply zG|apply zD|apply zH|refine zC ?_ GE661.out|refine zC ?_ GE662.out)|exact HB.out))):w.heap.size≤gb663));have n8_:=Zk ((by rw [hg];exact (zP (by repeat (first|(with_reducible first|exact HB.out|apply zG|apply zD|apply zH|refine zC ?_ GE661.out|refine zC ?_ GE662.out)|exact HB.out))):w.heap.size≤gb663));have n9_:=Zk ((by rw [hg];exact Nat.ne_of_lt (yN (g:=gb661) (o:=.cells #[.slice A0_0 l0_0.length c0_0,.slice A0_1 l0_1.length c0_1,.slice A0_2 l0_2.length c0_2] 30 (0,0)) (by (with_reducible repeat (first|refine zB ?_ _|refine zF ?_|refine zA ?_ _));exact BK661.out)):gb661≠gb663));have n10_:=Zk ((by rw [hg];exact Nat.ne_of_gt (yN (g:=gb661) (o:=.cells #[.slice A0_0 l0_0.length c0_0,.slice A0_1 l0_1.length c0_1,.slice A0_2 l0_2.length c0_2] 30 (0,0)) (by (with_reducible repeat (first|refine zB ?_ _|refine zF ?_|refine zA ?_ _));exact BK661.out)):gb663≠gb661));have n11_:=Zk ((by rw [hg];exact Nat.ne_of_lt (yN (g:=gb662) (o:=.cells #[.int .i64 a1_0,.int .i64 a1_1,.int .i64 a1_2] 51 (0,0)) (by (with_reducible repeat (first|refine zB ?_ _|refine zF ?_|refine zA ?_ _));exact BK662.out)):gb662≠gb663));have n12_:=Zk ((by rw [hg];exact Nat.ne_of_gt (yN (g:=gb662) (o:=.cells #[.int .i64 a1_0,.int .i64 a1_1,.int .i64 a1_2] 51 (0,0)) (by (with_reducible repeat (first|refine zB ?_ _|refine zF ?_|refine zA ?_ _));exact BK662.out)):gb663≠gb662));clear HO0_0;clear HO0_1;clear HO0_2;clear BK661;clear BK662;clear HB;have HO0_0:=n0_;have HO0_1:=n1_;have HO0_2:=n2_;have BK661:=n3_;have BK662:=n4_;have HB:=n5_;have BK663:=n6_;have GW663:=n7_;have GE663:=n8_;have NB661_663:=n9_;have NB663_661:=n10_;have NB662_663:=n11_;have NB663_662:=n12_;clear n0_ n1_ n2_ n3_ n4_ n5_ n6_ n7_ n8_ n9_ n10_ n11_ n12_;clear hb hbox hg;have hnb47:=NB662_661.out;have hnc47:=NB661_662.out;have hnb48:=NB662_663.out;have hnc48:=NB663_662.out;have hcz49_0:w46.cell? ⟨gb662,0,none⟩=some (.int .i64 a1_0):=(zJ BK662.out 0).trans rfl;have hcz49_1:w46.cell? ⟨gb662,1,none⟩=some (.int .i64 a1_1):=(zJ BK662.out 1).trans rfl;have hcz49_2:w46.cell? ⟨gb662,2,none⟩=some (.int .i64 a1_2):=(zJ BK662.out 2).trans rfl;have hfz49_0:=zI BK662.out 0;have hfz49_1:=zI BK662.out 1;have hfz49_2:=zI BK662.out 2;have hnb50:=NB661_663.out;have hnc50:=NB663_661.out;have hcz51_0:w46.cell? ⟨gb661,0,none⟩=some (.slice A0_0 l0_0.length c0_0):=(zJ BK661.out 0).trans rfl;have hcz51_1:w46.cell? ⟨gb661,1,none⟩=some (.slice A0_1 l0_1.length c0_1):=(zJ BK661.out 1).trans rfl;have hcz51_2:w46.cell? ⟨gb661,2,none⟩=some (.slice A0_2 l0_2.length c0_2):=(zJ BK661.out 2).trans rfl;have hfz51_0:=zI BK661.out 0;have hfz51_1:=zI BK661.out 1;have hfz51_2:=zI BK661.out 2)|((with_reducible refine yD (f:=25) rfl ?_);refine yM (some 35) rfl rfl Tryd.func25 (by kernel_rfl) rfl #[.agg #[.slice A0_0 l0_0.length c0_0,.slice A0_1 l0_1.length c0_1,.slice A0_2 l0_2.length c0_2],.int .i64 a1_1,.int .i64 a1_2] rfl (by (try simp only [List.map_toArray,List.map_cons,List.map_nil]);first|done|rfl|(simp only [List.length_drop,List.length_take];rfl)) ?_;(with_reducible refine (signal_Set.calls k (fun k_=>(((((P0_0_ k_∨P0_1_ k_∨P0_2_ k_)∨w.heap.size≤k_)∧k_≠gb661)∧k_≠gb662)∧k_≠gb663)) _ _ l0_0 (fun k_=>(((((P0_0_ k_∨P0_1_ k_∨P0_2_ k_)∨w.heap.size≤k_)∧k_≠gb661)∧k_≠gb662)∧k_≠gb663)) _ _ l0_1 (fun k_=>(((((P0_0_ k_∨P0_1_ k_∨P0_2_ k_)∨w.heap.size≤k_)∧k_≠gb661)∧k_≠gb662)∧k_≠gb663)) _ _ l0_2 a1_1 a1_2 t685 t688 t691 t694 _ ?side1 ?side2 ?side3 A43.out).mono ?_);(case side1=>exact HO0_0.out);(case side2=>exact HO0_1.out);(case side3=>exact HO0_2.out);rintro e w52 ⟨v686,v689,v692,rfl,ho0,ho1,ho2,hb⟩;refine ⟨_,rfl,?_⟩;have n0_:=Zk (zV (by (with_reducible repeat (first|apply zL|apply zK|apply zM));exact HO0_0.out) hb);have n1_:=Zk (zV (by (with_reducible repeat (first|apply zL|apply zK|apply zM));exact HO0_1.out) hb);have n2_:=Zk (zV (by (with_reducible repeat (first|apply zL|apply zK|apply zM));exact HO0_2.out) hb);have n3_:=Zk (V_lower (zO (ok':=fun k_=>((P0_0_ k_∨P0_1_ k_∨P0_2_ k_)∨w.heap.size≤k_)∧k_≠gb661∧k_≠gb662∧k_≠gb663) ho0 (fun k_ hk_=>⟨Or.elim hk_ (fun hs_=>Or.elim hs_ (fun hs_=>hs_.1.1.1) (fun hs_=>Or.elim hs_ (fun hs_=>hs_.1.1.1) (fun hs_=>hs_.1.1.1))) (fun hn_=>(.inr (Nat.le_trans (zP (by repeat (first|(with_reducible first|exact HB.out|apply zG|apply zD|apply zH|refine zC ?_ GE661.out|refine zC ?_ GE662.out|refine zC ?_ GE663.out)|exact HB.out))) hn_))),Or.elim hk_ (fun hs_=>Or.elim hs_ (fun hs_=>hs_.1.1.2) (fun hs_=>Or.elim hs_ (fun hs_=>hs_.1.1.2) (fun hs_=>hs_.1.1.2))) (fun hn_=>(Kd.freshB (g:=gb661) (o:=.cells #[.slice A0_0 l0_0.length c0_0,.slice A0_1 l0_1.length c0_1,.slice A0_2 l0_2.length c0_2] 30 (0,0)) (by (with_reducible repeat (first|refine zB ?_ _|refine zF ?_|refine zA ?_ _));exact BK661.out) k_ hn_)),Or.elim hk_ (fun hs_=>Or.elim hs_ (fun hs_=>hs_.1.2) (fun hs_=>Or.elim hs_ (fun hs_=>hs_.1.2) (fun hs_=>hs_.1.2))) (fun hn_=>(Kd.freshB (g:=gb662) (o:=.cells #[.int .i64 a1_0,.int .i64 a1_1,.int .i64 a1_2] 51 (0,0)) (by (with_reducible repeat (first|refine zB ?_ _|refine zF ?_|refine zA ?_ _));exact BK662.out) k_ hn_)),Or.elim hk_ (fun hs_=>Or.elim hs_ (fun hs_=>hs_.2) (fun hs_=>Or.elim hs_ (fun hs_=>hs_.2) (fun hs_=>hs_.2))) (fun hn_=>(Kd.freshB (g:=gb663) (o:=.cells #[.slice none 0 0,.slice none 0 0,.slice none 0 0] 30 (0,0)) (by (with_reducible repeat (first|refine zB ?_ _|refine zF ?_|refine zA ?_ _));exact BK663.out) k_ hn_))⟩)) (zP (by repeat (first|(with_reducible first|exact HB.out|apply zG|apply zD|apply zH|refine zC ?_ GE661.out|refine zC ?_ GE662.out|refine zC ?_ GE663.out)|exact HB.out))));have n4_:=Zk (V_lower (zO (ok':=fun k_=>((P0_0_ k_∨P0_1_ k_∨P0_2_ k_)∨w.heap.size≤k_)∧k_≠gb661∧k_≠gb662∧k_≠gb663) ho1 (fun k_ hk_=>⟨Or.elim hk_ (fun hs_=>Or.elim hs_ (fun hs_=>hs_.1.1.1) (fun hs_=>Or.elim hs_ (fun hs_=>hs_.1.1.1) (fun hs_=>hs_.1.1.1))) (fun hn_=>(.inr (Nat.le_trans (zP (by repeat (first|(with_reducible first|exact HB.out|apply zG|apply zD|apply zH|refine zC ?_ GE661.out|refine zC ?_ GE662.out|refine zC ?_ GE663.out)|exact HB.out))) hn_))),Or.elim hk_ (fun hs_=>Or.elim hs_ (fun hs_=>hs_.1.1.2) (fun hs_=>Or.elim hs_ (fun hs_=>hs_.1.1.2) (fun hs_=>hs_.1.1.2))) (fun hn_=>(Kd.freshB (g:=gb661) (o:=.cells #[.slice A0_0 l0_0.length c0_0,.slice A0_1 l0_1.length c0_1,.slice A0_2 l0_2.length c0_2] 30 (0,0)) (by (with_reducible repeat (first|refine zB ?_ _|refine zF ?_|refine zA ?_ _));exact BK661.out) k_ hn_)),Or.elim hk_ (fun hs_=>Or.elim hs_ (fun hs_=>hs_.1.2) (fun hs_=>Or.elim hs_ (fun hs_=>hs_.1.2) (fun hs_=>hs_.1.2))) (fun hn_=>(Kd.freshB (g:=gb662) (o:=.cells #[.int .i64 a1_0,.int .i64 a1_1,.int .i64 a1_2] 51 (0,0)) (by (with_reducible repeat (first|refine zB ?_ _|refine zF ?_|refine zA ?_ _));exact BK662.out) k_ hn_)),Or.elim hk_ (fun hs_=>Or.elim hs_ (fun hs_=>hs_.2) (fun hs_=>Or.elim hs_ (fun hs_=>hs_.2) (fun hs_=>hs_.2))) (fun hn_=>(Kd.freshB (g:=gb663) (o:=.cells #[.slice none 0 0,.slice none 0 0,.slice none 0 0] 30 (0,0)) (by (with_reducible repeat (first|refine zB ?_ _|refine zF ?_|refine zA ?_ _));exact BK663.out) k_ hn_))⟩)) (zP (by repeat (first|(with_reducible first|exact HB.out|apply zG|apply zD|apply zH|refine zC ?_ GE661.out|refine zC ?_ GE662.out|refine zC ?_ GE663.out)|exact HB.out))));have n5_:=Zk (V_lower (zO (ok':=fun k_=>((P0_0_ k_∨P0_1_ k_∨P0_2_ k_)∨w.heap.size≤k_)∧k_≠gb661∧k_≠gb662∧k_≠gb663) ho2 (fun k_ hk_=>⟨Or.elim hk_ (fun hs_=>Or.elim hs_ (fun hs_=>hs_.1.1.1) (fun hs_=>Or.elim hs_ (fun hs_=>hs_.1.1.1) (fun hs_=>hs_.1.1.1))) (fun hn_=>(.inr (Nat.le_trans (zP (by repeat (first|(with_reducible first|exact HB.out|apply zG|apply zD|apply zH|refine zC ?_ GE661.out|refine zC ?_ GE662.out|refine zC ?_ GE663.out)|exact HB.out))) hn_))),Or.elim hk_ (fun hs_=>Or.elim hs_ (fun hs_=>hs_.1.1.2) (fun hs_=>Or.elim hs_ (fun hs_=>hs_.1.1.2) (fun hs_=>hs_.1.1.2))) (fun hn_=>(Kd.freshB (g:=gb661) (o:=.cells #[.slice A0_0 l0_0.length c0_0,.slice A0_1 l0_1.length c0_1,.slice A0_2 l0_2.length c0_2] 30 (0,0)) (by (with_reducible repeat (first|refine zB ?_ _|refine zF ?_|refine zA ?_ _));exact BK661.out) k_ hn_)),Or.elim hk_ (fun hs_=>Or.elim hs_ (fun hs_=>hs_.1.2) (fun hs_=>Or.elim hs_ (fun hs_=>hs_.1.2) (fun hs_=>hs_.1.2))) (fun hn_=>(Kd.freshB (g:=gb662) (o:=.cells #[.int .i64 a1_0,.int .i64 a1_1,.int .i64 a1_2] 51 (0,0)) (by (with_reducible repeat (first|refine zB ?_ _|refine zF ?_|refine zA ?_ _));exact BK662.out) k_ hn_)),Or.elim hk_ (fun hs_=>Or.elim hs_ (fun hs_=>hs_.2) (fun hs_=>Or.elim hs_ (fun hs_=>hs_.2) (fun hs_=>hs_.2))) (fun hn_=>(Kd.freshB (g:=gb663) (o:=.cells #[.slice none 0 0,.slice none 0 0,.slice none 0 0] 30 (0,0)) (by (with_reducible repeat (first|refine zB ?_ _|refine zF ?_|refine zA ?_ _));exact BK663.out) k_ hn_))⟩)) (zP (by repeat (first|(with_reducible first|exact HB.out|apply zG|apply zD|apply zH|refine zC ?_ GE661.out|refine zC ?_ GE662.out|refine zC ?_ GE663.out)|exact HB.out))));have n6_:=Zk (zW (g:=gb661) (o:=.cells #[.slice A0_0 l0_0.length c0_0,.slice A0_1 l0_1.length c0_1,.slice A0_2 l0_2.length c0_2] 30 (0,0)) (by (with_reducible repeat (first|refine zB ?_ _|refine zF ?_|refine zA ?_ _));exact BK661.out) hb);have n7_:=Zk (zW (g:=gb662) (o:=.cells #[.int .i64 a1_0,.int .i64 a1_1,.int .i64 a1_2] 51 (0,0)) (by (with_reducible repeat (first|refine zB ?_ _|refine zF ?_|refine zA ?_ _));exact BK662.out) hb);have n8_:=Zk (zW (g:=gb663) (o:=.cells #[.slice none 0 0,.slice none 0 0,.slice none 0 0] 30 (0,0)) (by (with_reducible repeat (first|refine zB ?_ _|refine zF ?_|refine zA ?_ _));exact BK663.out) hb);have n9_:=Zk (yA (by repeat (first|(with_reducible first|exact HB.out|apply zG|apply zD|apply zH|refine zC ?_ GE661.out|refine zC ?_ GE662.out|refine zC ?_ GE663.out)|exact HB.out)) hb);clear HO0_0;clear HO0_1;clear HO0_2;clear BK661;clear BK662;clear BK663;clear HB;have HO0_0:=n0_;have HO0_1:=n1_;have HO0_2:=n2_;have HO687:=n3_;have HO690:=n4_;have HO693:=n5_;have BK661:=n6_;have BK662:=n7_;have BK663:=n8_;have HB:=n9_;clear n0_ n1_ n2_ n3_ n4_ n5_ n6_ n7_ n8_ n9_;(try clear hb);(try clear hb2);(try clear hk);(try clear hi);(try clear ho0);(try clear ho1);(try clear ho2))|((with_reducible refine yT (N:=8) rfl ?_);refine yV ?hg (N:=8) ?hd (cs:=#[.slice none 0 0,.slice none 0 0,.slice none 0 0]) (t:=30) ?hr ?_;(case hd=>rfl);(case hg=>rfl);(case hr=>first|(go_simp;done)|(go_simp;rfl));intro gb695 hg w53 hbox hb;have n0_:=Zk (zV (yC (by (with_reducible repeat (first|apply zL|apply zK|apply zM));exact HO0_0.out) gb695 (Nat.le_of_eq hg.symm)) hb);have n1_:=Zk (zV (yC (by (with_reducible repeat (first|apply zL|apply zK|apply zM));exact HO0_1.out) gb695 (Nat.le_of_eq hg.symm)) hb);have n2_:=Zk (zV (yC (by (with_reducible repeat (first|apply zL|apply zK|apply zM));exact HO0_2.out) gb695 (Nat.le_of_eq hg.symm)) hb);have n3_:=Zk (zV (yC (by (with_reducible repeat (first|apply zL|apply zK|apply zM));exact HO687.out) gb695 (Nat.le_of_eq hg.symm)) hb);have n4_:=Zk (zV (yC (by (with_reducible repeat (first|apply zL|apply zK|apply zM));exact HO690.out) gb695 (Nat.le_of_eq hg.symm)) hb);have n5_:=Zk (zV (yC (by (with_reducible repeat (first|apply zL|apply zK|apply zM));exact HO693.out) gb695 (Nat.le_of_eq hg.symm)) hb);have n6_:=Zk (zW (g:=gb661) (o:=.cells #[.slice A0_0 l0_0.length c0_0,.slice A0_1 l0_1.length c0_1,.slice A0_2 l0_2.length c0_2] 30 (0,0)) (by (with_reducible repeat (first|refine zB ?_ _|refine zF ?_|refine zA ?_ _));exact BK661.out) hb);have n7_:=Zk (zW (g:=gb662) (o:=.cells #[.int .i64 a1_0,.int .i64 a1_1,.int .i64 a1_2] 51 (0,0)) (by (with_reducible repeat (first|refine zB ?_ _|refine zF ?_|refine zA ?_ _));exact BK662.out) hb);have n8_:=Zk (zW (g:=gb663) (o:=.cells #[.slice none 0 0,.slice none 0 0,.slice none 0 0] 30 (0,0)) (by (with_reducible repeat (first|refine zB ?_ _|refine zF ?_|refine zA ?_ _));exact BK663.out) hb);have n9_:=Zk (yA (by repeat (first|(with_reducible first|exact HB.out|apply zG|apply zD|apply zH|refine zC ?_ GE661.out|refine zC ?_ GE662.out|refine zC ?_ GE663.out)|exact HB.out)) hb);have n10_:=Zk (hbox);have n11_:=Zk ((by rw [hg];exact (zP (by repeat (first|(with_reducible first|exact HB.out|apply zG|apply zD|apply zH|refine zC ?_ GE661.out|refine zC ?_ GE662.out|refine zC ?_ GE663.out)|exact HB.out))):w.heap.size≤gb695));have n12_:=Zk ((by rw [hg];exact (zP (by repeat (first|(with_reducible first|exact HB.out|apply zG|apply zD|apply zH|refine zC ?_ GE661.out|refine zC ?_ GE662.out|refine zC ?_ GE663.out)|exact HB.out))):w.heap.size≤gb695));have n13_:=Zk ((by rw [hg];exact Nat.ne_of_lt (yN (g:=gb661) (o:=.cells #[.slice A0_0 l0_0.length c0_0,.slice A0_1 l0_1.length c0_1,.slice A0_2 l0_2.length c0_2] 30 (0,0)) (by (with_reducible repeat (first|refine zB ?_ _|refine zF ?_|refine zA ?_ _));exact BK661.out)):gb661≠gb695));have n14_:=Zk ((by rw [hg];exact Nat.ne_of_gt (yN (g:=gb661) (o:=.cells #[.slice A0_0 l0_0.length c0_0,.slice A0_1 l0_1.length c0_1,.slice A0_2 l0_2.length c0_2] 30 (0,0)) (by (with_reducible repeat (first|refine zB ?_ _|refine zF ?_|refine zA ?_ _));exact BK661.out)):gb695≠gb661));have n15_:=Zk ((by rw [hg];exact Nat.ne_of_lt (yN (g:=gb662) (o:=.cells #[.int .i64 a1_0,.int .i64 a1_1,.int .i64 a1_2] 51 (0,0)) (by (with_reducible repeat (first|refine zB ?_ _|refine zF ?_|refine zA ?_ _));exact BK662.out)):gb662≠gb695));have n16_:=Zk ((by rw [hg];exact Nat.ne_of_gt (yN (g:=gb662) (o:=.cells #[.int .i64 a1_0,.int .i64 a1_1,.int .i64 a1_2] 51 (0,0)) (by (with_reducible repeat (first|refine zB ?_ _|refine zF ?_|refine zA ?_ _));exact BK662.out)):gb695≠gb662));have n17_:=Zk ((by rw [hg];exact Nat.ne_of_lt (yN (g:=gb663) (o:=.cells #[.slice none 0 0,.slice none 0 0,.slice none 0 0] 30 (0,0)) (by (with_reducible repeat (first|refine zB ?_ _|refine zF ?_|refine zA ?_ _));exact BK663.out)):gb663≠gb695));have n18_:=Zk ((by rw [hg];exact Nat.ne_of_gt (yN (g:=gb663) (o:=.cells #[.slice none 0 0,.slice none 0 0,.slice none 0 0] 30 (0,0)) (by (with_reducible repeat (first|refine zB ?_ _|refine zF ?_|refine zA ?_ _));exact BK663.out)):gb695≠gb663));clear HO0_0;clear HO0_1;clear HO0_2;clear HO687;clear HO690;clear HO693;clear BK661;clear BK662;clear BK663;clear HB;have HO0_0:=n0_;have HO0_1:=n1_;have HO0_2:=n2_;have HO687:=n3_;have HO690:=n4_;have HO693:=n5_;have BK661:=n6_;have BK662:=n7_;have BK663:=n8_;have HB:=n9_;have BK695:=n10_;have GW695:=n11_;have GE695:=n12_;have NB661_695:=n13_;have NB695_661:=n14_;have NB662_695:=n15_;have NB695_662:=n16_;have NB663_695:=n17_;have NB695_663:=n18_;clear n0_ n1_ n2_ n3_ n4_ n5_ n6_ n7_ n8_ n9_ n10_ n11_ n12_ n13_ n14_ n15_ n16_ n17_ n18_;clear hb hbox hg;obtain ⟨Ao54,co54,eo54⟩:=V_slice HO687.out;subst eo54;have hnb55:=NB695_661.out;have hnc55:=NB661_695.out;have hnb56:=NB695_662.out;have hnc56:=NB662_695.out;have hnb57:=NB695_663.out;have hnc57:=NB663_695.out;have hcz58_0:w53.cell? ⟨gb695,0,none⟩=some (.slice none 0 0):=(zJ BK695.out 0).trans rfl;have hcz58_1:w53.cell? ⟨gb695,1,none⟩=some (.slice none 0 0):=(zJ BK695.out 1).trans rfl;have hcz58_2:w53.cell? ⟨gb695,2,none⟩=some (.slice none 0 0):=(zJ BK695.out 2).trans rfl;have hfz58_0:=zI BK695.out 0;have hfz58_1:=zI BK695.out 1;have hfz58_2:=zI BK695.out 2;obtain ⟨Ao59,co59,eo59⟩:=V_slice HO690.out;subst eo59;obtain ⟨Ao60,co60,eo60⟩:=V_slice HO693.out;subst eo60)|((with_reducible refine xA (t:=30) (p:=8) rfl ?_);refine yY (t:=30) (p:=8) (v:=?vo_w61) (w1:=(((w53.setCell ⟨gb695,0,none⟩ (.slice Ao54 t685.length co54)).setCell ⟨gb695,1,none⟩ (.slice Ao59 t688.length co59)).setCell ⟨gb695,2,none⟩ (.slice Ao60 t691.length co60))) ?hg ?ho ?hn ?hr ?_;(case ho=>rfl);(case hg=>rfl);(case hn=>rfl);(case hr=>first|(go_simp;done)|(go_simp;rfl));intro w61 hw;have n0_:zN (Kd.V (Kd.int .i64) 3 w61 w.heap.size (fun k_=>((P0_0_ k_∨P0_1_ k_∨P0_2_ k_)∨w.heap.size≤k_)∧k_≠gb661∧k_≠gb662∧k_≠gb663∧k_≠gb695) (.slice A0_0 l0_0.length c0_0) l0_0):=⟨(by rw [hw];exact (by (with_reducible repeat (first|apply zL|apply zK|apply zM));exact zO (zS (p:=⟨gb695,2,none⟩) (zS (p:=⟨gb695,1,none⟩) (zS (p:=⟨gb695,0,none⟩) (zO HO0_0.out (fun k_ hk=>(⟨hk,hk.2⟩:_∧k_≠gb695))) (fun _ hk=>hk.2) (.slice Ao54 t685.length co54)) (fun _ hk=>hk.2) (.slice Ao59 t688.length co59)) (fun _ hk=>hk.2) (.slice Ao60 t691.length co60)) (fun _ hk=>⟨hk.1.1.1.1.1,⟨hk.1.1.1.1.2,⟨hk.1.1.1.2,⟨hk.1.1.2,hk.1.2⟩⟩⟩⟩)))⟩;have n1_:zN (Kd.V (Kd.int .i64) 3 w61 w.heap.size (fun k_=>((P0_0_ k_∨P0_1_ k_∨P0_2_ k_)∨w.heap.size≤k_)∧k_≠gb661∧k_≠gb662∧k_≠gb663∧k_≠gb695) (.slice A0_1 l0_1.length c0_1) l0_1):=⟨(by rw [hw];exact (by (with_reducible repeat (first|apply zL|apply zK|apply zM));exact zO (zS (p:=⟨gb695,2,none⟩) (zS (p:=⟨gb695,1,none⟩) (zS (p:=⟨gb695,0,none⟩) (zO HO0_1.out (fun k_ hk=>(⟨hk,hk.2⟩:_∧k_≠gb695))) (fun _ hk=>hk.2) (.slice Ao54 t685.length co54)) (fun _ hk=>hk.2) (.slice Ao59 t688.length co59)) (fun _ hk=>hk.2) (.slice Ao60 t691.length co60)) (fun _ hk=>⟨hk.1.1.1.1.1,⟨hk.1.1.1.1.2,⟨hk.1.1.1.2,⟨hk.1.1.2,hk.1.2⟩⟩⟩⟩)))⟩;have n2_:zN (Kd.V (Kd.int .i64) 3 w61 w.heap.size (fun k_=>((P0_0_ k_∨P0_1_ k_∨P0_2_ k_)∨w.heap.size≤k_)∧k_≠gb661∧k_≠gb662∧k_≠gb663∧k_≠gb695) (.slice A0_2 l0_2.length c0_2) l0_2):=⟨(by rw [hw];exact (by (with_reducible repeat (first|apply zL|apply zK|apply zM));exact zO (zS (p:=⟨gb695,2,none⟩) (zS (p:=⟨gb695,1,none⟩) (zS (p:=⟨gb695,0,none⟩) (zO HO0_2.out (fun k_ hk=>(⟨hk,hk.2⟩:_∧k_≠gb695))) (fun _ hk=>hk.2) (.slice Ao54 t685.length co54)) (fun _ hk=>hk.2) (.slice Ao59 t688.length co59)) (fun _ hk=>hk.2) (.slice Ao60 t691.length co60)) (fun _ hk=>⟨hk.1.1.1.1.1,⟨hk.1.1.1.1.2,⟨hk.1.1.1.2,⟨hk.1.1.2,hk.1.2⟩⟩⟩⟩)))⟩;have n3_:zN (Kd.V (Kd.int .i64) 3 w61 w.heap.size (fun k_=>((P0_0_ k_∨P0_1_ k_∨P0_2_ k_)∨w.heap.size≤k_)∧k_≠gb661∧k_≠gb662∧k_≠gb663∧k_≠gb695) (.slice Ao54 t685.length co54) t685):=⟨(by rw [hw];exact (by (with_reducible repeat (first|apply zL|apply zK|apply zM));exact zO (zS (p:=⟨gb695,2,none⟩) (zS (p:=⟨gb695,1,none⟩) (zS (p:=⟨gb695,0,none⟩) (zO HO687.out (fun k_ hk=>(⟨hk,hk.2⟩:_∧k_≠gb695))) (fun _ hk=>hk.2) (.slice Ao54 t685.length co54)) (fun _ hk=>hk.2) (.slice Ao59 t688.length co59)) (fun _ hk=>hk.2) (.slice Ao60 t691.length co60)) (fun _ hk=>⟨hk.1.1.1,⟨hk.1.1.2.1,⟨hk.1.1.2.2.1,⟨hk.1.1.2.2.2,hk.1.2⟩⟩⟩⟩)))⟩;have n4_:zN (Kd.V (Kd.int .i64) 3 w61 w.heap.size (fun k_=>((P0_0_ k_∨P0_1_ k_∨P0_2_ k_)∨w.heap.size≤k_)∧k_≠gb661∧k_≠gb662∧k_≠gb663∧k_≠gb695) (.slice Ao59 t688.length co59) t688):=⟨(by rw [hw];exact (by (with_reducible repeat (first|apply zL|apply zK|apply zM));exact zO (zS (p:=⟨gb695,2,none⟩) (zS (p:=⟨gb695,1,none⟩) (zS (p:=⟨gb695,0,none⟩) (zO HO690.out (fun k_ hk=>(⟨hk,hk.2⟩:_∧k_≠gb695))) (fun _ hk=>hk.2) (.slice Ao54 t685.length co54)) (fun _ hk=>hk.2) (.slice Ao59 t688.length co59)) (fun _ hk=>hk.2) (.slice Ao60 t691.length co60)) (fun _ hk=>⟨hk.1.1.1,⟨hk.1.1.2.1,⟨hk.1.1.2.2.1,⟨hk.1.1.2.2.2,hk.1.2⟩⟩⟩⟩)))⟩;have n5_:zN (Kd.V (Kd.int .i64) 3 w61 w.heap.size (fun k_=>((P0_0_ k_∨P0_1_ k_∨P0_2_ k_)∨w.heap.size≤k_)∧k_≠gb661∧k_≠gb662∧k_≠gb663∧k_≠gb695) (.slice Ao60 t691.length co60) t691):=⟨(by rw [hw];exact (by (with_reducible repeat (first|apply zL|apply zK|apply zM));exact zO (zS (p:=⟨gb695,2,none⟩) (zS (p:=⟨gb695,1,none⟩) (zS (p:=⟨gb695,0,none⟩) (zO HO693.out (fun k_ hk=>(⟨hk,hk.2⟩:_∧k_≠gb695))) (fun _ hk=>hk.2) (.slice Ao54 t685.length co54)) (fun _ hk=>hk.2) (.slice Ao59 t688.length co59)) (fun _ hk=>hk.2) (.slice Ao60 t691.length co60)) (fun _ hk=>⟨hk.1.1.1,⟨hk.1.1.2.1,⟨hk.1.1.2.2.1,⟨hk.1.1.2.2.2,hk.1.2⟩⟩⟩⟩)))⟩;have n6_:zN (w61.heap[gb661]?=some (.cells #[.slice A0_0 l0_0.length c0_0,.slice A0_1 l0_1.length c0_1,.slice A0_2 l0_2.length c0_2] 30 (0,0))):=⟨(by rw [hw];exact (by (with_reducible repeat (first|refine zB ?_ _|refine zF ?_|refine zA ?_ _));refine zY ?_ NB661_695.out _;(with_reducible repeat (first|refine zB ?_ _|refine zF ?_|refine zA ?_ _));refine zY ?_ NB661_695.out _;(with_reducible repeat (first|refine zB ?_ _|refine zF ?_|refine zA ?_ _));refine zY ?_ NB661_695.out _;(with_reducible repeat (first|refine zB ?_ _|refine zF ?_|refine zA ?_ _));exact BK661.out))⟩;have n7_:zN (w61.heap[gb662]?=some (.cells #[.int .i64 a1_0,.int .i64 a1_1,.int .i64 a1_2] 51 (0,0))):=⟨(by rw [hw];exact (by (with_reducible repeat (first|refine zB ?_ _|refine zF ?_|refine zA ?_ _));refine zY ?_ NB662_695.out _;(with_reducible repeat (first|refine zB ?_ _|refine zF ?_|refine zA ?_ _));refine zY ?_ NB662_695.out _;(with_reducible repeat (first|refine zB ?_ _|refine zF ?_|refine zA ?_ _));refine zY ?_ NB662_695.out _;(with_reducible repeat (first|refine zB ?_ _|refine zF ?_|refine zA ?_ _));exact BK662.out))⟩;have n8_:zN (w61.heap[gb663]?=some (.cells #[.slice none 0 0,.slice none 0 0,.slice none 0 0] 30 (0,0))):=⟨(by rw [hw];exact (by (with_reducible repeat (first|refine zB ?_ _|refine zF ?_|refine zA ?_ _));refine zY ?_ NB663_695.out _;(with_reducible repeat (first|refine zB ?_ _|refine zF ?_|refine zA ?_ _));refine zY ?_ NB663_695.out _;(with_reducible repeat (first|refine zB ?_ _|refine zF ?_|refine zA ?_ _));refine zY ?_ NB663_695.out _;(with_reducible repeat (first|refine zB ?_ _|refine zF ?_|refine zA ?_ _));exact BK663.out))⟩;have n9_:zN (w61.heap[gb695]?=some (.cells #[.slice Ao54 t685.length co54,.slice Ao59 t688.length co59,.slice Ao60 t691.length co60] 30 (0,0))):=⟨(by rw [hw];exact (by (with_reducible repeat (first|refine zB ?_ _|refine zF ?_|refine zA ?_ _));refine yE (cs:=#[.slice Ao54 t685.length co54,.slice Ao59 t688.length co59,.slice none 0 0]) ?_ 2 _ rfl;(with_reducible repeat (first|refine zB ?_ _|refine zF ?_|refine zA ?_ _));refine yE (cs:=#[.slice Ao54 t685.length co54,.slice none 0 0,.slice none 0 0]) ?_ 1 _ rfl;(with_reducible repeat (first|refine zB ?_ _|refine zF ?_|refine zA ?_ _));refine yE (cs:=#[.slice none 0 0,.slice none 0 0,.slice none 0 0]) ?_ 0 _ rfl;(with_reducible repeat (first|refine zB ?_ _|refine zF ?_|refine zA ?_ _));exact BK695.out))⟩;have n10_:zN (Below w.heap.size w w61):=⟨(by rw [hw];exact (by repeat (first|(with_reducible first|exact HB.out|apply zG|apply zD|apply zH|refine zC ?_ GE661.out|refine zC ?_ GE662.out|refine zC ?_ GE663.out|refine zC ?_ GE695.out)|exact HB.out)))⟩;clear hw;clear HO0_0;clear HO0_1;clear HO0_2;clear HO687;clear HO690;clear HO693;clear BK661;clear BK662;clear BK663;clear BK695;clear HB;have HO0_0:=n0_;have HO0_1:=n1_;have HO0_2:=n2_;have HO687:=n3_;have HO690:=n4_;have HO693:=n5_;have BK661:=n6_;have BK662:=n7_;have BK663:=n8_;have BK695:=n9_;have HB:=n10_;clear n0_ n1_ n2_ n3_ n4_ n5_ n6_ n7_ n8_ n9_ n10_;have hcz62_0:w61.cell? ⟨gb695,0,none⟩=some (.slice Ao54 t685.length co54):=(zJ BK695.out 0).trans rfl;have hcz62_1:w61.cell? ⟨gb695,1,none⟩=some (.slice Ao59 t688.length co59):=(zJ BK695.out 1).trans rfl;have hcz62_2:w61.cell? ⟨gb695,2,none⟩=some (.slice Ao60 t691.length co60):=(zJ BK695.out 2).trans rfl;have hfz62_0:=zI BK695.out 0;have hfz62_1:=zI BK695.out 1;have hfz62_2:=zI BK695.out 2;have hcz63_0:w61.cell? ⟨gb663,0,none⟩=some (.slice none 0 0):=(zJ BK663.out 0).trans rfl;have hcz63_1:w61.cell? ⟨gb663,1,none⟩=some (.slice none 0 0):=(zJ BK663.out 1).trans rfl;have hcz63_2:w61.cell? ⟨gb663,2,none⟩=some (.slice none 0 0):=(zJ BK663.out 2).trans rfl;have hfz63_0:=zI BK663.out 0;have hfz63_1:=zI BK663.out 1;have hfz63_2:=zI BK663.out 2)|((with_reducible refine xA (t:=30) (p:=4) rfl ?_);refine yY (t:=30) (p:=4) (v:=?vo_w64) (w1:=(((w61.setCell ⟨gb663,0,none⟩ (.slice Ao54 t685.length co54)).setCell ⟨gb663,1,none⟩ (.slice Ao59 t688.length co59)).setCell ⟨gb663,2,none⟩ (.slice Ao60 t691.length co60))) ?hg ?ho ?hn ?hr ?_;(case ho=>rfl);(case hg=>rfl);(case hn=>rfl);(case hr=>first|(go_simp;done)|(go_simp;rfl));intro w64 hw;have n0_:zN (Kd.V (Kd.int .i64) 3 w64 w.heap.size (fun k_=>((P0_0_ k_∨P0_1_ k_∨P0_2_ k_)∨w.heap.size≤k_)∧k_≠gb661∧k_≠gb662∧k_≠gb663∧k_≠gb695) (.slice A0_0 l0_0.length c0_0) l0_0):=⟨(by rw [hw];exact (by (with_reducible repeat (first|apply zL|apply zK|apply zM));exact zO (zS (p:=⟨gb663,2,none⟩) (zS (p:=⟨gb663,1,none⟩) (zS (p:=⟨gb663,0,none⟩) (zO HO0_0.out (fun k_ hk=>(⟨hk,hk.2.2.2.1⟩:_∧k_≠gb663))) (fun _ hk=>hk.2) (.slice Ao54 t685.length co54)) (fun _ hk=>hk.2) (.slice Ao59 t688.length co59)) (fun _ hk=>hk.2) (.slice Ao60 t691.length co60)) (fun _ hk=>⟨hk.1.1,⟨hk.1.2.1,⟨hk.1.2.2.1,⟨hk.1.2.2.2.1,hk.1.2.2.2.2⟩⟩⟩⟩)))⟩;have n1_:zN (Kd.V (Kd.int .i64) 3 w64 w.heap.size (fun k_=>((P0_0_ k_∨P0_1_ k_∨P0_2_ k_)∨w.heap.size≤k_)∧k_≠gb661∧k_≠gb662∧k_≠gb663∧k_≠gb695) (.slice A0_1 l0_1.length c0_1) l0_1):=⟨(by rw [hw];exact (by (with_reducible repeat (first|apply zL|apply zK|apply zM));exact zO (zS (p:=⟨gb663,2,none⟩) (zS (p:=⟨gb663,1,none⟩) (zS (p:=⟨gb663,0,none⟩) (zO HO0_1.out (fun k_ hk=>(⟨hk,hk.2.2.2.1⟩:_∧k_≠gb663))) (fun _ hk=>hk.2) (.slice Ao54 t685.length co54)) (fun _ hk=>hk.2) (.slice Ao59 t688.length co59)) (fun _ hk=>hk.2) (.slice Ao60 t691.length co60)) (fun _ hk=>⟨hk.1.1,⟨hk.1.2.1,⟨hk.1.2.2.1,⟨hk.1.2.2.2.1,hk.1.2.2.2.2⟩⟩⟩⟩)))⟩;have n2_:zN (Kd.V (Kd.int .i64) 3 w64 w.heap.size (fun k_=>((P0_0_ k_∨P0_1_ k_∨P0_2_ k_)∨w.heap.size≤k_)∧k_≠gb661∧k_≠gb662∧k_≠gb663∧k_≠gb695) (.slice A0_2 l0_2.length c0_2) l0_2):=⟨(by rw [hw];exact (by (with_reducible repeat (first|apply zL|apply zK|apply zM));exact zO (zS (p:=⟨gb663,2,none⟩) (zS (p:=⟨gb663,1,none⟩) (zS (p:=⟨gb663,0,none⟩) (zO HO0_2.out (fun k_ hk=>(⟨hk,hk.2.2.2.1⟩:_∧k_≠gb663))) (fun _ hk=>hk.2) (.slice Ao54 t685.length co54)) (fun _ hk=>hk.2) (.slice Ao59 t688.length co59)) (fun _ hk=>hk.2) (.slice Ao60 t691.length co60)) (fun _ hk=>⟨hk.1.1,⟨hk.1.2.1,⟨hk.1.2.2.1,⟨hk.1.2.2.2.1,hk.1.2.2.2.2⟩⟩⟩⟩)))⟩;have n3_:zN (Kd.V (Kd.int .i64) 3 w64 w.heap.size (fun k_=>((P0_0_ k_∨P0_1_ k_∨P0_2_ k_)∨w.heap.size≤k_)∧k_≠gb661∧k_≠gb662∧k_≠gb663∧k_≠gb695) (.slice Ao54 t685.length co54) t685):=⟨(by rw [hw];exact (by (with_reducible repeat (first|apply zL|apply zK|apply zM));exact zO (zS (p:=⟨gb663,2,none⟩) (zS (p:=⟨gb663,1,none⟩) (zS (p:=⟨gb663,0,none⟩) (zO HO687.out (fun k_ hk=>(⟨hk,hk.2.2.2.1⟩:_∧k_≠gb663))) (fun _ hk=>hk.2) (.slice Ao54 t685.length co54)) (fun _ hk=>hk.2) (.slice Ao59 t688.length co59)) (fun _ hk=>hk.2) (.slice Ao60 t691.length co60)) (fun _ hk=>⟨hk.1.1,⟨hk.1.2.1,⟨hk.1.2.2.1,⟨hk.1.2.2.2.1,hk.1.2.2.2.2⟩⟩⟩⟩)))⟩;have n4_:zN (Kd.V (Kd.int .i64) 3 w64 w.heap.size (fun k_=>((P0_0_ k_∨P0_1_ k_∨P0_2_ k_)∨w.heap.size≤k_)∧k_≠gb661∧k_≠gb662∧k_≠gb663∧k_≠gb695) (.slice Ao59 t688.length co59) t688):=⟨(by rw [hw];exact (by (with_reducible repeat (first|apply zL|apply zK|apply zM));exact zO (zS (p:=⟨gb663,2,none⟩) (zS (p:=⟨gb663,1,none⟩) (zS (p:=⟨gb663,0,none⟩) (zO HO690.out (fun k_ hk=>(⟨hk,hk.2.2.2.1⟩:_∧k_≠gb663))) (fun _ hk=>hk.2) (.slice Ao54 t685.length co54)) (fun _ hk=>hk.2) (.slice Ao59 t688.length co59)) (fun _ hk=>hk.2) (.slice Ao60 t691.length co60)) (fun _ hk=>⟨hk.1.1,⟨hk.1.2.1,⟨hk.1.2.2.1,⟨hk.1.2.2.2.1,hk.1.2.2.2.2⟩⟩⟩⟩)))⟩;have n5_:zN (Kd.V (Kd.int .i64) 3 w64 w.heap.size (fun k_=>((P0_0_ k_∨P0_1_ k_∨P0_2_ k_)∨w.heap.size≤k_)∧k_≠gb661∧k_≠gb662∧k_≠gb663∧k_≠gb695) (.slice Ao60 t691.length co60) t691):=⟨(by rw [hw];exact (by (with_reducible repeat (first|apply zL|apply zK|apply zM));exact zO (zS (p:=⟨gb663,2,none⟩) (zS (p:=⟨gb663,1,none⟩) (zS (p:=⟨gb663,0,none⟩) (zO HO693.out (fun k_ hk=>(⟨hk,hk.2.2.2.1⟩:_∧k_≠gb663))) (fun _ hk=>hk.2) (.slice Ao54 t685.length co54)) (fun _ hk=>hk.2) (.slice Ao59 t688.length co59)) (fun _ hk=>hk.2) (.slice Ao60 t691.length co60)) (fun _ hk=>⟨hk.1.1,⟨hk.1.2.1,⟨hk.1.2.2.1,⟨hk.1.2.2.2.1,hk.1.2.2.2.2⟩⟩⟩⟩)))⟩;have n6_:zN (w64.heap[gb661]?=some (.cells #[.slice A0_0 l0_0.length c0_0,.slice A0_1 l0_1.length c0_1,.slice A0_2 l0_2.length c0_2] 30 (0,0))):=⟨(by rw [hw];exact (by (with_reducible repeat (first|refine zB ?_ _|refine zF ?_|refine zA ?_ _));refine zY ?_ NB661_663.out _;(with_reducible repeat (first|refine zB ?_ _|refine zF ?_|refine zA ?_ _));refine zY ?_ NB661_663.out _;(with_reducible repeat (first|refine zB ?_ _|refine zF ?_|refine zA ?_ _));refine zY ?_ NB661_663.out _;(with_reducible repeat (first|refine zB ?_ _|refine zF ?_|refine zA ?_ _));exact BK661.out))⟩;have n7_:zN (w64.heap[gb662]?=some (.cells #[.int .i64 a1_0,.int .i64 a1_1,.int .i64 a1_2] 51 (0,0))):=⟨(by rw [hw];exact (by (with_reducible repeat (first|refine zB ?_ _|refine zF ?_|refine zA ?_ _));refine zY ?_ NB662_663.out _;(with_reducible repeat (first|refine zB ?_ _|refine zF ?_|refine zA ?_ _));refine zY ?_ NB662_663.out _;(with_reducible repeat (first|refine zB ?_ _|refine zF ?_|refine zA ?_ _));refine zY ?_ NB662_663.out _;(with_reducible repeat (first|refine zB ?_ _|refine zF ?_|refine zA ?_ _));exact BK662.out))⟩;have n8_:zN (w64.heap[gb663]?=some (.cells #[.slice Ao54 t685.length co54,.slice Ao59 t688.length co59,.slice Ao60 t691.length co60] 30 (0,0))):=⟨(by rw [hw];exact (by (with_reducible repeat (first|refine zB ?_ _|refine zF ?_|refine zA ?_ _));refine yE (cs:=#[.slice Ao54 t685.length co54,.slice Ao59 t688.length co59,.slice none 0 0]) ?_ 2 _ rfl;(with_reducible repeat (first|refine zB ?_ _|refine zF ?_|refine zA ?_ _));refine yE (cs:=#[.slice Ao54 t685.length co54,.slice none 0 0,.slice none 0 0]) ?_ 1 _ rfl;(with_reducible repeat (first|refine zB ?_ _|refine zF ?_|refine zA ?_ _));refine yE (cs:=#[.slice none 0 0,.slice none 0 0,.slice none 0 0]) ?_ 0 _ rfl;(with_reducible repeat (first|refine zB ?_ _|refine zF ?_|refine zA ?_ _));exact BK663.out))⟩;have n9_:zN (w64.heap[gb695]?=some (.cells #[.slice Ao54 t685.length co54,.slice Ao59 t688.length co59,.slice Ao60 t691.length co60] 30 (0,0))):=⟨(by rw [hw];exact (by (with_reducible repeat (first|refine zB ?_ _|refine zF ?_|refine zA ?_ _));refine zY ?_ NB695_663.out _;(with_reducible repeat (first|refine zB ?_ _|refine zF ?_|refine zA ?_ _));refine zY ?_ NB695_663.out _;(with_reducible repeat (first|refine zB ?_ _|refine zF ?_|refine zA ?_ _));refine zY ?_ NB695_663.out _;(with_reducible repeat (first|refine zB ?_ _|refine zF ?_|refine zA ?_ _));exact BK695.out))⟩;have n10_:zN (Below w.heap.size w w64):=⟨(by rw [hw];exact (by repeat (first|(with_reducible first|exact HB.out|apply zG|apply zD|apply zH|refine zC ?_ GE661.out|refine zC ?_ GE662.out|refine zC ?_ GE663.out|refine zC ?_ GE695.out)|exact HB.out)))⟩;clear hw;clear HO0_0;clear HO0_1;clear HO0_2;clear HO687;clear HO690;clear HO693;clear BK661;clear BK662;clear BK663;clear BK695;clear HB;have HO0_0:=n0_;have HO0_1:=n1_;have HO0_2:=n2_;have HO687:=n3_;have HO690:=n4_;have HO693:=n5_;have BK661:=n6_;have BK662:=n7_;have BK663:=n8_;have BK695:=n9_;have HB:=n10_;clear n0_ n1_ n2_ n3_ n4_ n5_ n6_ n7_ n8_ n9_ n10_))
    refine bodyPost_ret (results_cell_row rfl _ _ gb663 30 #[.slice Ao54 t685.length co54,.slice Ao59 t688.length co59,.slice Ao60 t691.length co60] (0,0) _ rfl (by (with_reducible repeat (first|refine zB ?_ _|refine zF ?_|refine zA ?_ _));exact BK663.out) Tryd.underlying30 rfl (by kernel_rfl)) rfl ?_
    exact ⟨_,_,_,by first|rfl|(simp [errW_none,errW_some] <;> rfl)|(simp [*,errW_none,errW_some] <;> rfl),by (with_reducible repeat (first|apply zL|apply zK|apply zM));exact zO HO687.out (fun _ hk=>hk.1),by (with_reducible repeat (first|apply zL|apply zK|apply zM));exact zO HO690.out (fun _ hk=>hk.1),by (with_reducible repeat (first|apply zL|apply zK|apply zM));exact zO HO693.out (fun _ hk=>hk.1),by repeat (first|(with_reducible first|exact HB.out|apply zG|apply zD|apply zH|refine zC ?_ GE661.out|refine zC ?_ GE662.out|refine zC ?_ GE663.out|refine zC ?_ GE695.out)|exact HB.out)⟩
   ·rw [if_neg c42] at H
    have c42b0:(a1_0 == 2)=false:=beq_eq_false_iff_ne.mpr c42
    have c42b1:(a1_0 != 2)=true:=bne_iff_ne.mpr c42
    by_cases c65:a1_0=3
    ·rw [if_pos c65] at H
     have c65b0:(a1_0 == 3)=true:=beq_iff_eq.mpr c65
     have c65b1:(a1_0 != 3)=false:=bne_eq_false_iff_eq.mpr c65
     clear c65
     replace H:=Option.bind_eq_some_iff.mp H
     obtain ⟨⟨t696,t699,t702⟩,A660,H⟩:=H
     replace H:(some (t696,t699,t702))=some (r1,r2,r3):=H
     have A66:=Zk A660
     clear A660
     simp only [Option.some.injEq,Prod.mk.injEq] at H
     obtain ⟨rfl,rfl,rfl⟩:=H
     go_enter Tryd.func32,Tryd.ntmps32
     go_wp2_with (first|((with_reducible refine yT (N:=2) rfl ?_);refine yV ?hg (N:=2) ?hd (cs:=#[.slice A0_0 l0_0.length c0_0,.slice A0_1 l0_1.length c0_1,.slice A0_2 l0_2.length c0_2]) (t:=30) ?hr ?_;(case hd=>rfl);(case hg=>rfl);(case hr=>first|(go_simp;done)|(go_simp;rfl));intro gb661 hg w67 hbox hb;have n0_:=Zk (zV (yC (by (with_reducible repeat (first|apply zL|apply zK|apply zM));exact HO0_0.out) gb661 (Nat.le_of_eq hg.symm)) hb);have n1_:=Zk (zV (yC (by (with_reducible repeat (first|apply zL|apply zK|apply zM));exact HO0_1.out) gb661 (Nat.le_of_eq hg.symm)) hb);have n2_:=Zk (zV (yC (by (with_reducible repeat (first|apply zL|apply zK|apply zM));exact HO0_2.out) gb661 (Nat.le_of_eq hg.symm)) hb);have n3_:=Zk (yA (by repeat (first|(with_reducible first|exact HB.out|apply zG|apply zD|apply zH)|exact HB.out)) hb);have n4_:=Zk (hbox);have n5_:=Zk ((by rw [hg];exact (zP (by repeat (first|(with_reducible first|exact HB.out|apply zG|apply zD|apply zH)|exact HB.out))):w.heap.size≤gb661));have n6_:=Zk ((by rw [hg];exact (zP (by repeat (first|(with_reducible first|exact HB.out|apply zG|apply zD|apply zH)|exact HB.out))):w.heap.size≤gb661));clear HO0_0;clear HO0_1;clear HO0_2;clear HB;have HO0_0:=n0_;have HO0_1:=n1_;have HO0_2:=n2_;have HB:=n3_;have BK661:=n4_;have GW661:=n5_;have GE661:=n6_;clear n0_ n1_ n2_ n3_ n4_ n5_ n6_;clear hb hbox hg)|((with_reducible refine yT (N:=3) rfl ?_);refine yV ?hg (N:=3) ?hd (cs:=#[.int .i64 a1_0,.int .i64 a1_1,.int .i64 a1_2]) (t:=51) ?hr ?_;(case hd=>rfl);(case hg=>rfl);(case hr=>first|(go_simp;done)|(go_simp;rfl));intro gb662 hg w68 hbox hb;have n0_:=Zk (zV (yC (by (with_reducible repeat (first|apply zL|apply zK|apply zM));exact HO0_0.out) gb662 (Nat.le_of_eq hg.symm)) hb);have n1_:=Zk (zV (yC (by (with_reducible repeat (first|apply zL|apply zK|apply zM));exact HO0_1.out) gb662 (Nat.le_of_eq hg.symm)) hb);have n2_:=Zk (zV (yC (by (with_reducible repeat (first|apply zL|apply zK|apply zM));exact HO0_2.out) gb662 (Nat.le_of_eq hg.symm)) hb);have n3_:=Zk (zW (g:=gb661) (o:=.cells #[.slice A0_0 l0_0.length c0_0,.slice A0_1 l0_1.length c0_1,.slice A0_2 l0_2.length c0_2] 30 (0,0)) (by (with_reducible repeat (first|refine zB ?_ _|refine zF ?_|refine zA ?_ _));exact BK661.out) hb);have n4_:=Zk (yA (by repeat (first|(with_reducible first|exact HB.out|apply zG|apply zD|apply zH|refine zC ?_ GE661.out)|exact HB.out)) hb);have n5_:=Zk (hbox);have n6_:=Zk ((by rw [hg];exact (zP (by repeat (first|(with_reducible first|exact HB.out|apply zG|apply zD|apply zH|refine zC ?_ GE661.out)|exact HB.out))):w.heap.size≤gb662));have n7_:=Zk ((by rw [hg];exact (zP (by repeat (first|(with_reducible first|exact HB.out|apply zG|apply zD|apply zH|refine zC ?_ GE661.out)|exact HB.out))):w.heap.size≤gb662));have n8_:=Zk ((by rw [hg];exact Nat.ne_of_lt (yN (g:=gb661) (o:=.cells #[.slice A0_0 l0_0.length c0_0,.slice A0_1 l0_1.length c0_1,.slice A0_2 l0_2.length c0_2] 30 (0,0)) (by (with_reducible repeat (first|refine zB ?_ _|refine zF ?_|refine zA ?_ _));exact BK661.out)):gb661≠gb662));have n9_:=Zk ((by rw [hg];exact Nat.ne_of_gt (yN (g:=gb661) (o:=.cells #[.slice A0_0 l0_0.length c0_0,.slice A0_1 l0_1.length c0_1,.slice A0_2 l0_2.length c0_2] 30 (0,0)) (by (with_reducible repeat (first|refine zB ?_ _|refine zF ?_|refine zA ?_ _));exact BK661.out)):gb662≠gb661));clear HO0_0;clear HO0_1;clear HO0_2;clear BK661;clear HB;have HO0_0:=n0_;have HO0_1:=n1_;have HO0_2:=n2_;have BK661:=n3_;have HB:=n4_;have BK662:=n5_;have GW662:=n6_;have GE662:=n7_;have NB661_662:=n8_;have NB662_661:=n9_;clear n0_ n1_ n2_ n3_ n4_ n5_ n6_ n7_ n8_ n9_;clear hb hbox hg)|((with_reducible refine yT (N:=4) rfl ?_);refine yV ?hg (N:=4) ?hd (cs:=#[.slice none 0 0,.slice none 0 0,.slice none 0 0]) (t:=30) ?hr ?_;(case hd=>rfl);(case hg=>rfl);(case hr=>first|(go_simp;done)|(go_simp;rfl));intro gb663 hg w69 hbox hb;have n0_:=Zk (zV (yC (by (with_reducible repeat (first|apply zL|apply zK|apply zM));exact HO0_0.out) gb663 (Nat.le_of_eq hg.symm)) hb);have n1_:=Zk (zV (yC (by (with_reducible repeat (first|apply zL|apply zK|apply zM));exact HO0_1.out) gb663 (Nat.le_of_eq hg.symm)) hb);have n2_:=Zk (zV (yC (by (with_reducible repeat (first|apply zL|apply zK|apply zM));exact HO0_2.out) gb663 (Nat.le_of_eq hg.symm)) hb);have n3_:=Zk (zW (g:=gb661) (o:=.cells #[.slice A0_0 l0_0.length c0_0,.slice A0_1 l0_1.length c0_1,.slice A0_2 l0_2.length c0_2] 30 (0,0)) (by (with_reducible repeat (first|refine zB ?_ _|refine zF ?_|refine zA ?_ _));exact BK661.out) hb);have n4_:=Zk (zW (g:=gb662) (o:=.cells #[.int .i64 a1_0,.int .i64 a1_1,.int .i64 a1_2] 51 (0,0)) (by (with_reducible repeat (first|refine zB ?_ _|refine zF ?_|refine zA ?_ _));exact BK662.out) hb);have n5_:=Zk (yA (by repeat (first|(with_reducible first|exact HB.out|apply zG|apply zD|apply zH|refine zC ?_ GE661.out|refine zC ?_ GE662.out)|exact HB.out)) hb);have n6_:=Zk (hbox);have n7_:=Zk ((by rw [hg];exact (zP (by repeat (first|(with_reducible first|exact HB.out|apply zG|apply zD|apply zH|refine zC ?_ GE661.out|refine zC ?_ GE662.out)|exact HB.out))):w.heap.size≤gb663));have n8_:=Zk ((by rw [hg];exact (zP (by repeat (first|(with_reducible first|exact HB.out|apply zG|apply zD|apply zH|refine zC ?_ GE661.out|refine zC ?_ GE662.out)|exact HB.out))):w.heap.size≤gb663));have n9_:=Zk ((by rw [hg];exact Nat.ne_of_lt (yN (g:=gb661) (o:=.cells #[.slice A0_0 l0_0.length c0_0,.slice A0_1 l0_1.length c0_1,.slice A0_2 l0_2.length c0_2] 30 (0,0)) (by (with_reducible repeat (first|refine zB ?_ _|refine zF ?_|refine zA ?_ _));exact BK661.out)):gb661≠gb663));have n10_:=Zk ((by rw [hg];exact Nat.ne_of_gt (yN (g:=gb661) (o:=.cells #[.slice A0_0 l0_0.length c0_0,.slice A0_1 l0_1.length c0_1,.slice A0_2 l0_2.length c0_2] 30 (0,0)) (by (with_reducible repeat (first|refine zB ?_ _|refine zF ?_|refine zA ?_ _));exact BK661.out)):gb663≠gb661));have n11_:=Zk ((by rw [hg];exact Nat.ne_of_lt (yN (g:=gb662) (o:=.cells #[.int .i64 a1_0,.int .i64 a1_1,.int .i64 a1_2] 51 (0,0)) (by (with_reducible repeat (first|refine zB ?_ _|refine zF ?_|refine zA ?_ _));exact BK662.out)):gb662≠gb663));have n12_:=Zk ((by rw [hg];exact Nat.ne_of_gt (yN (g:=gb662) (o:=.cells #[.int .i64 a1_0,.int .i64 a1_1,.int .i64 a1_2] 51 (0,0)) (by (with_reducible repeat (first|refine zB ?_ _|refine zF ?_|refine zA ?_ _));exact BK662.out)):gb663≠gb662));clear HO0_0;clear HO0_1;clear HO0_2;clear BK661;clear BK662;clear HB;have HO0_0:=n0_;have HO0_1:=n1_;have HO0_2:=n2_;have BK661:=n3_;have BK662:=n4_;have HB:=n5_;have BK663:=n6_;have GW663:=n7_;have GE663:=n8_;have NB661_663:=n9_;have NB663_661:=n10_;have NB662_663:=n11_;have NB663_662:=n12_;clear n0_ n1_ n2_ n3_ n4_ n5_ n6_ n7_ n8_ n9_ n10_ n11_ n12_;clear hb hbox hg;have hnb70:=NB662_661.out;have hnc70:=NB661_662.out;have hnb71:=NB662_663.out;have hnc71:=NB663_662.out;have hcz72_0:w69.cell? ⟨gb662,0,none⟩=some (.int .i64 a1_0):=(zJ BK662.out 0).trans rfl;have hcz72_1:w69.cell? ⟨gb662,1,none⟩=some (.int .i64 a1_1):=(zJ BK662.out 1).trans rfl;have hcz72_2:w69.cell? ⟨gb662,2,none⟩=some (.int .i64 a1_2):=(zJ BK662.out 2).trans rfl;have hfz72_0:=zI BK662.out 0;have hfz72_1:=zI BK662.out 1;have hfz72_2:=zI BK662.out 2;have hnb73:=NB661_663.out;have hnc73:=NB663_661.out;have hcz74_0:w69.cell? ⟨gb661,0,none⟩=some (.slice A0_0 l0_0.length c0_0):=(zJ BK661.out 0).trans rfl;have hcz74_1:w69.cell? ⟨gb661,1,none⟩=some (.slice A0_1 l0_1.length c0_1):=(zJ BK661.out 1).trans rfl;have hcz74_2:w69.cell? ⟨gb661,2,none⟩=some (.slice A0_2 l0_2.length c0_2):=(zJ BK661.out 2).trans rfl;have hfz74_0:=zI BK661.out 0;have hfz74_1:=zI BK661.out 1;have hfz74_2:=zI BK661.out 2)|((with_reducible refine yD (f:=27) rfl ?_);refine yM (some 42) rfl rfl Tryd.func27 (by kernel_rfl) rfl #[.agg #[.slice A0_0 l0_0.length c0_0,.slice A0_1 l0_1.length c0_1,.slice A0_2 l0_2.length c0_2]] rfl (by (try simp only [List.map_toArray,List.map_cons,List.map_nil]);first|done|rfl|(simp only [List.length_drop,List.length_take];rfl)) ?_;(with_reducible refine (signal_Fork.calls _ _ l0_0 _ _ l0_1 _ _ l0_2 t696 t699 t702 _ ?side1 ?side2 ?side3 ?side4 ?side5 ?side6 A66.out).mono ?_);(case side1=>repeat (first|exact (yH HO0_0.out).2.2|(with_reducible refine yG ?_ _)|(with_reducible refine yF ?_ _)|(with_reducible refine yI ?_)));(case side2=>exact (yH HO0_0.out).2.1);(case side3=>repeat (first|exact (yH HO0_1.out).2.2|(with_reducible refine yG ?_ _)|(with_reducible refine yF ?_ _)|(with_reducible refine yI ?_)));(case side4=>exact (yH HO0_1.out).2.1);(case side5=>repeat (first|exact (yH HO0_2.out).2.2|(with_reducible refine yG ?_ _)|(with_reducible refine yF ?_ _)|(with_reducible refine yI ?_)));(case side6=>exact (yH HO0_2.out).2.1);rintro e w75 ⟨v697,v700,v703,rfl,ho0,ho1,ho2,hb⟩;refine ⟨_,rfl,?_⟩;have n0_:=Zk (zO (yO (yO (yO (V_old (by (with_reducible repeat (first|apply zL|apply zK|apply zM));exact HO0_0.out) hb) (zZ ho0)) (zZ ho1)) (zZ ho2)) (fun _ h_=>h_.1));have n1_:=Zk (zO (yO (yO (yO (V_old (by (with_reducible repeat (first|apply zL|apply zK|apply zM));exact HO0_1.out) hb) (zZ ho0)) (zZ ho1)) (zZ ho2)) (fun _ h_=>h_.1));have n2_:=Zk (zO (yO (yO (yO (V_old (by (with_reducible repeat (first|apply zL|apply zK|apply zM));exact HO0_2.out) hb) (zZ ho0)) (zZ ho1)) (zZ ho2)) (fun _ h_=>h_.1));have n3_:=Zk (yU (R_newM (M:=fun k_=>(w.heap.size≤k_)) ho0 (zP (by repeat (first|(with_reducible first|exact HB.out|apply zG|apply zD|apply zH|refine zC ?_ GE661.out|refine zC ?_ GE662.out|refine zC ?_ GE663.out)|exact HB.out))) (fun k_ h_=>h_)) (zP (by repeat (first|(with_reducible first|exact HB.out|apply zG|apply zD|apply zH|refine zC ?_ GE661.out|refine zC ?_ GE662.out|refine zC ?_ GE663.out)|exact HB.out))));have n4_:=Zk (yU (R_newM (M:=fun k_=>(w.heap.size≤k_)) ho1 (zP (by repeat (first|(with_reducible first|exact HB.out|apply zG|apply zD|apply zH|refine zC ?_ GE661.out|refine zC ?_ GE662.out|refine zC ?_ GE663.out)|exact HB.out))) (fun k_ h_=>h_)) (zP (by repeat (first|(with_reducible first|exact HB.out|apply zG|apply zD|apply zH|refine zC ?_ GE661.out|refine zC ?_ GE662.out|refine zC ?_ GE663.out)|exact HB.out))));have n5_:=Zk (yU (R_newM (M:=fun k_=>(w.heap.size≤k_)) ho2 (zP (by repeat (first|(with_reducible first|exact HB.out|apply zG|apply zD|apply zH|refine zC ?_ GE661.out|refine zC ?_ GE662.out|refine zC ?_ GE663.out)|exact HB.out))) (fun k_ h_=>h_)) (zP (by repeat (first|(with_reducible first|exact HB.out|apply zG|apply zD|apply zH|refine zC ?_ GE661.out|refine zC ?_ GE662.out|refine zC ?_ GE663.out)|exact HB.out))));have n6_:=Zk (zW (g:=gb661) (o:=.cells #[.slice A0_0 l0_0.length c0_0,.slice A0_1 l0_1.length c0_1,.slice A0_2 l0_2.length c0_2] 30 (0,0)) (by (with_reducible repeat (first|refine zB ?_ _|refine zF ?_|refine zA ?_ _));exact BK661.out) hb);have n7_:=Zk (zW (g:=gb662) (o:=.cells #[.int .i64 a1_0,.int .i64 a1_1,.int .i64 a1_2] 51 (0,0)) (by (with_reducible repeat (first|refine zB ?_ _|refine zF ?_|refine zA ?_ _));exact BK662.out) hb);have n8_:=Zk (zW (g:=gb663) (o:=.cells #[.slice none 0 0,.slice none 0 0,.slice none 0 0] 30 (0,0)) (by (with_reducible repeat (first|refine zB ?_ _|refine zF ?_|refine zA ?_ _));exact BK663.out) hb);have n9_:=Zk (yA (by repeat (first|(with_reducible first|exact HB.out|apply zG|apply zD|apply zH|refine zC ?_ GE661.out|refine zC ?_ GE662.out|refine zC ?_ GE663.out)|exact HB.out)) hb);clear HO0_0;clear HO0_1;clear HO0_2;clear BK661;clear BK662;clear BK663;clear HB;have HO0_0:=n0_;have HO0_1:=n1_;have HO0_2:=n2_;have HO698:=n3_;have HO701:=n4_;have HO704:=n5_;have BK661:=n6_;have BK662:=n7_;have BK663:=n8_;have HB:=n9_;clear n0_ n1_ n2_ n3_ n4_ n5_ n6_ n7_ n8_ n9_;(try clear hb);(try clear hb2);(try clear hk);(try clear hi);(try clear ho0);(try clear ho1);(try clear ho2);obtain ⟨Ao76,co76,eo76⟩:=yQ HO698.out;subst eo76;have hcz77_0:w75.cell? ⟨gb663,0,none⟩=some (.slice none 0 0):=(zJ BK663.out 0).trans rfl;have hcz77_1:w75.cell? ⟨gb663,1,none⟩=some (.slice none 0 0):=(zJ BK663.out 1).trans rfl;have hcz77_2:w75.cell? ⟨gb663,2,none⟩=some (.slice none 0 0):=(zJ BK663.out 2).trans rfl;have hfz77_0:=zI BK663.out 0;have hfz77_1:=zI BK663.out 1;have hfz77_2:=zI BK663.out 2;obtain ⟨Ao78,co78,eo78⟩:=yQ HO701.out;subst eo78;obtain ⟨Ao79,co79,eo79⟩:=yQ HO704.out;subst eo79)|((with_reducible refine xA (t:=30) (p:=4) rfl ?_);refine yY (t:=30) (p:=4) (v:=?vo_w80) (w1:=(((w75.setCell ⟨gb663,0,none⟩ (.slice Ao76 t696.length co76)).setCell ⟨gb663,1,none⟩ (.slice Ao78 t699.length co78)).setCell ⟨gb663,2,none⟩ (.slice Ao79 t702.length co79))) ?hg ?ho ?hn ?hr ?_;(case ho=>rfl);(case hg=>rfl);(case hn=>rfl);(case hr=>first|(go_simp;done)|(go_simp;rfl));intro w80 hw;have n0_:zN (Kd.V (Kd.int .i64) 3 w80 w.heap.size (fun k_=>((P0_0_ k_∨P0_1_ k_∨P0_2_ k_)∨w.heap.size≤k_)∧some k_≠(.slice Ao76 t696.length co76:Value).ownBlock∧some k_≠(.slice Ao78 t699.length co78:Value).ownBlock∧some k_≠(.slice Ao79 t702.length co79:Value).ownBlock∧k_≠gb661∧k_≠gb662∧k_≠gb663) (.slice A0_0 l0_0.length c0_0) l0_0):=⟨(by rw [hw];exact (by (with_reducible repeat (first|apply zL|apply zK|apply zM));exact zO (zS (p:=⟨gb663,2,none⟩) (zS (p:=⟨gb663,1,none⟩) (zS (p:=⟨gb663,0,none⟩) (zO HO0_0.out (fun k_ hk=>(⟨hk,hk.1.1.1.2⟩:_∧k_≠gb663))) (fun _ hk=>hk.2) (.slice Ao76 t696.length co76)) (fun _ hk=>hk.2) (.slice Ao78 t699.length co78)) (fun _ hk=>hk.2) (.slice Ao79 t702.length co79)) (fun _ hk=>⟨hk.1.1.1.1.1.1.1,⟨hk.1.1.1.2,⟨hk.1.1.2,⟨hk.1.2,⟨hk.1.1.1.1.1.1.2,⟨hk.1.1.1.1.1.2,hk.1.1.1.1.2⟩⟩⟩⟩⟩⟩)))⟩;have n1_:zN (Kd.V (Kd.int .i64) 3 w80 w.heap.size (fun k_=>((P0_0_ k_∨P0_1_ k_∨P0_2_ k_)∨w.heap.size≤k_)∧some k_≠(.slice Ao76 t696.length co76:Value).ownBlock∧some k_≠(.slice Ao78 t699.length co78:Value).ownBlock∧some k_≠(.slice Ao79 t702.length co79:Value).ownBlock∧k_≠gb661∧k_≠gb662∧k_≠gb663) (.slice A0_1 l0_1.length c0_1) l0_1):=⟨(by rw [hw];exact (by (with_reducible repeat (first|apply zL|apply zK|apply zM));exact zO (zS (p:=⟨gb663,2,none⟩) (zS (p:=⟨gb663,1,none⟩) (zS (p:=⟨gb663,0,none⟩) (zO HO0_1.out (fun k_ hk=>(⟨hk,hk.1.1.1.2⟩:_∧k_≠gb663))) (fun _ hk=>hk.2) (.slice Ao76 t696.length co76)) (fun _ hk=>hk.2) (.slice Ao78 t699.length co78)) (fun _ hk=>hk.2) (.slice Ao79 t702.length co79)) (fun _ hk=>⟨hk.1.1.1.1.1.1.1,⟨hk.1.1.1.2,⟨hk.1.1.2,⟨hk.1.2,⟨hk.1.1.1.1.1.1.2,⟨hk.1.1.1.1.1.2,hk.1.1.1.1.2⟩⟩⟩⟩⟩⟩)))⟩;have n2_:zN (Kd.V (Kd.int .i64) 3 w80 w.heap.size (fun k_=>((P0_0_ k_∨P0_1_ k_∨P0_2_ k_)∨w.heap.size≤k_)∧some k_≠(.slice Ao76 t696.length co76:Value).ownBlock∧some k_≠(.slice Ao78 t699.length co78:Value).ownBlock∧some k_≠(.slice Ao79 t702.length co79:Value).ownBlock∧k_≠gb661∧k_≠gb662∧k_≠gb663) (.slice A0_2 l0_2.length c0_2) l0_2):=⟨(by rw [hw];exact (by (with_reducible repeat (first|apply zL|apply zK|apply zM));exact zO (zS (p:=⟨gb663,2,none⟩) (zS (p:=⟨gb663,1,none⟩) (zS (p:=⟨gb663,0,none⟩) (zO HO0_2.out (fun k_ hk=>(⟨hk,hk.1.1.1.2⟩:_∧k_≠gb663))) (fun _ hk=>hk.2) (.slice Ao76 t696.length co76)) (fun _ hk=>hk.2) (.slice Ao78 t699.length co78)) (fun _ hk=>hk.2) (.slice Ao79 t702.length co79)) (fun _ hk=>⟨hk.1.1.1.1.1.1.1,⟨hk.1.1.1.2,⟨hk.1.1.2,⟨hk.1.2,⟨hk.1.1.1.1.1.1.2,⟨hk.1.1.1.1.1.2,hk.1.1.1.1.2⟩⟩⟩⟩⟩⟩)))⟩;have n3_:zN (Kd.R (Kd.int .i64) 3 w80 w.heap.size (fun k_=>(w.heap.size≤k_)∧some k_≠(.slice Ao78 t699.length co78:Value).ownBlock∧some k_≠(.slice Ao79 t702.length co79:Value).ownBlock) (.slice Ao76 t696.length co76) t696):=⟨(by rw [hw];exact (by (with_reducible repeat (first|apply zR|apply zQ|apply zU));exact yB (zT (p:=⟨gb663,2,none⟩) (zT (p:=⟨gb663,1,none⟩) (zT (p:=⟨gb663,0,none⟩) (zX HO698.out BK663.out (by decide)) (fun _ hk=>hk.2) (.slice Ao76 t696.length co76)) (fun _ hk=>hk.2) (.slice Ao78 t699.length co78)) (fun _ hk=>hk.2) (.slice Ao79 t702.length co79)) (fun _ hk=>⟨hk.1.1,⟨hk.1.2.1,hk.1.2.2⟩⟩)))⟩;have n4_:zN (Kd.R (Kd.int .i64) 3 w80 w.heap.size (fun k_=>(w.heap.size≤k_)∧some k_≠(.slice Ao76 t696.length co76:Value).ownBlock∧some k_≠(.slice Ao79 t702.length co79:Value).ownBlock) (.slice Ao78 t699.length co78) t699):=⟨(by rw [hw];exact (by (with_reducible repeat (first|apply zR|apply zQ|apply zU));exact yB (zT (p:=⟨gb663,2,none⟩) (zT (p:=⟨gb663,1,none⟩) (zT (p:=⟨gb663,0,none⟩) (zX HO701.out BK663.out (by decide)) (fun _ hk=>hk.2) (.slice Ao76 t696.length co76)) (fun _ hk=>hk.2) (.slice Ao78 t699.length co78)) (fun _ hk=>hk.2) (.slice Ao79 t702.length co79)) (fun _ hk=>⟨hk.1.1,⟨hk.1.2.1,hk.1.2.2⟩⟩)))⟩;have n5_:zN (Kd.R (Kd.int .i64) 3 w80 w.heap.size (fun k_=>(w.heap.size≤k_)∧some k_≠(.slice Ao76 t696.length co76:Value).ownBlock∧some k_≠(.slice Ao78 t699.length co78:Value).ownBlock) (.slice Ao79 t702.length co79) t702):=⟨(by rw [hw];exact (by (with_reducible repeat (first|apply zR|apply zQ|apply zU));exact yB (zT (p:=⟨gb663,2,none⟩) (zT (p:=⟨gb663,1,none⟩) (zT (p:=⟨gb663,0,none⟩) (zX HO704.out BK663.out (by decide)) (fun _ hk=>hk.2) (.slice Ao76 t696.length co76)) (fun _ hk=>hk.2) (.slice Ao78 t699.length co78)) (fun _ hk=>hk.2) (.slice Ao79 t702.length co79)) (fun _ hk=>⟨hk.1.1,⟨hk.1.2.1,hk.1.2.2⟩⟩)))⟩;have n6_:zN (w80.heap[gb661]?=some (.cells #[.slice A0_0 l0_0.length c0_0,.slice A0_1 l0_1.length c0_1,.slice A0_2 l0_2.length c0_2] 30 (0,0))):=⟨(by rw [hw];exact (by (with_reducible repeat (first|refine zB ?_ _|refine zF ?_|refine zA ?_ _));refine zY ?_ NB661_663.out _;(with_reducible repeat (first|refine zB ?_ _|refine zF ?_|refine zA ?_ _));refine zY ?_ NB661_663.out _;(with_reducible repeat (first|refine zB ?_ _|refine zF ?_|refine zA ?_ _));refine zY ?_ NB661_663.out _;(with_reducible repeat (first|refine zB ?_ _|refine zF ?_|refine zA ?_ _));exact BK661.out))⟩;have n7_:zN (w80.heap[gb662]?=some (.cells #[.int .i64 a1_0,.int .i64 a1_1,.int .i64 a1_2] 51 (0,0))):=⟨(by rw [hw];exact (by (with_reducible repeat (first|refine zB ?_ _|refine zF ?_|refine zA ?_ _));refine zY ?_ NB662_663.out _;(with_reducible repeat (first|refine zB ?_ _|refine zF ?_|refine zA ?_ _));refine zY ?_ NB662_663.out _;(with_reducible repeat (first|refine zB ?_ _|refine zF ?_|refine zA ?_ _));refine zY ?_ NB662_663.out _;(with_reducible repeat (first|refine zB ?_ _|refine zF ?_|refine zA ?_ _));exact BK662.out))⟩;have n8_:zN (w80.heap[gb663]?=some (.cells #[.slice Ao76 t696.length co76,.slice Ao78 t699.length co78,.slice Ao79 t702.length co79] 30 (0,0))):=⟨(by rw [hw];exact (by (with_reducible repeat (first|refine zB ?_ _|refine zF ?_|refine zA ?_ _));refine yE (cs:=#[.slice Ao76 t696.length co76,.slice Ao78 t699.length co78,.slice none 0 0]) ?_ 2 _ rfl;(with_reducible repeat (first|refine zB ?_ _|refine zF ?_|refine zA ?_ _));refine yE (cs:=#[.slice Ao76 t696.length co76,.slice none 0 0,.slice none 0 0]) ?_ 1 _ rfl;(with_reducible repeat (first|refine zB ?_ _|refine zF ?_|refine zA ?_ _));refine yE (cs:=#[.slice none 0 0,.slice none 0 0,.slice none 0 0]) ?_ 0 _ rfl;(with_reducible repeat (first|refine zB ?_ _|refine zF ?_|refine zA ?_ _));exact BK663.out))⟩;have n9_:zN (Below w.heap.size w w80):=⟨(by rw [hw];exact (by repeat (first|(with_reducible first|exact HB.out|apply zG|apply zD|apply zH|refine zC ?_ GE661.out|refine zC ?_ GE662.out|refine zC ?_ GE663.out)|exact HB.out)))⟩;clear hw;clear HO0_0;clear HO0_1;clear HO0_2;clear HO698;clear HO701;clear HO704;clear BK661;clear BK662;clear BK663;clear HB;have HO0_0:=n0_;have HO0_1:=n1_;have HO0_2:=n2_;have HO698:=n3_;have HO701:=n4_;have HO704:=n5_;have BK661:=n6_;have BK662:=n7_;have BK663:=n8_;have HB:=n9_;clear n0_ n1_ n2_ n3_ n4_ n5_ n6_ n7_ n8_ n9_))
     refine bodyPost_ret (results_cell_row rfl _ _ gb663 30 #[.slice Ao76 t696.length co76,.slice Ao78 t699.length co78,.slice Ao79 t702.length co79] (0,0) _ rfl (by (with_reducible repeat (first|refine zB ?_ _|refine zF ?_|refine zA ?_ _));exact BK663.out) Tryd.underlying30 rfl (by kernel_rfl)) rfl ?_
     exact ⟨_,_,_,by first|rfl|(simp [errW_none,errW_some] <;> rfl)|(simp [*,errW_none,errW_some] <;> rfl),zO (R_V (by (with_reducible repeat (first|apply zR|apply zQ|apply zU));exact yB HO698.out (fun _ hk=>hk.1))) (fun k_ hk=>by first|exact ⟨(.inr (hk.1)),hk.2⟩|exact (.inr (hk))),zO (R_V (by (with_reducible repeat (first|apply zR|apply zQ|apply zU));exact yB HO701.out (fun _ hk=>hk.1))) (fun k_ hk=>by first|exact ⟨(.inr (hk.1)),hk.2⟩|exact (.inr (hk))),zO (R_V (by (with_reducible repeat (first|apply zR|apply zQ|apply zU));exact yB HO704.out (fun _ hk=>hk.1))) (fun k_ hk=>by first|exact ⟨(.inr (hk.1)),hk.2⟩|exact (.inr (hk))),by repeat (first|(with_reducible first|exact HB.out|apply zG|apply zD|apply zH|refine zC ?_ GE661.out|refine zC ?_ GE662.out|refine zC ?_ GE663.out)|exact HB.out)⟩
    ·rw [if_neg c65] at H
     have c65b0:(a1_0 == 3)=false:=beq_eq_false_iff_ne.mpr c65
     have c65b1:(a1_0 != 3)=true:=bne_iff_ne.mpr c65
     replace H:=Option.bind_eq_some_iff.mp H
     obtain ⟨⟨t705,t708,t711⟩,A810,H⟩:=H
     replace H:(some (t705,t708,t711))=some (r1,r2,r3):=H
     have A81:=Zk A810
     clear A810
     simp only [Option.some.injEq,Prod.mk.injEq] at H
     obtain ⟨rfl,rfl,rfl⟩:=H
     go_enter Tryd.func32,Tryd.ntmps32
     go_wp2_with (first|((with_reducible refine yT (N:=2) rfl ?_);refine yV ?hg (N:=2) ?hd (cs:=#[.slice A0_0 l0_0.length c0_0,.slice A0_1 l0_1.length c0_1,.slice A0_2 l0_2.length c0_2]) (t:=30) ?hr ?_;(case hd=>rfl);(case hg=>rfl);(case hr=>first|(go_simp;done)|(go_simp;rfl));intro gb661 hg w82 hbox hb;have n0_:=Zk (zV (yC (by (with_reducible repeat (first|apply zL|apply zK|apply zM));exact HO0_0.out) gb661 (Nat.le_of_eq hg.symm)) hb);have n1_:=Zk (zV (yC (by (with_reducible repeat (first|apply zL|apply zK|apply zM));exact HO0_1.out) gb661 (Nat.le_of_eq hg.symm)) hb);have n2_:=Zk (zV (yC (by (with_reducible repeat (first|apply zL|apply zK|apply zM));exact HO0_2.out) gb661 (Nat.le_of_eq hg.symm)) hb);have n3_:=Zk (yA (by repeat (first|(with_reducible first|exact HB.out|apply zG|apply zD|apply zH)|exact HB.out)) hb);have n4_:=Zk (hbox);have n5_:=Zk ((by rw [hg];exact (zP (by repeat (first|(with_reducible first|exact HB.out|apply zG|apply zD|apply zH)|exact HB.out))):w.heap.size≤gb661));have n6_:=Zk ((by rw [hg];exact (zP (by repeat (first|(with_reducible first|exact HB.out|apply zG|apply zD|apply zH)|exact HB.out))):w.heap.size≤gb661));clear HO0_0;clear HO0_1;clear HO0_2;clear HB;have HO0_0:=n0_;have HO0_1:=n1_;have HO0_2:=n2_;have HB:=n3_;have BK661:=n4_;have GW661:=n5_;have GE661:=n6_;clear n0_ n1_ n2_ n3_ n4_ n5_ n6_;clear hb hbox hg)|((with_reducible refine yT (N:=3) rfl ?_);refine yV ?hg (N:=3) ?hd (cs:=#[.int .i64 a1_0,.int .i64 a1_1,.int .i64 a1_2]) (t:=51) ?hr ?_;(case hd=>rfl);(case hg=>rfl);(case hr=>first|(go_simp;done)|(go_simp;rfl));intro gb662 hg w83 hbox hb;have n0_:=Zk (zV (yC (by (with_reducible repeat (first|apply zL|apply zK|apply zM));exact HO0_0.out) gb662 (Nat.le_of_eq hg.symm)) hb);have n1_:=Zk (zV (yC (by (with_reducible repeat (first|apply zL|apply zK|apply zM));exact HO0_1.out) gb662 (Nat.le_of_eq hg.symm)) hb);have n2_:=Zk (zV (yC (by (with_reducible repeat (first|apply zL|apply zK|apply zM));exact HO0_2.out) gb662 (Nat.le_of_eq hg.symm)) hb);have n3_:=Zk (zW (g:=gb661) (o:=.cells #[.slice A0_0 l0_0.length c0_0,.slice A0_1 l0_1.length c0_1,.slice A0_2 l0_2.length c0_2] 30 (0,0)) (by (with_reducible repeat (first|refine zB ?_ _|refine zF ?_|refine zA ?_ _));exact BK661.out) hb);have n4_:=Zk (yA (by repeat (first|(with_reducible first|exact HB.out|apply zG|apply zD|apply zH|refine zC ?_ GE661.out)|exact HB.out)) hb);have n5_:=Zk (hbox);have n6_:=Zk ((by rw [hg];exact (zP (by repeat (first|(with_reducible first|exact HB.out|apply zG|apply zD|apply zH|refine zC ?_ GE661.out)|exact HB.out))):w.heap.size≤gb662));have n7_:=Zk ((by rw [hg];exact (zP (by repeat (first|(with_reducible first|exact HB.out|apply zG|apply zD|apply zH|refine zC ?_ GE661.out)|exact HB.out))):w.heap.size≤gb662));have n8_:=Zk ((by rw [hg];exact Nat.ne_of_lt (yN (g:=gb661) (o:=.cells #[.slice A0_0 l0_0.length c0_0,.slice A0_1 l0_1.length c0_1,.slice A0_2 l0_2.length c0_2] 30 (0,0)) (by (with_reducible repeat (first|refine zB ?_ _|refine zF ?_|refine zA ?_ _));exact BK661.out)):gb661≠gb662));have n9_:=Zk ((by rw [hg];exact Nat.ne_of_gt (yN (g:=gb661) (o:=.cells #[.slice A0_0 l0_0.length c0_0,.slice A0_1 l0_1.length c0_1,.slice A0_2 l0_2.length c0_2] 30 (0,0)) (by (with_reducible repeat (first|refine zB ?_ _|refine zF ?_|refine zA ?_ _));exact BK661.out)):gb662≠gb661));clear HO0_0;clear HO0_1;clear HO0_2;clear BK661;clear HB;have HO0_0:=n0_;have HO0_1:=n1_;have HO0_2:=n2_;have BK661:=n3_;have HB:=n4_;have BK662:=n5_;have GW662:=n6_;have GE662:=n7_;have NB661_662:=n8_;have NB662_661:=n9_;clear n0_ n1_ n2_ n3_ n4_ n5_ n6_ n7_ n8_ n9_;clear hb hbox hg)|((with_reducible refine yT (N:=4) rfl ?_);refine yV ?hg (N:=4) ?hd (cs:=#[.slice none 0 0,.slice none 0 0,.slice none 0 0]) (t:=30) ?hr ?_;(case hd=>rfl);(case hg=>rfl);(case hr=>first|(go_simp;done)|(go_simp;rfl));intro gb663 hg w84 hbox hb;have n0_:=Zk (zV (yC (by (with_reducible repeat (first|apply zL|apply zK|apply zM));exact HO0_0.out) gb663 (Nat.le_of_eq hg.symm)) hb);have n1_:=Zk (zV (yC (by (with_reducible repeat (first|apply zL|apply zK|apply zM));exact HO0_1.out) gb663 (Nat.le_of_eq hg.symm)) hb);have n2_:=Zk (zV (yC (by (with_reducible repeat (first|apply zL|apply zK|apply zM));exact HO0_2.out) gb663 (Nat.le_of_eq hg.symm)) hb);have n3_:=Zk (zW (g:=gb661) (o:=.cells #[.slice A0_0 l0_0.length c0_0,.slice A0_1 l0_1.length c0_1,.slice A0_2 l0_2.length c0_2] 30 (0,0)) (by (with_reducible repeat (first|refine zB ?_ _|refine zF ?_|refine zA ?_ _));exact BK661.out) hb);have n4_:=Zk (zW (g:=gb662) (o:=.cells #[.int .i64 a1_0,.int .i64 a1_1,.int .i64 a1_2] 51 (0,0)) (by (with_reducible repeat (first|refine zB ?_ _|refine zF ?_|refine zA ?_ _));exact BK662.out) hb);have n5_:=Zk (yA (by repeat (first|(with_reducible first|exact HB.out|apply zG|apply zD|apply zH|refine zC ?_ GE661.out|refine zC ?_ GE662.out)|exact HB.out)) hb);have n6_:=Zk (hbox);have n7_:=Zk ((by rw [hg];exact (zP (by repeat (first|(with_reducible first|exact HB.out|apply zG|apply zD|apply zH|refine zC ?_ GE661.out|refine zC ?_ GE662.out)|exact HB.out))):w.heap.size≤gb663));have n8_:=Zk ((by rw [hg];exact (zP (by repeat (first|(with_reducible first|exact HB.out|apply zG|apply zD|apply zH|refine zC ?_ GE661.out|refine zC ?_ GE662.out)|exact HB.out))):w.heap.size≤gb663));have n9_:=Zk ((by rw [hg];exact Nat.ne_of_lt (yN (g:=gb661) (o:=.cells #[.slice A0_0 l0_0.length c0_0,.slice A0_1 l0_1.length c0_1,.slice A0_2 l0_2.length c0_2] 30 (0,0)) (by (with_reducible repeat (first|refine zB ?_ _|refine zF ?_|refine zA ?_ _));exact BK661.out)):gb661≠gb663));have n10_:=Zk ((by rw [hg];exact Nat.ne_of_gt (yN (g:=gb661) (o:=.cells #[.slice A0_0 l0_0.length c0_0,.slice A0_1 l0_1.length c0_1,.slice A0_2 l0_2.length c0_2] 30 (0,0)) (by (with_reducible repeat (first|refine zB ?_ _|refine zF ?_|refine zA ?_ _));exact BK661.out)):gb663≠gb661));have n11_:=Zk ((by rw [hg];exact Nat.ne_of_lt (yN (g:=gb662) (o:=.cells #[.int .i64 a1_0,.int .i64 a1_1,.int .i64 a1_2] 51 (0,0)) (by (with_reducible repeat (first|refine zB ?_ _|refine zF ?_|refine zA ?_ _));exact BK662.out)):gb662≠gb663));have n12_:=Zk ((by rw [hg];exact Nat.ne_of_gt (yN (g:=gb662) (o:=.cells #[.int .i64 a1_0,.int .i64 a1_1,.int .i64 a1_2] 51 (0,0)) (by (with_reducible repeat (first|refine zB ?_ _|refine zF ?_|refine zA ?_ _));exact BK662.out)):gb663≠gb662));clear HO0_0;clear HO0_1;clear HO0_2;clear BK661;clear BK662;clear HB;have HO0_0:=n0_;have HO0_1:=n1_;have HO0_2:=n2_;have BK661:=n3_;have BK662:=n4_;have HB:=n5_;have BK663:=n6_;have GW663:=n7_;have GE663:=n8_;have NB661_663:=n9_;have NB663_661:=n10_;have NB662_663:=n11_;have NB663_662:=n12_;clear n0_ n1_ n2_ n3_ n4_ n5_ n6_ n7_ n8_ n9_ n10_ n11_ n12_;clear hb hbox hg;have hnb85:=NB662_661.out;have hnc85:=NB661_662.out;have hnb86:=NB662_663.out;have hnc86:=NB663_662.out;have hcz87_0:w84.cell? ⟨gb662,0,none⟩=some (.int .i64 a1_0):=(zJ BK662.out 0).trans rfl;have hcz87_1:w84.cell? ⟨gb662,1,none⟩=some (.int .i64 a1_1):=(zJ BK662.out 1).trans rfl;have hcz87_2:w84.cell? ⟨gb662,2,none⟩=some (.int .i64 a1_2):=(zJ BK662.out 2).trans rfl;have hfz87_0:=zI BK662.out 0;have hfz87_1:=zI BK662.out 1;have hfz87_2:=zI BK662.out 2;have hnb88:=NB661_663.out;have hnc88:=NB663_661.out;have hcz89_0:w84.cell? ⟨gb661,0,none⟩=some (.slice A0_0 l0_0.length c0_0):=(zJ BK661.out 0).trans rfl;have hcz89_1:w84.cell? ⟨gb661,1,none⟩=some (.slice A0_1 l0_1.length c0_1):=(zJ BK661.out 1).trans rfl;have hcz89_2:w84.cell? ⟨gb661,2,none⟩=some (.slice A0_2 l0_2.length c0_2):=(zJ BK661.out 2).trans rfl;have hfz89_0:=zI BK661.out 0;have hfz89_1:=zI BK661.out 1;have hfz89_2:=zI BK661.out 2)|((with_reducible refine yD (f:=29) rfl ?_);refine yM (some 44) rfl rfl Tryd.func29 (by kernel_rfl) rfl #[.agg #[.slice A0_0 l0_0.length c0_0,.slice A0_1 l0_1.length c0_1,.slice A0_2 l0_2.length c0_2]] rfl (by (try simp only [List.map_toArray,List.map_cons,List.map_nil]);first|done|rfl|(simp only [List.length_drop,List.length_take];rfl)) ?_;(with_reducible refine (signal_Exec.calls _ _ l0_0 _ _ l0_1 _ _ l0_2 t705 t708 t711 _ ?side1 ?side2 ?side3 ?side4 ?side5 ?side6 A81.out).mono ?_);(case side1=>repeat (first|exact (yH HO0_0.out).2.2|(with_reducible refine yG ?_ _)|(with_reducible refine yF ?_ _)|(with_reducible refine yI ?_)));(case side2=>exact (yH HO0_0.out).2.1);(case side3=>repeat (first|exact (yH HO0_1.out).2.2|(with_reducible refine yG ?_ _)|(with_reducible refine yF ?_ _)|(with_reducible refine yI ?_)));(case side4=>exact (yH HO0_1.out).2.1);(case side5=>repeat (first|exact (yH HO0_2.out).2.2|(with_reducible refine yG ?_ _)|(with_reducible refine yF ?_ _)|(with_reducible refine yI ?_)));(case side6=>exact (yH HO0_2.out).2.1);rintro e w90 ⟨v706,v709,v712,rfl,ho0,ho1,ho2,hb⟩;refine ⟨_,rfl,?_⟩;have n0_:=Zk (zO (yO (yO (yO (V_old (by (with_reducible repeat (first|apply zL|apply zK|apply zM));exact HO0_0.out) hb) (zZ ho0)) (zZ ho1)) (zZ ho2)) (fun _ h_=>h_.1));have n1_:=Zk (zO (yO (yO (yO (V_old (by (with_reducible repeat (first|apply zL|apply zK|apply zM));exact HO0_1.out) hb) (zZ ho0)) (zZ ho1)) (zZ ho2)) (fun _ h_=>h_.1));have n2_:=Zk (zO (yO (yO (yO (V_old (by (with_reducible repeat (first|apply zL|apply zK|apply zM));exact HO0_2.out) hb) (zZ ho0)) (zZ ho1)) (zZ ho2)) (fun _ h_=>h_.1));have n3_:=Zk (yU (R_newM (M:=fun k_=>(w.heap.size≤k_)) ho0 (zP (by repeat (first|(with_reducible first|exact HB.out|apply zG|apply zD|apply zH|refine zC ?_ GE661.out|refine zC ?_ GE662.out|refine zC ?_ GE663.out)|exact HB.out))) (fun k_ h_=>h_)) (zP (by repeat (first|(with_reducible first|exact HB.out|apply zG|apply zD|apply zH|refine zC ?_ GE661.out|refine zC ?_ GE662.out|refine zC ?_ GE663.out)|exact HB.out))));have n4_:=Zk (yU (R_newM (M:=fun k_=>(w.heap.size≤k_)) ho1 (zP (by repeat (first|(with_reducible first|exact HB.out|apply zG|apply zD|apply zH|refine zC ?_ GE661.out|refine zC ?_ GE662.out|refine zC ?_ GE663.out)|exact HB.out))) (fun k_ h_=>h_)) (zP (by repeat (first|(with_reducible first|exact HB.out|apply zG|apply zD|apply zH|refine zC ?_ GE661.out|refine zC ?_ GE662.out|refine zC ?_ GE663.out)|exact HB.out))));have n5_:=Zk (yU (R_newM (M:=fun k_=>(w.heap.size≤k_)) ho2 (zP (by repeat (first|(with_reducible first|exact HB.out|apply zG|apply zD|apply zH|refine zC ?_ GE661.out|refine zC ?_ GE662.out|refine zC ?_ GE663.out)|exact HB.out))) (fun k_ h_=>h_)) (zP (by repeat (first|(with_reducible first|exact HB.out|apply zG|apply zD|apply zH|refine zC ?_ GE661.out|refine zC ?_ GE662.out|refine zC ?_ GE663.out)|exact HB.out))));have n6_:=Zk (zW (g:=gb661) (o:=.cells #[.slice A0_0 l0_0.length c0_0,.slice A0_1 l0_1.length c0_1,.slice A0_2 l0_2.length c0_2] 30 (0,0)) (by (with_reducible repeat (first|refine zB ?_ _|refine zF ?_|refine zA ?_ _));exact BK661.out) hb);have n7_:=Zk (zW (g:=gb662) (o:=.cells #[.int .i64 a1_0,.int .i64 a1_1,.int .i64 a1_2] 51 (0,0)) (by (with_reducible repeat (first|refine zB ?_ _|refine zF ?_|refine zA ?_ _));exact BK662.out) hb);have n8_:=Zk (zW (g:=gb663) (o:=.cells #[.slice none 0 0,.slice none 0 0,.slice none 0 0] 30 (0,0)) (by (with_reducible repeat (first|refine zB ?_ _|refine zF ?_|refine zA ?_ _));exact BK663.out) hb);have n9_:=Zk (yA (by repeat (first|(with_reducible first|exact HB.out|apply zG|apply zD|apply zH|refine zC ?_ GE661.out|refine zC ?_ GE662.out|refine zC ?_ GE663.out)|exact HB.out)) hb);clear HO0_0;clear HO0_1;clear HO0_2;clear BK661;clear BK662;clear BK663;clear HB;have HO0_0:=n0_;have HO0_1:=n1_;have HO0_2:=n2_;have HO707:=n3_;have HO710:=n4_;have HO713:=n5_;have BK661:=n6_;have BK662:=n7_;have BK663:=n8_;have HB:=n9_;clear n0_ n1_ n2_ n3_ n4_ n5_ n6_ n7_ n8_ n9_;(try clear hb);(try clear hb2);(try clear hk);(try clear hi);(try clear ho0);(try clear ho1);(try clear ho2);obtain ⟨Ao91,co91,eo91⟩:=yQ HO707.out;subst eo91;have hcz92_0:w90.cell? ⟨gb663,0,none⟩=some (.slice none 0 0):=(zJ BK663.out 0).trans rfl;have hcz92_1:w90.cell? ⟨gb663,1,none⟩=some (.slice none 0 0):=(zJ BK663.out 1).trans rfl;have hcz92_2:w90.cell? ⟨gb663,2,none⟩=some (.slice none 0 0):=(zJ BK663.out 2).trans rfl;have hfz92_0:=zI BK663.out 0;have hfz92_1:=zI BK663.out 1;have hfz92_2:=zI BK663.out 2;obtain ⟨Ao93,co93,eo93⟩:=yQ HO710.out;subst eo93;obtain ⟨Ao94,co94,eo94⟩:=yQ HO713.out;subst eo94)|((with_reducible refine xA (t:=30) (p:=4) rfl ?_);refine yY (t:=30) (p:=4) (v:=?vo_w95) (w1:=(((w90.setCell ⟨gb663,0,none⟩ (.slice Ao91 t705.length co91)).setCell ⟨gb663,1,none⟩ (.slice Ao93 t708.length co93)).setCell ⟨gb663,2,none⟩ (.slice Ao94 t711.length co94))) ?hg ?ho ?hn ?hr ?_;(case ho=>rfl);(case hg=>rfl);(case hn=>rfl);(case hr=>first|(go_simp;done)|(go_simp;rfl));intro w95 hw;have n0_:zN (Kd.V (Kd.int .i64) 3 w95 w.heap.size (fun k_=>((P0_0_ k_∨P0_1_ k_∨P0_2_ k_)∨w.heap.size≤k_)∧some k_≠(.slice Ao91 t705.length co91:Value).ownBlock∧some k_≠(.slice Ao93 t708.length co93:Value).ownBlock∧some k_≠(.slice Ao94 t711.length co94:Value).ownBlock∧k_≠gb661∧k_≠gb662∧k_≠gb663) (.slice A0_0 l0_0.length c0_0) l0_0):=⟨(by rw [hw];exact (by (with_reducible repeat (first|apply zL|apply zK|apply zM));exact zO (zS (p:=⟨gb663,2,none⟩) (zS (p:=⟨gb663,1,none⟩) (zS (p:=⟨gb663,0,none⟩) (zO HO0_0.out (fun k_ hk=>(⟨hk,hk.1.1.1.2⟩:_∧k_≠gb663))) (fun _ hk=>hk.2) (.slice Ao91 t705.length co91)) (fun _ hk=>hk.2) (.slice Ao93 t708.length co93)) (fun _ hk=>hk.2) (.slice Ao94 t711.length co94)) (fun _ hk=>⟨hk.1.1.1.1.1.1.1,⟨hk.1.1.1.2,⟨hk.1.1.2,⟨hk.1.2,⟨hk.1.1.1.1.1.1.2,⟨hk.1.1.1.1.1.2,hk.1.1.1.1.2⟩⟩⟩⟩⟩⟩)))⟩;have n1_:zN (Kd.V (Kd.int .i64) 3 w95 w.heap.size (fun k_=>((P0_0_ k_∨P0_1_ k_∨P0_2_ k_)∨w.heap.size≤k_)∧some k_≠(.slice Ao91 t705.length co91:Value).ownBlock∧some k_≠(.slice Ao93 t708.length co93:Value).ownBlock∧some k_≠(.slice Ao94 t711.length co94:Value).ownBlock∧k_≠gb661∧k_≠gb662∧k_≠gb663) (.slice A0_1 l0_1.length c0_1) l0_1):=⟨(by rw [hw];exact (by (with_reducible repeat (first|apply zL|apply zK|apply zM));exact zO (zS (p:=⟨gb663,2,none⟩) (zS (p:=⟨gb663,1,none⟩) (zS (p:=⟨gb663,0,none⟩) (zO HO0_1.out (fun k_ hk=>(⟨hk,hk.1.1.1.2⟩:_∧k_≠gb663))) (fun _ hk=>hk.2) (.slice Ao91 t705.length co91)) (fun _ hk=>hk.2) (.slice Ao93 t708.length co93)) (fun _ hk=>hk.2) (.slice Ao94 t711.length co94)) (fun _ hk=>⟨hk.1.1.1.1.1.1.1,⟨hk.1.1.1.2,⟨hk.1.1.2,⟨hk.1.2,⟨hk.1.1.1.1.1.1.2,⟨hk.1.1.1.1.1.2,hk.1.1.1.1.2⟩⟩⟩⟩⟩⟩)))⟩;have n2_:zN (Kd.V (Kd.int .i64) 3 w95 w.heap.size (fun k_=>((P0_0_ k_∨P0_1_ k_∨P0_2_ k_)∨w.heap.size≤k_)∧some k_≠(.slice Ao91 t705.length co91:Value).ownBlock∧some k_≠(.slice Ao93 t708.length co93:Value).ownBlock∧some k_≠(.slice Ao94 t711.length co94:Value).ownBlock∧k_≠gb661∧k_≠gb662∧k_≠gb663) (.slice A0_2 l0_2.length c0_2) l0_2):=⟨(by rw [hw];exact (by (with_reducible repeat (first|apply zL|apply zK|apply zM));exact zO (zS (p:=⟨gb663,2,none⟩) (zS (p:=⟨gb663,1,none⟩) (zS (p:=⟨gb663,0,none⟩) (zO HO0_2.out (fun k_ hk=>(⟨hk,hk.1.1.1.2⟩:_∧k_≠gb663))) (fun _ hk=>hk.2) (.slice Ao91 t705.length co91)) (fun _ hk=>hk.2) (.slice Ao93 t708.length co93)) (fun _ hk=>hk.2) (.slice Ao94 t711.length co94)) (fun _ hk=>⟨hk.1.1.1.1.1.1.1,⟨hk.1.1.1.2,⟨hk.1.1.2,⟨hk.1.2,⟨hk.1.1.1.1.1.1.2,⟨hk.1.1.1.1.1.2,hk.1.1.1.1.2⟩⟩⟩⟩⟩⟩)))⟩;have n3_:zN (Kd.R (Kd.int .i64) 3 w95 w.heap.size (fun k_=>(w.heap.size≤k_)∧some k_≠(.slice Ao93 t708.length co93:Value).ownBlock∧some k_≠(.slice Ao94 t711.length co94:Value).ownBlock) (.slice Ao91 t705.length co91) t705):=⟨(by rw [hw];exact (by (with_reducible repeat (first|apply zR|apply zQ|apply zU));exact yB (zT (p:=⟨gb663,2,none⟩) (zT (p:=⟨gb663,1,none⟩) (zT (p:=⟨gb663,0,none⟩) (zX HO707.out BK663.out (by decide)) (fun _ hk=>hk.2) (.slice Ao91 t705.length co91)) (fun _ hk=>hk.2) (.slice Ao93 t708.length co93)) (fun _ hk=>hk.2) (.slice Ao94 t711.length co94)) (fun _ hk=>⟨hk.1.1,⟨hk.1.2.1,hk.1.2.2⟩⟩)))⟩;have n4_:zN (Kd.R (Kd.int .i64) 3 w95 w.heap.size (fun k_=>(w.heap.size≤k_)∧some k_≠(.slice Ao91 t705.length co91:Value).ownBlock∧some k_≠(.slice Ao94 t711.length co94:Value).ownBlock) (.slice Ao93 t708.length co93) t708):=⟨(by rw [hw];exact (by (with_reducible repeat (first|apply zR|apply zQ|apply zU));exact yB (zT (p:=⟨gb663,2,none⟩) (zT (p:=⟨gb663,1,none⟩) (zT (p:=⟨gb663,0,none⟩) (zX HO710.out BK663.out (by decide)) (fun _ hk=>hk.2) (.slice Ao91 t705.length co91)) (fun _ hk=>hk.2) (.slice Ao93 t708.length co93)) (fun _ hk=>hk.2) (.slice Ao94 t711.length co94)) (fun _ hk=>⟨hk.1.1,⟨hk.1.2.1,hk.1.2.2⟩⟩)))⟩;have n5_:zN (Kd.R (Kd.int .i64) 3 w95 w.heap.size (fun k_=>(w.heap.size≤k_)∧some k_≠(.slice Ao91 t705.length co91:Value).ownBlock∧some k_≠(.slice Ao93 t708.length co93:Value).ownBlock) (.slice Ao94 t711.length co94) t711):=⟨(by rw [hw];exact (by (with_reducible repeat (first|apply zR|apply zQ|apply zU));exact yB (zT (p:=⟨gb663,2,none⟩) (zT (p:=⟨gb663,1,none⟩) (zT (p:=⟨gb663,0,none⟩) (zX HO713.out BK663.out (by decide)) (fun _ hk=>hk.2) (.slice Ao91 t705.length co91)) (fun _ hk=>hk.2) (.slice Ao93 t708.length co93)) (fun _ hk=>hk.2) (.slice Ao94 t711.length co94)) (fun _ hk=>⟨hk.1.1,⟨hk.1.2.1,hk.1.2.2⟩⟩)))⟩;have n6_:zN (w95.heap[gb661]?=some (.cells #[.slice A0_0 l0_0.length c0_0,.slice A0_1 l0_1.length c0_1,.slice A0_2 l0_2.length c0_2] 30 (0,0))):=⟨(by rw [hw];exact (by (with_reducible repeat (first|refine zB ?_ _|refine zF ?_|refine zA ?_ _));refine zY ?_ NB661_663.out _;(with_reducible repeat (first|refine zB ?_ _|refine zF ?_|refine zA ?_ _));refine zY ?_ NB661_663.out _;(with_reducible repeat (first|refine zB ?_ _|refine zF ?_|refine zA ?_ _));refine zY ?_ NB661_663.out _;(with_reducible repeat (first|refine zB ?_ _|refine zF ?_|refine zA ?_ _));exact BK661.out))⟩;have n7_:zN (w95.heap[gb662]?=some (.cells #[.int .i64 a1_0,.int .i64 a1_1,.int .i64 a1_2] 51 (0,0))):=⟨(by rw [hw];exact (by (with_reducible repeat (first|refine zB ?_ _|refine zF ?_|refine zA ?_ _));refine zY ?_ NB662_663.out _;(with_reducible repeat (first|refine zB ?_ _|refine zF ?_|refine zA ?_ _));refine zY ?_ NB662_663.out _;(with_reducible repeat (first|refine zB ?_ _|refine zF ?_|refine zA ?_ _));refine zY ?_ NB662_663.out _;(with_reducible repeat (first|refine zB ?_ _|refine zF ?_|refine zA ?_ _));exact BK662.out))⟩;have n8_:zN (w95.heap[gb663]?=some (.cells #[.slice Ao91 t705.length co91,.slice Ao93 t708.length co93,.slice Ao94 t711.length co94] 30 (0,0))):=⟨(by rw [hw];exact (by (with_reducible repeat (first|refine zB ?_ _|refine zF ?_|refine zA ?_ _));refine yE (cs:=#[.slice Ao91 t705.length co91,.slice Ao93 t708.length co93,.slice none 0 0]) ?_ 2 _ rfl;(with_reducible repeat (first|refine zB ?_ _|refine zF ?_|refine zA ?_ _));refine yE (cs:=#[.slice Ao91 t705.length co91,.slice none 0 0,.slice none 0 0]) ?_ 1 _ rfl;(with_reducible repeat (first|refine zB ?_ _|refine zF ?_|refine zA ?_ _));refine yE (cs:=#[.slice none 0 0,.slice none 0 0,.slice none 0 0]) ?_ 0 _ rfl;(with_reducible repeat (first|refine zB ?_ _|refine zF ?_|refine zA ?_ _));exact BK663.out))⟩;have n9_:zN (Below w.heap.size w w95):=⟨(by rw [hw];exact (by repeat (first|(with_reducible first|exact HB.out|apply zG|apply zD|apply zH|refine zC ?_ GE661.out|refine zC ?_ GE662.out|refine zC ?_ GE663.out)|exact HB.out)))⟩;clear hw;clear HO0_0;clear HO0_1;clear HO0_2;clear HO707;clear HO710;clear HO713;clear BK661;clear BK662;clear BK663;clear HB;have HO0_0:=n0_;have HO0_1:=n1_;have HO0_2:=n2_;have HO707:=n3_;have HO710:=n4_;have HO713:=n5_;have BK661:=n6_;have BK662:=n7_;have BK663:=n8_;have HB:=n9_;clear n0_ n1_ n2_ n3_ n4_ n5_ n6_ n7_ n8_ n9_))
     refine bodyPost_ret (results_cell_row rfl _ _ gb663 30 #[.slice Ao91 t705.length co91,.slice Ao93 t708.length co93,.slice Ao94 t711.length co94] (0,0) _ rfl (by (with_reducible repeat (first|refine zB ?_ _|refine zF ?_|refine zA ?_ _));exact BK663.out) Tryd.underlying30 rfl (by kernel_rfl)) rfl ?_
     exact ⟨_,_,_,by first|rfl|(simp [errW_none,errW_some] <;> rfl)|(simp [*,errW_none,errW_some] <;> rfl),zO (R_V (by (with_reducible repeat (first|apply zR|apply zQ|apply zU));exact yB HO707.out (fun _ hk=>hk.1))) (fun k_ hk=>by first|exact ⟨(.inr (hk.1)),hk.2⟩|exact (.inr (hk))),zO (R_V (by (with_reducible repeat (first|apply zR|apply zQ|apply zU));exact yB HO710.out (fun _ hk=>hk.1))) (fun k_ hk=>by first|exact ⟨(.inr (hk.1)),hk.2⟩|exact (.inr (hk))),zO (R_V (by (with_reducible repeat (first|apply zR|apply zQ|apply zU));exact yB HO713.out (fun _ hk=>hk.1))) (fun k_ hk=>by first|exact ⟨(.inr (hk.1)),hk.2⟩|exact (.inr (hk))),by repeat (first|(with_reducible first|exact HB.out|apply zG|apply zD|apply zH|refine zC ?_ GE661.out|refine zC ?_ GE662.out|refine zC ?_ GE663.out)|exact HB.out)⟩
end Go.Proofs.YtnkkdpjipfjdaaaDoor.Q
end
section

namespace Go.Proofs.YtnkkdpjipfjdaaaDoor.Q
open Go.RowKit Go.Proofs.YtnkkdpjipfjdaaaDoorW.PrintWords Go.Proofs.YtnkkdpjipfjdaaaDoorW.PrintLast Go.Proofs.YtnkkdpjipfjdaaaDoorW.PrintMore Go.Proofs.YtnkkdpjipfjdaaaDoorM
open Kd
attribute [local go_sem] max2_int min2_int max_two min_two max_three min_three max_four min_four
set_option linter.unusedVariables false
set_option linter.unusedSimpArgs false
mutual
def jobshelllaw25_SignalStays.j0:Nat→List (S51)→Bool→List Int→List Int→List Int→Option (Bool)
 |0,_,_,_,_,_=>none
 |k + 1,x1,x18,x715000,x715001,x715002=>if x18=true then ((jobshelllaw25_awake.f k).bind fun t717=>(some t717)) else (jobshelllaw25_SignalStays.l0 k x1 0 x715000 x715001 x715002)
def jobshelllaw25_SignalStays.l0:Nat→List (S51)→Int→List Int→List Int→List Int→Option (Bool)
 |0,_,_,_,_,_=>none
 |k + 1,x1,x5,x715000,x715001,x715002=>if x5 < (x1.length:Int) then (if 0≤x5 then ((jobshelllaw25_play.f k x715000 x715001 x715002 ((rd_T51 x1 x5).f0) ((rd_T51 x1 x5).f1) ((rd_T51 x1 x5).f2)).bind fun bt720=>((signal_Valid.f k bt720.1 bt720.2.1 bt720.2.2).bind fun t729=>(if t729=0 then (jobshelllaw25_SignalStays.l0 k x1 (wrap64 (x5 + 1)) bt720.1 bt720.2.1 bt720.2.2) else (none)))) else (none)) else ((jobshelllaw25_awake.f k).bind fun t718=>(some t718))
end
def jobshelllaw25_SignalStays.f (k:Nat) (l0_0:List Int) (l0_1:List Int) (l0_2:List Int) (l1:List (S51)):Option (Bool):=(jobshelllaw25_short.f l0_0 l0_1 l0_2).bind fun t715=>(if t715=true then ((jobshellref25_Valid.f k l0_0 l0_1 l0_2).bind fun t716=>(if t716=0 then (jobshelllaw25_SignalStays.j0 k l1 (decide ((l1.length:Int) > 60)) l0_0 l0_1 l0_2) else (jobshelllaw25_SignalStays.j0 k l1 true l0_0 l0_1 l0_2))) else (jobshelllaw25_SignalStays.j0 k l1 true l0_0 l0_1 l0_2))
theorem jobshelllaw25_SignalStays.mono_l:∀ k,(∀ y0 y1 y2 y3 y4,LeO (jobshelllaw25_SignalStays.j0 k y0 y1 y2 y3 y4) (jobshelllaw25_SignalStays.j0 (k + 1) y0 y1 y2 y3 y4))∧(∀ y0 y1 y2 y3 y4,LeO (jobshelllaw25_SignalStays.l0 k y0 y1 y2 y3 y4) (jobshelllaw25_SignalStays.l0 (k + 1) y0 y1 y2 y3 y4))
 |0=>⟨fun _ _ _ _ _ r h=>by simp [jobshelllaw25_SignalStays.j0] at h,fun _ _ _ _ _ r h=>by simp [jobshelllaw25_SignalStays.l0] at h⟩
 |k + 1=>by
  obtain ⟨ih0,ih1⟩:=jobshelllaw25_SignalStays.mono_l k
  refine ⟨?_,?_⟩
  ·intro y0 y1 y2 y3 y4
   unfold jobshelllaw25_SignalStays.j0
   repeat' first
   |(with_reducible exact ih0 _ _ _ _ _)
   |(with_reducible exact ih1 _ _ _ _ _)
   |(with_reducible exact jobshelllaw25_awake.mono _)
   |(with_reducible exact jobshelllaw25_play.mono _ _ _ _ _ _ _)
   |(with_reducible exact jobshellref25_Valid.mono _ _ _ _)
   |(with_reducible exact signal_Valid.mono _ _ _ _)
   |(with_reducible exact LeO.refl _)
   |(with_reducible exact LeO.none _)
   |(with_reducible refine LeO.ite ?_ ?_)
   |(with_reducible refine LeO.bind ?_ (fun _=>?_))
   |exact ih0 _ _ _ _ _
   |exact ih1 _ _ _ _ _
   |exact jobshelllaw25_awake.mono _
   |exact jobshelllaw25_play.mono _ _ _ _ _ _ _
   |exact jobshellref25_Valid.mono _ _ _ _
   |exact signal_Valid.mono _ _ _ _
   |exact LeO.none _
   |refine LeO.ite ?_ ?_
   |refine LeO.bind ?_ (fun _=>?_)
  ·intro y0 y1 y2 y3 y4
   unfold jobshelllaw25_SignalStays.l0
   repeat' first
   |(with_reducible exact ih0 _ _ _ _ _)
   |(with_reducible exact ih1 _ _ _ _ _)
   |(with_reducible exact jobshelllaw25_awake.mono _)
   |(with_reducible exact jobshelllaw25_play.mono _ _ _ _ _ _ _)
   |(with_reducible exact jobshellref25_Valid.mono _ _ _ _)
   |(with_reducible exact signal_Valid.mono _ _ _ _)
   |(with_reducible exact LeO.refl _)
   |(with_reducible exact LeO.none _)
   |(with_reducible refine LeO.ite ?_ ?_)
   |(with_reducible refine LeO.bind ?_ (fun _=>?_))
   |exact ih0 _ _ _ _ _
   |exact ih1 _ _ _ _ _
   |exact jobshelllaw25_awake.mono _
   |exact jobshelllaw25_play.mono _ _ _ _ _ _ _
   |exact jobshellref25_Valid.mono _ _ _ _
   |exact signal_Valid.mono _ _ _ _
   |exact LeO.none _
   |refine LeO.ite ?_ ?_
   |refine LeO.bind ?_ (fun _=>?_)
theorem jobshelllaw25_SignalStays.mono:∀ a0 a1 a2 a3 k,LeO (jobshelllaw25_SignalStays.f k a0 a1 a2 a3) (jobshelllaw25_SignalStays.f (k + 1) a0 a1 a2 a3):=by
 intro a0 a1 a2 a3 k
 obtain ⟨ih0,ih1⟩:=jobshelllaw25_SignalStays.mono_l k
 unfold jobshelllaw25_SignalStays.f
 repeat' first
   |(with_reducible exact ih0 _ _ _ _ _)
   |(with_reducible exact ih1 _ _ _ _ _)
   |(with_reducible exact jobshelllaw25_awake.mono _)
   |(with_reducible exact jobshelllaw25_play.mono _ _ _ _ _ _ _)
   |(with_reducible exact jobshellref25_Valid.mono _ _ _ _)
   |(with_reducible exact signal_Valid.mono _ _ _ _)
   |(with_reducible exact LeO.refl _)
   |(with_reducible exact LeO.none _)
   |(with_reducible refine LeO.ite ?_ ?_)
   |(with_reducible refine LeO.bind ?_ (fun _=>?_))
   |exact ih0 _ _ _ _ _
   |exact ih1 _ _ _ _ _
   |exact jobshelllaw25_awake.mono _
   |exact jobshelllaw25_play.mono _ _ _ _ _ _ _
   |exact jobshellref25_Valid.mono _ _ _ _
   |exact signal_Valid.mono _ _ _ _
   |exact LeO.none _
   |refine LeO.ite ?_ ?_
   |refine LeO.bind ?_ (fun _=>?_)
set_option maxHeartbeats 8000000 in
set_option maxRecDepth 10000000 in
theorem jobshelllaw25_SignalStays.calls (k:Nat) (P0_0_:Nat→Prop) (A0_0:Option Addr) (c0_0:Nat) (l0_0:List Int) (P0_1_:Nat→Prop) (A0_1:Option Addr) (c0_1:Nat) (l0_1:List Int) (P0_2_:Nat→Prop) (A0_2:Option Addr) (c0_2:Nat) (l0_2:List Int) (A1:Option Addr) (c1:Nat) (l1:List (S51)) (r:Bool) (w:World) (hs0_0:Kd.V (Kd.int .i64) 3 w w.heap.size (fun k_=>P0_0_ k_) (.slice A0_0 l0_0.length c0_0) l0_0) (hs0_1:Kd.V (Kd.int .i64) 3 w w.heap.size (fun k_=>P0_1_ k_) (.slice A0_1 l0_1.length c0_1) l0_1) (hs0_2:Kd.V (Kd.int .i64) 3 w w.heap.size (fun k_=>P0_2_ k_) (.slice A0_2 l0_2.length c0_2) l0_2) (hr1:Kd.C k51 w A1 l1.length l1) (hc1:l1.length≤c1) (h:jobshelllaw25_SignalStays.f k l0_0 l0_1 l0_2 l1=some r) :
  Calls Tryd.prog 9 #[.agg #[.slice A0_0 l0_0.length c0_0,.slice A0_1 l0_1.length c0_1,.slice A0_2 l0_2.length c0_2],.slice A1 l1.length c1] w fun e w'=>e=.returned (.bool r)∧Below w.heap.size w w':=by
 have hu30:=Tryd.underlying30
 have hu51:=Tryd.underlying51
 have HO0_0:=Zk (show Kd.V (Kd.int .i64) 3 w w.heap.size (fun k_=>((P0_0_ k_∨P0_1_ k_∨P0_2_ k_)∨w.heap.size≤k_)) (.slice A0_0 l0_0.length c0_0) l0_0 from zO hs0_0 (fun k_ hk=>.inl (.inl hk)))
 have HO0_1:=Zk (show Kd.V (Kd.int .i64) 3 w w.heap.size (fun k_=>((P0_0_ k_∨P0_1_ k_∨P0_2_ k_)∨w.heap.size≤k_)) (.slice A0_1 l0_1.length c0_1) l0_1 from zO hs0_1 (fun k_ hk=>.inl (.inr (.inl hk))))
 have HO0_2:=Zk (show Kd.V (Kd.int .i64) 3 w w.heap.size (fun k_=>((P0_0_ k_∨P0_1_ k_∨P0_2_ k_)∨w.heap.size≤k_)) (.slice A0_2 l0_2.length c0_2) l0_2 from zO hs0_2 (fun k_ hk=>.inl (.inr (.inr hk))))
 have HR1:=Zk hr1
 have HC1:=Zk hc1
 clear hr1 hc1
 have HB:=Zk (Below.refl w.heap.size w)
 have H:((jobshelllaw25_short.f l0_0 l0_1 l0_2).bind fun t715=>(if t715=true then ((jobshellref25_Valid.f k l0_0 l0_1 l0_2).bind fun t716=>(if t716=0 then (jobshelllaw25_SignalStays.j0 k l1 (decide ((l1.length:Int) > 60)) l0_0 l0_1 l0_2) else (jobshelllaw25_SignalStays.j0 k l1 true l0_0 l0_1 l0_2))) else (jobshelllaw25_SignalStays.j0 k l1 true l0_0 l0_1 l0_2)))=some r:=h
 clear h
 have HC3:=Zk H
 clear H
 go_enter Tryd.func9,Tryd.ntmps9
 go_upto_region 1 with (first|((with_reducible refine yT (N:=2) rfl ?_);(try (refine gate_guard (by rfl) ?_;dsimp only));refine yV ?hg (N:=2) ?hd (cs:=#[.slice A0_0 l0_0.length c0_0,.slice A0_1 l0_1.length c0_1,.slice A0_2 l0_2.length c0_2]) (t:=30) ?hr ?_;(case hd=>rfl);(case hg=>rfl);(case hr=>first|(go_simp;done)|(go_simp;rfl));intro gb714 hg w4 hbox hb;have n0_:=Zk (zV (yC (by (with_reducible repeat (first|apply zL|apply zK|apply zM));exact HO0_0.out) gb714 (Nat.le_of_eq hg.symm)) hb);have n1_:=Zk (zV (yC (by (with_reducible repeat (first|apply zL|apply zK|apply zM));exact HO0_1.out) gb714 (Nat.le_of_eq hg.symm)) hb);have n2_:=Zk (zV (yC (by (with_reducible repeat (first|apply zL|apply zK|apply zM));exact HO0_2.out) gb714 (Nat.le_of_eq hg.symm)) hb);have n3_:=Zk (yA (by repeat (first|(with_reducible first|exact HB.out|apply zG|apply zD|apply zH)|exact HB.out)) hb);have n4_:=Zk (hbox);have n5_:=Zk ((by rw [hg];exact (zP (by repeat (first|(with_reducible first|exact HB.out|apply zG|apply zD|apply zH)|exact HB.out))):w.heap.size≤gb714));have n6_:=Zk ((by rw [hg];exact (zP (by repeat (first|(with_reducible first|exact HB.out|apply zG|apply zD|apply zH)|exact HB.out))):w.heap.size≤gb714));clear HO0_0;clear HO0_1;clear HO0_2;clear HB;have HO0_0:=n0_;have HO0_1:=n1_;have HO0_2:=n2_;have HB:=n3_;have BK714:=n4_;have GW714:=n5_;have GE714:=n6_;clear n0_ n1_ n2_ n3_ n4_ n5_ n6_;clear hb hbox hg))
 (try simp only [Act.put,List.setIfInBounds_toArray,List.set_cons_zero,List.set_cons_succ])
 go_cut [18] (fun v18 wc=>∃ (kq:Nat) (x18_2:Bool),v18=.bool x18_2∧zN (jobshelllaw25_SignalStays.j0 kq l1 x18_2 l0_0 l0_1 l0_2=some r)∧zN (kq≤k)∧zN (Kd.V (Kd.int .i64) 3 wc w.heap.size (fun k_=>((P0_0_ k_∨P0_1_ k_∨P0_2_ k_)∨w.heap.size≤k_)∧k_≠gb714) (.slice A0_0 l0_0.length c0_0) l0_0)∧zN (Kd.V (Kd.int .i64) 3 wc w.heap.size (fun k_=>((P0_0_ k_∨P0_1_ k_∨P0_2_ k_)∨w.heap.size≤k_)∧k_≠gb714) (.slice A0_1 l0_1.length c0_1) l0_1)∧zN (Kd.V (Kd.int .i64) 3 wc w.heap.size (fun k_=>((P0_0_ k_∨P0_1_ k_∨P0_2_ k_)∨w.heap.size≤k_)∧k_≠gb714) (.slice A0_2 l0_2.length c0_2) l0_2)∧zN (wc.heap[gb714]?=some (.cells #[(.slice A0_0 l0_0.length c0_0),(.slice A0_1 l0_1.length c0_1),(.slice A0_2 l0_2.length c0_2)] 30 (0,0)))∧zN (Below w.heap.size w wc))
 case first=>
  have H:=HC3.out
  clear HC3
  replace H:=Option.bind_eq_some_iff.mp H
  obtain ⟨t715,A50,H⟩:=H
  replace H:(if t715=true then ((jobshellref25_Valid.f k l0_0 l0_1 l0_2).bind fun t716=>(if t716=0 then (jobshelllaw25_SignalStays.j0 k l1 (decide ((l1.length:Int) > 60)) l0_0 l0_1 l0_2) else (jobshelllaw25_SignalStays.j0 k l1 true l0_0 l0_1 l0_2))) else (jobshelllaw25_SignalStays.j0 k l1 true l0_0 l0_1 l0_2))=some r:=H
  have A5:=Zk A50
  clear A50
  by_cases c6:t715=true
  ·subst c6
   have H1:((jobshellref25_Valid.f k l0_0 l0_1 l0_2).bind fun t716=>(if t716=0 then (jobshelllaw25_SignalStays.j0 k l1 (decide ((l1.length:Int) > 60)) l0_0 l0_1 l0_2) else (jobshelllaw25_SignalStays.j0 k l1 true l0_0 l0_1 l0_2)))=some r:=by rw [if_pos rfl] at H;exact H
   clear H
   have H:=H1
   clear H1
   replace H:=Option.bind_eq_some_iff.mp H
   obtain ⟨t716,A70,H⟩:=H
   replace H:(if t716=0 then (jobshelllaw25_SignalStays.j0 k l1 (decide ((l1.length:Int) > 60)) l0_0 l0_1 l0_2) else (jobshelllaw25_SignalStays.j0 k l1 true l0_0 l0_1 l0_2))=some r:=H
   have A7:=Zk A70
   clear A70
   by_cases c8:t716=0
   ·rw [if_pos c8] at H
    have c8b0:(t716 == 0)=true:=beq_iff_eq.mpr c8
    have c8b1:(t716 != 0)=false:=bne_eq_false_iff_eq.mpr c8
    clear c8
    (first|rw [c8b0]|(simp only [yX,i32_w];rw [c8b0])|skip)
    have H':=Zk H
    clear H
    have hcz9_0:w4.cell? ⟨gb714,0,none⟩=some (.slice A0_0 l0_0.length c0_0):=(zJ BK714.out 0).trans rfl
    have hcz9_1:w4.cell? ⟨gb714,1,none⟩=some (.slice A0_1 l0_1.length c0_1):=(zJ BK714.out 1).trans rfl
    have hcz9_2:w4.cell? ⟨gb714,2,none⟩=some (.slice A0_2 l0_2.length c0_2):=(zJ BK714.out 2).trans rfl
    have hfz9_0:=zI BK714.out 0
    have hfz9_1:=zI BK714.out 1
    have hfz9_2:=zI BK714.out 2
    go_wp2_with (first|((with_reducible refine yD (f:=17) rfl ?_);refine yM (some 7) rfl rfl Tryd.func17 (by kernel_rfl) rfl #[.agg #[.slice A0_0 l0_0.length c0_0,.slice A0_1 l0_1.length c0_1,.slice A0_2 l0_2.length c0_2]] rfl (by (try simp only [List.map_toArray,List.map_cons,List.map_nil]);first|done|rfl|(simp only [List.length_drop,List.length_take];rfl)) ?_;(with_reducible refine (jobshelllaw25_short.calls _ _ l0_0 _ _ l0_1 _ _ l0_2 true _ ?side1 ?side2 ?side3 ?side4 ?side5 ?side6 A5.out).mono ?_);(case side1=>repeat (first|exact (yH HO0_0.out).2.2|(with_reducible refine yG ?_ _)|(with_reducible refine yF ?_ _)|(with_reducible refine yI ?_)));(case side2=>exact (yH HO0_0.out).2.1);(case side3=>repeat (first|exact (yH HO0_1.out).2.2|(with_reducible refine yG ?_ _)|(with_reducible refine yF ?_ _)|(with_reducible refine yI ?_)));(case side4=>exact (yH HO0_1.out).2.1);(case side5=>repeat (first|exact (yH HO0_2.out).2.2|(with_reducible refine yG ?_ _)|(with_reducible refine yF ?_ _)|(with_reducible refine yI ?_)));(case side6=>exact (yH HO0_2.out).2.1);rintro e w10 ⟨rfl,hb⟩;refine ⟨_,rfl,?_⟩;have n0_:=Zk (zV (by (with_reducible repeat (first|apply zL|apply zK|apply zM));exact HO0_0.out) hb);have n1_:=Zk (zV (by (with_reducible repeat (first|apply zL|apply zK|apply zM));exact HO0_1.out) hb);have n2_:=Zk (zV (by (with_reducible repeat (first|apply zL|apply zK|apply zM));exact HO0_2.out) hb);have n3_:=Zk (zW (g:=gb714) (o:=.cells #[.slice A0_0 l0_0.length c0_0,.slice A0_1 l0_1.length c0_1,.slice A0_2 l0_2.length c0_2] 30 (0,0)) (by (with_reducible repeat (first|refine zB ?_ _|refine zF ?_|refine zA ?_ _));exact BK714.out) hb);have n4_:=Zk (yA (by repeat (first|(with_reducible first|exact HB.out|apply zG|apply zD|apply zH|refine zC ?_ GE714.out)|exact HB.out)) hb);clear HO0_0;clear HO0_1;clear HO0_2;clear BK714;clear HB;have HO0_0:=n0_;have HO0_1:=n1_;have HO0_2:=n2_;have BK714:=n3_;have HB:=n4_;clear n0_ n1_ n2_ n3_ n4_;(try clear hb);(try clear hb2);(try clear hk);(try clear hi);have hcz11_0:w10.cell? ⟨gb714,0,none⟩=some (.slice A0_0 l0_0.length c0_0):=(zJ BK714.out 0).trans rfl;have hcz11_1:w10.cell? ⟨gb714,1,none⟩=some (.slice A0_1 l0_1.length c0_1):=(zJ BK714.out 1).trans rfl;have hcz11_2:w10.cell? ⟨gb714,2,none⟩=some (.slice A0_2 l0_2.length c0_2):=(zJ BK714.out 2).trans rfl;have hfz11_0:=zI BK714.out 0;have hfz11_1:=zI BK714.out 1;have hfz11_2:=zI BK714.out 2)|(go_at_call 18;(with_reducible refine (jobshellref25_Valid.calls k _ _ l0_0 _ _ l0_1 _ _ l0_2 t716 _ ?side1 ?side2 ?side3 ?side4 ?side5 ?side6 A7.out).mono ?_);(case side1=>repeat (first|exact (yH HO0_0.out).2.2|(with_reducible refine yG ?_ _)|(with_reducible refine yF ?_ _)|(with_reducible refine yI ?_)));(case side2=>exact (yH HO0_0.out).2.1);(case side3=>repeat (first|exact (yH HO0_1.out).2.2|(with_reducible refine yG ?_ _)|(with_reducible refine yF ?_ _)|(with_reducible refine yI ?_)));(case side4=>exact (yH HO0_1.out).2.1);(case side5=>repeat (first|exact (yH HO0_2.out).2.2|(with_reducible refine yG ?_ _)|(with_reducible refine yF ?_ _)|(with_reducible refine yI ?_)));(case side6=>exact (yH HO0_2.out).2.1);rintro e w12 ⟨rfl,hb⟩;have n0_:=Zk (zV (by (with_reducible repeat (first|apply zL|apply zK|apply zM));exact HO0_0.out) hb);have n1_:=Zk (zV (by (with_reducible repeat (first|apply zL|apply zK|apply zM));exact HO0_1.out) hb);have n2_:=Zk (zV (by (with_reducible repeat (first|apply zL|apply zK|apply zM));exact HO0_2.out) hb);have n3_:=Zk (zW (g:=gb714) (o:=.cells #[.slice A0_0 l0_0.length c0_0,.slice A0_1 l0_1.length c0_1,.slice A0_2 l0_2.length c0_2] 30 (0,0)) (by (with_reducible repeat (first|refine zB ?_ _|refine zF ?_|refine zA ?_ _));exact BK714.out) hb);have n4_:=Zk (yA (by repeat (first|(with_reducible first|exact HB.out|apply zG|apply zD|apply zH|refine zC ?_ GE714.out)|exact HB.out)) hb);clear HO0_0;clear HO0_1;clear HO0_2;clear BK714;clear HB;have HO0_0:=n0_;have HO0_1:=n1_;have HO0_2:=n2_;have BK714:=n3_;have HB:=n4_;clear n0_ n1_ n2_ n3_ n4_;(try clear hb);(try clear hb2);(try clear hk);(try clear hi)))
    go_meet
    case rel=>exact ⟨_,(decide ((l1.length:Int) > 60)),(by first|rfl|(simp;done)|(simp [*];done)|(generalize ByteArray.toList _=l_;cases l_ <;> rfl)),H',⟨by first|omega|exact Nat.le_refl _⟩,⟨by (with_reducible repeat (first|apply zL|apply zK|apply zM));exact HO0_0.out⟩,⟨by (with_reducible repeat (first|apply zL|apply zK|apply zM));exact HO0_1.out⟩,⟨by (with_reducible repeat (first|apply zL|apply zK|apply zM));exact HO0_2.out⟩,⟨by (with_reducible repeat (first|refine zB ?_ _|refine zF ?_|refine zA ?_ _));exact BK714.out⟩,⟨by repeat (first|(with_reducible first|exact HB.out|apply zG|apply zD|apply zH|refine zC ?_ GE714.out)|exact HB.out)⟩⟩
   ·rw [if_neg c8] at H
    have c8b0:(t716 == 0)=false:=beq_eq_false_iff_ne.mpr c8
    have c8b1:(t716 != 0)=true:=bne_iff_ne.mpr c8
    (first|rw [c8b0]|(simp only [yX,i32_w];rw [c8b0])|skip)
    have H':=Zk H
    clear H
    have hcz13_0:w4.cell? ⟨gb714,0,none⟩=some (.slice A0_0 l0_0.length c0_0):=(zJ BK714.out 0).trans rfl
    have hcz13_1:w4.cell? ⟨gb714,1,none⟩=some (.slice A0_1 l0_1.length c0_1):=(zJ BK714.out 1).trans rfl
    have hcz13_2:w4.cell? ⟨gb714,2,none⟩=some (.slice A0_2 l0_2.length c0_2):=(zJ BK714.out 2).trans rfl
    have hfz13_0:=zI BK714.out 0
    have hfz13_1:=zI BK714.out 1
    have hfz13_2:=zI BK714.out 2
    go_wp2_with (first|((with_reducible refine yD (f:=17) rfl ?_);refine yM (some 7) rfl rfl Tryd.func17 (by kernel_rfl) rfl #[.agg #[.slice A0_0 l0_0.length c0_0,.slice A0_1 l0_1.length c0_1,.slice A0_2 l0_2.length c0_2]] rfl (by (try simp only [List.map_toArray,List.map_cons,List.map_nil]);first|done|rfl|(simp only [List.length_drop,List.length_take];rfl)) ?_;(with_reducible refine (jobshelllaw25_short.calls _ _ l0_0 _ _ l0_1 _ _ l0_2 true _ ?side1 ?side2 ?side3 ?side4 ?side5 ?side6 A5.out).mono ?_);(case side1=>repeat (first|exact (yH HO0_0.out).2.2|(with_reducible refine yG ?_ _)|(with_reducible refine yF ?_ _)|(with_reducible refine yI ?_)));(case side2=>exact (yH HO0_0.out).2.1);(case side3=>repeat (first|exact (yH HO0_1.out).2.2|(with_reducible refine yG ?_ _)|(with_reducible refine yF ?_ _)|(with_reducible refine yI ?_)));(case side4=>exact (yH HO0_1.out).2.1);(case side5=>repeat (first|exact (yH HO0_2.out).2.2|(with_reducible refine yG ?_ _)|(with_reducible refine yF ?_ _)|(with_reducible refine yI ?_)));(case side6=>exact (yH HO0_2.out).2.1);rintro e w14 ⟨rfl,hb⟩;refine ⟨_,rfl,?_⟩;have n0_:=Zk (zV (by (with_reducible repeat (first|apply zL|apply zK|apply zM));exact HO0_0.out) hb);have n1_:=Zk (zV (by (with_reducible repeat (first|apply zL|apply zK|apply zM));exact HO0_1.out) hb);have n2_:=Zk (zV (by (with_reducible repeat (first|apply zL|apply zK|apply zM));exact HO0_2.out) hb);have n3_:=Zk (zW (g:=gb714) (o:=.cells #[.slice A0_0 l0_0.length c0_0,.slice A0_1 l0_1.length c0_1,.slice A0_2 l0_2.length c0_2] 30 (0,0)) (by (with_reducible repeat (first|refine zB ?_ _|refine zF ?_|refine zA ?_ _));exact BK714.out) hb);have n4_:=Zk (yA (by repeat (first|(with_reducible first|exact HB.out|apply zG|apply zD|apply zH|refine zC ?_ GE714.out)|exact HB.out)) hb);clear HO0_0;clear HO0_1;clear HO0_2;clear BK714;clear HB;have HO0_0:=n0_;have HO0_1:=n1_;have HO0_2:=n2_;have BK714:=n3_;have HB:=n4_;clear n0_ n1_ n2_ n3_ n4_;(try clear hb);(try clear hb2);(try clear hk);(try clear hi);have hcz15_0:w14.cell? ⟨gb714,0,none⟩=some (.slice A0_0 l0_0.length c0_0):=(zJ BK714.out 0).trans rfl;have hcz15_1:w14.cell? ⟨gb714,1,none⟩=some (.slice A0_1 l0_1.length c0_1):=(zJ BK714.out 1).trans rfl;have hcz15_2:w14.cell? ⟨gb714,2,none⟩=some (.slice A0_2 l0_2.length c0_2):=(zJ BK714.out 2).trans rfl;have hfz15_0:=zI BK714.out 0;have hfz15_1:=zI BK714.out 1;have hfz15_2:=zI BK714.out 2)|(go_at_call 18;(with_reducible refine (jobshellref25_Valid.calls k _ _ l0_0 _ _ l0_1 _ _ l0_2 t716 _ ?side1 ?side2 ?side3 ?side4 ?side5 ?side6 A7.out).mono ?_);(case side1=>repeat (first|exact (yH HO0_0.out).2.2|(with_reducible refine yG ?_ _)|(with_reducible refine yF ?_ _)|(with_reducible refine yI ?_)));(case side2=>exact (yH HO0_0.out).2.1);(case side3=>repeat (first|exact (yH HO0_1.out).2.2|(with_reducible refine yG ?_ _)|(with_reducible refine yF ?_ _)|(with_reducible refine yI ?_)));(case side4=>exact (yH HO0_1.out).2.1);(case side5=>repeat (first|exact (yH HO0_2.out).2.2|(with_reducible refine yG ?_ _)|(with_reducible refine yF ?_ _)|(with_reducible refine yI ?_)));(case side6=>exact (yH HO0_2.out).2.1);rintro e w16 ⟨rfl,hb⟩;have n0_:=Zk (zV (by (with_reducible repeat (first|apply zL|apply zK|apply zM));exact HO0_0.out) hb);have n1_:=Zk (zV (by (with_reducible repeat (first|apply zL|apply zK|apply zM));exact HO0_1.out) hb);have n2_:=Zk (zV (by (with_reducible repeat (first|apply zL|apply zK|apply zM));exact HO0_2.out) hb);have n3_:=Zk (zW (g:=gb714) (o:=.cells #[.slice A0_0 l0_0.length c0_0,.slice A0_1 l0_1.length c0_1,.slice A0_2 l0_2.length c0_2] 30 (0,0)) (by (with_reducible repeat (first|refine zB ?_ _|refine zF ?_|refine zA ?_ _));exact BK714.out) hb);have n4_:=Zk (yA (by repeat (first|(with_reducible first|exact HB.out|apply zG|apply zD|apply zH|refine zC ?_ GE714.out)|exact HB.out)) hb);clear HO0_0;clear HO0_1;clear HO0_2;clear BK714;clear HB;have HO0_0:=n0_;have HO0_1:=n1_;have HO0_2:=n2_;have BK714:=n3_;have HB:=n4_;clear n0_ n1_ n2_ n3_ n4_;(try clear hb);(try clear hb2);(try clear hk);(try clear hi)))
    go_meet
    case rel=>exact ⟨_,(true),(by first|rfl|(simp;done)|(simp [*];done)|(generalize ByteArray.toList _=l_;cases l_ <;> rfl)),H',⟨by first|omega|exact Nat.le_refl _⟩,⟨by (with_reducible repeat (first|apply zL|apply zK|apply zM));exact HO0_0.out⟩,⟨by (with_reducible repeat (first|apply zL|apply zK|apply zM));exact HO0_1.out⟩,⟨by (with_reducible repeat (first|apply zL|apply zK|apply zM));exact HO0_2.out⟩,⟨by (with_reducible repeat (first|refine zB ?_ _|refine zF ?_|refine zA ?_ _));exact BK714.out⟩,⟨by repeat (first|(with_reducible first|exact HB.out|apply zG|apply zD|apply zH|refine zC ?_ GE714.out)|exact HB.out)⟩⟩
  ·replace c6:=Bool.eq_false_iff.mpr c6
   subst c6
   have H1:(jobshelllaw25_SignalStays.j0 k l1 true l0_0 l0_1 l0_2)=some r:=by rw [if_neg (show ¬ (false=true) by decide)] at H;exact H
   clear H
   have H:=H1
   clear H1
   have H':=Zk H
   clear H
   have hcz17_0:w4.cell? ⟨gb714,0,none⟩=some (.slice A0_0 l0_0.length c0_0):=(zJ BK714.out 0).trans rfl
   have hcz17_1:w4.cell? ⟨gb714,1,none⟩=some (.slice A0_1 l0_1.length c0_1):=(zJ BK714.out 1).trans rfl
   have hcz17_2:w4.cell? ⟨gb714,2,none⟩=some (.slice A0_2 l0_2.length c0_2):=(zJ BK714.out 2).trans rfl
   have hfz17_0:=zI BK714.out 0
   have hfz17_1:=zI BK714.out 1
   have hfz17_2:=zI BK714.out 2
   go_wp2_with (first|((with_reducible refine yD (f:=17) rfl ?_);refine yM (some 7) rfl rfl Tryd.func17 (by kernel_rfl) rfl #[.agg #[.slice A0_0 l0_0.length c0_0,.slice A0_1 l0_1.length c0_1,.slice A0_2 l0_2.length c0_2]] rfl (by (try simp only [List.map_toArray,List.map_cons,List.map_nil]);first|done|rfl|(simp only [List.length_drop,List.length_take];rfl)) ?_;(with_reducible refine (jobshelllaw25_short.calls _ _ l0_0 _ _ l0_1 _ _ l0_2 false _ ?side1 ?side2 ?side3 ?side4 ?side5 ?side6 A5.out).mono ?_);(case side1=>repeat (first|exact (yH HO0_0.out).2.2|(with_reducible refine yG ?_ _)|(with_reducible refine yF ?_ _)|(with_reducible refine yI ?_)));(case side2=>exact (yH HO0_0.out).2.1);(case side3=>repeat (first|exact (yH HO0_1.out).2.2|(with_reducible refine yG ?_ _)|(with_reducible refine yF ?_ _)|(with_reducible refine yI ?_)));(case side4=>exact (yH HO0_1.out).2.1);(case side5=>repeat (first|exact (yH HO0_2.out).2.2|(with_reducible refine yG ?_ _)|(with_reducible refine yF ?_ _)|(with_reducible refine yI ?_)));(case side6=>exact (yH HO0_2.out).2.1);rintro e w18 ⟨rfl,hb⟩;refine ⟨_,rfl,?_⟩;have n0_:=Zk (zV (by (with_reducible repeat (first|apply zL|apply zK|apply zM));exact HO0_0.out) hb);have n1_:=Zk (zV (by (with_reducible repeat (first|apply zL|apply zK|apply zM));exact HO0_1.out) hb);have n2_:=Zk (zV (by (with_reducible repeat (first|apply zL|apply zK|apply zM));exact HO0_2.out) hb);have n3_:=Zk (zW (g:=gb714) (o:=.cells #[.slice A0_0 l0_0.length c0_0,.slice A0_1 l0_1.length c0_1,.slice A0_2 l0_2.length c0_2] 30 (0,0)) (by (with_reducible repeat (first|refine zB ?_ _|refine zF ?_|refine zA ?_ _));exact BK714.out) hb);have n4_:=Zk (yA (by repeat (first|(with_reducible first|exact HB.out|apply zG|apply zD|apply zH|refine zC ?_ GE714.out)|exact HB.out)) hb);clear HO0_0;clear HO0_1;clear HO0_2;clear BK714;clear HB;have HO0_0:=n0_;have HO0_1:=n1_;have HO0_2:=n2_;have BK714:=n3_;have HB:=n4_;clear n0_ n1_ n2_ n3_ n4_;(try clear hb);(try clear hb2);(try clear hk);(try clear hi)))
   go_meet
   case rel=>exact ⟨_,(true),(by first|rfl|(simp;done)|(simp [*];done)|(generalize ByteArray.toList _=l_;cases l_ <;> rfl)),H',⟨by first|omega|exact Nat.le_refl _⟩,⟨by (with_reducible repeat (first|apply zL|apply zK|apply zM));exact HO0_0.out⟩,⟨by (with_reducible repeat (first|apply zL|apply zK|apply zM));exact HO0_1.out⟩,⟨by (with_reducible repeat (first|apply zL|apply zK|apply zM));exact HO0_2.out⟩,⟨by (with_reducible repeat (first|refine zB ?_ _|refine zF ?_|refine zA ?_ _));exact BK714.out⟩,⟨by repeat (first|(with_reducible first|exact HB.out|apply zG|apply zD|apply zH|refine zC ?_ GE714.out)|exact HB.out)⟩⟩
 case rest=>
  clear HC3
  try clear c1
  try clear p2
  try clear c6
  try clear c8
  try clear c8b0
  try clear c8b1
  try clear c9
  try clear c17
  try clear hcz11_0
  try clear hcz11_1
  try clear hcz11_2
  try clear hcz13_0
  try clear hcz13_1
  try clear hcz13_2
  try clear hcz15_0
  try clear hcz15_1
  try clear hcz15_2
  try clear hcz17_0
  try clear hcz17_1
  try clear hcz17_2
  try clear hcz9_0
  try clear hcz9_1
  try clear hcz9_2
  try clear hfz11_0
  try clear hfz11_1
  try clear hfz11_2
  try clear hfz13_0
  try clear hfz13_1
  try clear hfz13_2
  try clear hfz15_0
  try clear hfz15_1
  try clear hfz15_2
  try clear hfz17_0
  try clear hfz17_1
  try clear hfz17_2
  try clear hfz9_0
  try clear hfz9_1
  try clear hfz9_2
  obtain ⟨kq,x18_2,rfl,HA,HJ2,HO_715000,HO_715001,HO_715002,BK714,HB⟩:=hcut
  cases kq with
  |zero=>exact absurd HA.out (by simp [jobshelllaw25_SignalStays.j0])
  |succ kj2=>
   have H:=HA.out
   clear HA
   simp only [jobshelllaw25_SignalStays.j0] at H
   by_cases c19:x18_2=true
   ·subst c19
    have H1:((jobshelllaw25_awake.f kj2).bind fun t717=>(some t717))=some r:=by rw [if_pos rfl] at H;exact H
    clear H
    have H:=H1
    clear H1
    replace H:=Option.bind_eq_some_iff.mp H
    obtain ⟨t717,A200,H⟩:=H
    replace H:(some t717)=some r:=H
    have A20:=Zk A200
    clear A200
    obtain rfl:=Option.some.inj H
    go_wp2_with (first|((with_reducible refine yD (f:=10) rfl ?_);refine yM (some 19) rfl rfl Tryd.func10 (by kernel_rfl) rfl #[] rfl (by (try simp only [List.map_toArray,List.map_cons,List.map_nil]);first|done|rfl|(simp only [List.length_drop,List.length_take];rfl)) ?_;(with_reducible refine (jobshelllaw25_awake.calls kj2  t717 _ A20.out).mono ?_);rintro e w21 ⟨rfl,hb⟩;refine ⟨_,rfl,?_⟩;have n0_:=Zk (zV (by (with_reducible repeat (first|apply zL|apply zK|apply zM));exact HO_715000.out) hb);have n1_:=Zk (zV (by (with_reducible repeat (first|apply zL|apply zK|apply zM));exact HO_715001.out) hb);have n2_:=Zk (zV (by (with_reducible repeat (first|apply zL|apply zK|apply zM));exact HO_715002.out) hb);have n3_:=Zk (zW (g:=gb714) (o:=.cells #[.slice A0_0 l0_0.length c0_0,.slice A0_1 l0_1.length c0_1,.slice A0_2 l0_2.length c0_2] 30 (0,0)) (by (with_reducible repeat (first|refine zB ?_ _|refine zF ?_|refine zA ?_ _));exact BK714.out) hb);have n4_:=Zk (yA (by repeat (first|(with_reducible first|exact HB.out|apply zG|apply zD|apply zH|refine zC ?_ GE714.out)|exact HB.out)) hb);clear HO_715000;clear HO_715001;clear HO_715002;clear BK714;clear HB;have HO_715000:=n0_;have HO_715001:=n1_;have HO_715002:=n2_;have BK714:=n3_;have HB:=n4_;clear n0_ n1_ n2_ n3_ n4_;(try clear hb);(try clear hb2);(try clear hk);(try clear hi)))
    go_ret
    exact ⟨by first|rfl|(simp [errW_none,errW_some] <;> rfl)|(simp [*,errW_none,errW_some] <;> rfl),by repeat (first|(with_reducible first|exact HB.out|apply zG|apply zD|apply zH|refine zC ?_ GE714.out)|exact HB.out)⟩
   ·replace c19:=Bool.eq_false_iff.mpr c19
    subst c19
    have H1:(jobshelllaw25_SignalStays.l0 kj2 l1 0 l0_0 l0_1 l0_2)=some r:=by rw [if_neg (show ¬ (false=true) by decide)] at H;exact H
    clear H
    have H:=H1
    clear H1
    have H':=Zk H
    clear H
    go_wp2
    go_loopg [5] kj2 (fun kq v5 w'=>∃ (x5_2:Int) (x715000_2:List Int) (x715001_2:List Int) (x715002_2:List Int) (u715000:Value) (u715001:Value) (u715002:Value),v5=.int .i64 x5_2∧zN (jobshelllaw25_SignalStays.l0 kq l1 x5_2 x715000_2 x715001_2 x715002_2=some r)∧zN (kq≤kj2)∧zN (Kd.V (Kd.int .i64) 3 w' w.heap.size (fun k_=>((P0_0_ k_∨P0_1_ k_∨P0_2_ k_)∨w.heap.size≤k_)∧k_≠gb714) u715000 x715000_2)∧zN (Kd.V (Kd.int .i64) 3 w' w.heap.size (fun k_=>((P0_0_ k_∨P0_1_ k_∨P0_2_ k_)∨w.heap.size≤k_)∧k_≠gb714) u715001 x715001_2)∧zN (Kd.V (Kd.int .i64) 3 w' w.heap.size (fun k_=>((P0_0_ k_∨P0_1_ k_∨P0_2_ k_)∨w.heap.size≤k_)∧k_≠gb714) u715002 x715002_2)∧zN (w'.heap[gb714]?=some (.cells #[u715000,u715001,u715002] 30 (0,0)))∧zN (Below w.heap.size w w'))
    case atStart=>exact ⟨(0),(l0_0),(l0_1),(l0_2),(.slice A0_0 l0_0.length c0_0),(.slice A0_1 l0_1.length c0_1),(.slice A0_2 l0_2.length c0_2),(by first|rfl|(simp;done)|(simp [*];done)|(generalize ByteArray.toList _=l_;cases l_ <;> rfl)),H',⟨Nat.le_refl _⟩,⟨by (with_reducible repeat (first|apply zL|apply zK|apply zM));exact HO_715000.out⟩,⟨by (with_reducible repeat (first|apply zL|apply zK|apply zM));exact HO_715001.out⟩,⟨by (with_reducible repeat (first|apply zL|apply zK|apply zM));exact HO_715002.out⟩,⟨by (with_reducible repeat (first|refine zB ?_ _|refine zF ?_|refine zA ?_ _));exact BK714.out⟩,⟨by repeat (first|(with_reducible first|exact HB.out|apply zG|apply zD|apply zH|refine zC ?_ GE714.out)|exact HB.out)⟩⟩
    case round=>
     clear H'
     try clear c1
     try clear p2
     try clear c6
     try clear c8
     try clear c8b0
     try clear c8b1
     try clear c9
     try clear c10
     try clear c17
     try clear c19
     try clear hcz11_0
     try clear hcz11_1
     try clear hcz11_2
     try clear hcz13_0
     try clear hcz13_1
     try clear hcz13_2
     try clear hcz15_0
     try clear hcz15_1
     try clear hcz15_2
     try clear hcz17_0
     try clear hcz17_1
     try clear hcz17_2
     try clear hcz9_0
     try clear hcz9_1
     try clear hcz9_2
     try clear hfz11_0
     try clear hfz11_1
     try clear hfz11_2
     try clear hfz13_0
     try clear hfz13_1
     try clear hfz13_2
     try clear hfz15_0
     try clear hfz15_1
     try clear hfz15_2
     try clear hfz17_0
     try clear hfz17_1
     try clear hfz17_2
     try clear hfz9_0
     try clear hfz9_1
     try clear hfz9_2
     try clear p2
     obtain ⟨x5_2,x715000_2,x715001_2,x715002_2,u715000,u715001,u715002,rfl,HA,HK2,HO_715000,HO_715001,HO_715002,BK714,HB⟩:=hrel
     cases gk with
     |zero=>exact absurd HA.out (by simp [jobshelllaw25_SignalStays.l0])
     |succ k2=>
      have H:=HA.out
      clear HA
      simp only [jobshelllaw25_SignalStays.l0] at H
      by_cases c22:x5_2 < (l1.length:Int)
      ·rw [if_pos c22] at H
       have c22b0:decide (x5_2 < (l1.length:Int))=true:=decide_eq_true c22
       clear c22
       by_cases c23:0≤x5_2
       ·rw [if_pos c23] at H
        have c23b0:decide (0≤x5_2)=true:=decide_eq_true c23
        clear c23
        replace H:=Option.bind_eq_some_iff.mp H
        obtain ⟨⟨t720,t723,t726⟩,A240,H⟩:=H
        replace H:((signal_Valid.f k2 t720 t723 t726).bind fun t729=>(if t729=0 then (jobshelllaw25_SignalStays.l0 k2 l1 (wrap64 (x5_2 + 1)) t720 t723 t726) else (none)))=some r:=H
        have A24:=Zk A240
        clear A240
        replace H:=Option.bind_eq_some_iff.mp H
        obtain ⟨t729,A250,H⟩:=H
        replace H:(if t729=0 then (jobshelllaw25_SignalStays.l0 k2 l1 (wrap64 (x5_2 + 1)) t720 t723 t726) else (none))=some r:=H
        have A25:=Zk A250
        clear A250
        by_cases c26:t729=0
        ·rw [if_pos c26] at H
         have c26b0:(t729 == 0)=true:=beq_iff_eq.mpr c26
         have c26b1:(t729 != 0)=false:=bne_eq_false_iff_eq.mpr c26
         clear c26
         have H':=Zk H
         clear H
         try go_wp2
         have n0_:=Zk (zM HO_715000.out)
         have n1_:=Zk (zM HO_715001.out)
         have n2_:=Zk (zM HO_715002.out)
         have n3_:=Zk (zF BK714.out)
         have n4_:=Zk (zH HB.out)
         clear HO_715000
         clear HO_715001
         clear HO_715002
         clear BK714
         clear HB
         have HO_715000:=n0_
         have HO_715001:=n1_
         have HO_715002:=n2_
         have BK714:=n3_
         have HB:=n4_
         clear n0_ n1_ n2_ n3_ n4_
         have p719:0≤(x5_2:Int):=of_decide_eq_true (by first|(with_reducible assumption)|assumption)
         have q719:x5_2 < (l1.length:Int):=of_decide_eq_true (by first|(with_reducible assumption)|assumption)
         obtain ⟨ad719,e719,hx719_0,hx719_1,hx719_2⟩:=at_T51 HR1.out x5_2 p719 q719
         have hw719_2:=hx719_2
         have hw719_1:=hx719_1
         have hw719_0:=hx719_0
         cases e719
         replace hx719_0:=(HB.out.cell (World.block_lt_of_cell? w _ hx719_0)).trans hx719_0
         replace hx719_1:=(HB.out.cell (World.block_lt_of_cell? w _ hx719_1)).trans hx719_1
         replace hx719_2:=(HB.out.cell (World.block_lt_of_cell? w _ hx719_2)).trans hx719_2
         replace p719:=eq_true p719
         replace q719:=eq_true q719
         obtain ⟨Ao28,co28,eo28⟩:=V_slice HO_715000.out
         (first|subst eo28|(injection eo28 with f1_ f2_ f3_;have f4_:=f1_.symm;have f5_:=f3_.symm;clear f1_ f2_ f3_;subst f4_;subst f5_))
         obtain ⟨Ao29,co29,eo29⟩:=V_slice HO_715001.out
         (first|subst eo29|(injection eo29 with f1_ f2_ f3_;have f4_:=f1_.symm;have f5_:=f3_.symm;clear f1_ f2_ f3_;subst f4_;subst f5_))
         obtain ⟨Ao30,co30,eo30⟩:=V_slice HO_715002.out
         (first|subst eo30|(injection eo30 with f1_ f2_ f3_;have f4_:=f1_.symm;have f5_:=f3_.symm;clear f1_ f2_ f3_;subst f4_;subst f5_))
         refine start_ (n:=7) (S:=fun w'=>w'.cell? ⟨gb714,0,none⟩=some (.slice Ao28 x715000_2.length co28)∧w'.cell? ⟨gb714,1,none⟩=some (.slice Ao29 x715001_2.length co29)∧w'.cell? ⟨gb714,2,none⟩=some (.slice Ao30 x715002_2.length co30)∧w'.cell? (ad719.add ((x5_2).toNat * 3))=some (.int .i64 ((rd_T51 l1 x5_2).f0))∧w'.cell? ⟨(ad719.add ((x5_2).toNat * 3)).block,(ad719.add ((x5_2).toNat * 3)).off + 1,none⟩=some (.int .i64 ((rd_T51 l1 x5_2).f1))∧w'.cell? ⟨(ad719.add ((x5_2).toNat * 3)).block,(ad719.add ((x5_2).toNat * 3)).off + 2,none⟩=some (.int .i64 ((rd_T51 l1 x5_2).f2))) (ds:=[6]) #[false,false,false,false,false,false,false] (by kernel_rfl) rfl rfl ⟨(zJ BK714.out 0).trans rfl,(zJ BK714.out 1).trans rfl,(zJ BK714.out 2).trans rfl,((HB.out.cell (World.block_lt_of_cell? w _ hw719_0)).trans hw719_0),((HB.out.cell (World.block_lt_of_cell? w _ hw719_1)).trans hw719_1),((HB.out.cell (World.block_lt_of_cell? w _ hw719_2)).trans hw719_2)⟩ (fun hHeld=>?_)
         generalize wr.drew=w27 at HO_715000 HO_715001 HO_715002 BK714 HB hx719_0 hx719_1 hx719_2 hHeld ⊢
         refine pure_ (i:=1) (N:=some 27) (v:=?_) (a':=?_) #[false,true,false,false,false,false,false] rfl rfl (by kernel_rfl) (fun _ _ _ h=>h) (Or.inl ⟨by rfl,?_⟩) ?_ ?_
         rotate_left
         ·intro w'
          go_simp
          with_reducible rfl
         rotate_left
         ·simp only [Act.put,List.setIfInBounds_toArray,List.set_cons_zero,List.set_cons_succ,yX,i32_w]
          rfl
         refine pure_ (i:=2) (N:=some 28) (v:=?_) (a':=?_) #[false,true,true,false,false,false,false] rfl rfl (by kernel_rfl) (fun _ _ _ h=>h) (Or.inl ⟨by rfl,?_⟩) ?_ ?_
         rotate_left
         ·intro w'
          go_simp
          with_reducible rfl
         rotate_left
         ·simp only [Act.put,List.setIfInBounds_toArray,List.set_cons_zero,List.set_cons_succ,yX,i32_w]
          rfl
         refine pure_ (i:=3) (N:=some 29) (v:=?_) (a':=?_) #[false,true,true,true,false,false,false] rfl rfl (by kernel_rfl) (fun _ _ _ h=>h) (Or.inl ⟨by rfl,?_⟩) ?_ ?_
         rotate_left
         ·intro w'
          go_simp
          with_reducible rfl
         rotate_left
         ·simp only [Act.put,List.setIfInBounds_toArray,List.set_cons_zero,List.set_cons_succ,yX,i32_w]
          rfl
         refine take_ (i:=0) (N:=some 26) (v:=?_) (a':=?_) #[true,true,true,true,false,false,false] rfl rfl (by kernel_rfl) (fun _ _ _ h=>h) (Or.inl ⟨by rfl,?_⟩) hHeld ?_ ?_
         rotate_left
         ·rintro w' ⟨s0,s1,s2,s3,s4,s5⟩
          go_simp
          with_reducible rfl
         rotate_left
         ·simp only [Act.put,List.setIfInBounds_toArray,List.set_cons_zero,List.set_cons_succ,yX,i32_w]
          rfl
         refine take_ (i:=4) (N:=some 30) (v:=?_) (a':=?_) #[true,true,true,true,true,false,false] rfl rfl (by kernel_rfl) (fun _ _ _ h=>h) (Or.inl ⟨by rfl,?_⟩) hHeld ?_ ?_
         rotate_left
         ·rintro w' ⟨s0,s1,s2,s3,s4,s5⟩
          go_simp
          with_reducible rfl
         rotate_left
         ·simp only [Act.put,List.setIfInBounds_toArray,List.set_cons_zero,List.set_cons_succ,yX,i32_w]
          rfl
         refine one_ (i:=5) (N:=some 31) #[true,true,true,true,true,true,false] rfl rfl (by kernel_rfl) (by decide) (fun K hK=>?_)
         refine goes_ Tryd.func32 (by kernel_rfl) rfl #[.agg #[.slice Ao28 x715000_2.length co28,.slice Ao29 x715001_2.length co29,.slice Ao30 x715002_2.length co30],.agg #[.int .i64 ((rd_T51 l1 x5_2).f0),.int .i64 ((rd_T51 l1 x5_2).f1),.int .i64 ((rd_T51 l1 x5_2).f2)]] (by rfl) rfl rfl (by (try simp only [List.map_toArray,List.map_cons,List.map_nil]);first|done|rfl|(simp only [List.length_drop,List.length_take];rfl)) ?_
         with_reducible refine (jobshelllaw25_play.calls k2 (fun k_=>(((P0_0_ k_∨P0_1_ k_∨P0_2_ k_)∨w.heap.size≤k_)∧k_≠gb714)) _ _ x715000_2 (fun k_=>(((P0_0_ k_∨P0_1_ k_∨P0_2_ k_)∨w.heap.size≤k_)∧k_≠gb714)) _ _ x715001_2 (fun k_=>(((P0_0_ k_∨P0_1_ k_∨P0_2_ k_)∨w.heap.size≤k_)∧k_≠gb714)) _ _ x715002_2 ((rd_T51 l1 x5_2).f0) ((rd_T51 l1 x5_2).f1) ((rd_T51 l1 x5_2).f2) t720 t723 t726 _ ?side1 ?side2 ?side3 A24.out).mono ?_
         (case side1=>exact HO_715000.out)
         (case side2=>exact HO_715001.out)
         (case side3=>exact HO_715002.out)
         rintro e w31 ⟨v721,v724,v727,rfl,ho0,ho1,ho2,hb⟩
         refine ⟨_,rfl,?_⟩
         have n0_:=Zk (zV (by (with_reducible repeat (first|apply zL|apply zK|apply zM));exact HO_715000.out) hb)
         have n1_:=Zk (zV (by (with_reducible repeat (first|apply zL|apply zK|apply zM));exact HO_715001.out) hb)
         have n2_:=Zk (zV (by (with_reducible repeat (first|apply zL|apply zK|apply zM));exact HO_715002.out) hb)
         have n3_:=Zk (V_lower (zO (ok':=fun k_=>((P0_0_ k_∨P0_1_ k_∨P0_2_ k_)∨w.heap.size≤k_)∧k_≠gb714) ho0 (fun k_ hk_=>⟨Or.elim hk_ (fun hs_=>Or.elim hs_ (fun hs_=>hs_.1) (fun hs_=>Or.elim hs_ (fun hs_=>hs_.1) (fun hs_=>hs_.1))) (fun hn_=>(.inr (Nat.le_trans (zP (by repeat (first|(with_reducible first|exact HB.out|apply zG|apply zD|apply zH|refine zC ?_ GE714.out)|exact HB.out))) hn_))),Or.elim hk_ (fun hs_=>Or.elim hs_ (fun hs_=>hs_.2) (fun hs_=>Or.elim hs_ (fun hs_=>hs_.2) (fun hs_=>hs_.2))) (fun hn_=>(Kd.freshB (g:=gb714) (o:=.cells #[.slice Ao28 x715000_2.length co28,.slice Ao29 x715001_2.length co29,.slice Ao30 x715002_2.length co30] 30 (0,0)) (by (with_reducible repeat (first|refine zB ?_ _|refine zF ?_|refine zA ?_ _));exact BK714.out) k_ hn_))⟩)) (zP (by repeat (first|(with_reducible first|exact HB.out|apply zG|apply zD|apply zH|refine zC ?_ GE714.out)|exact HB.out))))
         have n4_:=Zk (V_lower (zO (ok':=fun k_=>((P0_0_ k_∨P0_1_ k_∨P0_2_ k_)∨w.heap.size≤k_)∧k_≠gb714) ho1 (fun k_ hk_=>⟨Or.elim hk_ (fun hs_=>Or.elim hs_ (fun hs_=>hs_.1) (fun hs_=>Or.elim hs_ (fun hs_=>hs_.1) (fun hs_=>hs_.1))) (fun hn_=>(.inr (Nat.le_trans (zP (by repeat (first|(with_reducible first|exact HB.out|apply zG|apply zD|apply zH|refine zC ?_ GE714.out)|exact HB.out))) hn_))),Or.elim hk_ (fun hs_=>Or.elim hs_ (fun hs_=>hs_.2) (fun hs_=>Or.elim hs_ (fun hs_=>hs_.2) (fun hs_=>hs_.2))) (fun hn_=>(Kd.freshB (g:=gb714) (o:=.cells #[.slice Ao28 x715000_2.length co28,.slice Ao29 x715001_2.length co29,.slice Ao30 x715002_2.length co30] 30 (0,0)) (by (with_reducible repeat (first|refine zB ?_ _|refine zF ?_|refine zA ?_ _));exact BK714.out) k_ hn_))⟩)) (zP (by repeat (first|(with_reducible first|exact HB.out|apply zG|apply zD|apply zH|refine zC ?_ GE714.out)|exact HB.out))))
         have n5_:=Zk (V_lower (zO (ok':=fun k_=>((P0_0_ k_∨P0_1_ k_∨P0_2_ k_)∨w.heap.size≤k_)∧k_≠gb714) ho2 (fun k_ hk_=>⟨Or.elim hk_ (fun hs_=>Or.elim hs_ (fun hs_=>hs_.1) (fun hs_=>Or.elim hs_ (fun hs_=>hs_.1) (fun hs_=>hs_.1))) (fun hn_=>(.inr (Nat.le_trans (zP (by repeat (first|(with_reducible first|exact HB.out|apply zG|apply zD|apply zH|refine zC ?_ GE714.out)|exact HB.out))) hn_))),Or.elim hk_ (fun hs_=>Or.elim hs_ (fun hs_=>hs_.2) (fun hs_=>Or.elim hs_ (fun hs_=>hs_.2) (fun hs_=>hs_.2))) (fun hn_=>(Kd.freshB (g:=gb714) (o:=.cells #[.slice Ao28 x715000_2.length co28,.slice Ao29 x715001_2.length co29,.slice Ao30 x715002_2.length co30] 30 (0,0)) (by (with_reducible repeat (first|refine zB ?_ _|refine zF ?_|refine zA ?_ _));exact BK714.out) k_ hn_))⟩)) (zP (by repeat (first|(with_reducible first|exact HB.out|apply zG|apply zD|apply zH|refine zC ?_ GE714.out)|exact HB.out))))
         have n6_:=Zk (zW (g:=gb714) (o:=.cells #[.slice Ao28 x715000_2.length co28,.slice Ao29 x715001_2.length co29,.slice Ao30 x715002_2.length co30] 30 (0,0)) (by (with_reducible repeat (first|refine zB ?_ _|refine zF ?_|refine zA ?_ _));exact BK714.out) hb)
         have n7_:=Zk (yA (by repeat (first|(with_reducible first|exact HB.out|apply zG|apply zD|apply zH|refine zC ?_ GE714.out)|exact HB.out)) hb)
         clear HO_715000
         clear HO_715001
         clear HO_715002
         clear BK714
         clear HB
         have HO_715000:=n0_
         have HO_715001:=n1_
         have HO_715002:=n2_
         have HO722:=n3_
         have HO725:=n4_
         have HO728:=n5_
         have BK714:=n6_
         have HB:=n7_
         clear n0_ n1_ n2_ n3_ n4_ n5_ n6_ n7_
         (try clear hb)
         (try clear hb2)
         (try clear hk)
         (try clear hi)
         (try clear ho0)
         (try clear ho1)
         (try clear ho2)
         obtain ⟨Ao32,co32,eo32⟩:=V_slice HO722.out
         (first|subst eo32|(injection eo32 with f1_ f2_ f3_;have f4_:=f1_.symm;have f5_:=f3_.symm;clear f1_ f2_ f3_;subst f4_;subst f5_))
         obtain ⟨Ao34,co34,eo34⟩:=V_slice HO725.out
         (first|subst eo34|(injection eo34 with f1_ f2_ f3_;have f4_:=f1_.symm;have f5_:=f3_.symm;clear f1_ f2_ f3_;subst f4_;subst f5_))
         obtain ⟨Ao36,co36,eo36⟩:=V_slice HO728.out
         (first|subst eo36|(injection eo36 with f1_ f2_ f3_;have f4_:=f1_.symm;have f5_:=f3_.symm;clear f1_ f2_ f3_;subst f4_;subst f5_))
         refine hK.out _ _ ⟨(zJ BK714.out 0).trans rfl,(zJ BK714.out 1).trans rfl,(zJ BK714.out 2).trans rfl,((HB.out.cell (World.block_lt_of_cell? w _ hw719_0)).trans hw719_0),((HB.out.cell (World.block_lt_of_cell? w _ hw719_1)).trans hw719_1),((HB.out.cell (World.block_lt_of_cell? w _ hw719_2)).trans hw719_2)⟩ (fun hHeld=>?_)
         clear hK K
         refine norm_ (a':=?_) ?_ ?_
         rotate_left
         ·show Act.put _ (some 31) _=_
          simp only [Act.put,List.setIfInBounds_toArray,List.set_cons_zero,List.set_cons_succ,yX,i32_w]
          rfl
         refine last_ (i:=6) (N:=none) #[true,true,true,true,true,true,true] rfl rfl (by kernel_rfl) (by decide) (fun K hK=>?_)
         have hs33:w31.cell? ⟨gb714,0,none⟩=some (.slice Ao28 x715000_2.length co28):=(zJ BK714.out 0).trans rfl
         have hfs33:=zI BK714.out 0
         have hs35:w31.cell? ⟨gb714,1,none⟩=some (.slice Ao29 x715001_2.length co29):=(zJ BK714.out 1).trans rfl
         have hfs35:=zI BK714.out 1
         have hs37:w31.cell? ⟨gb714,2,none⟩=some (.slice Ao30 x715002_2.length co30):=(zJ BK714.out 2).trans rfl
         have hfs37:=zI BK714.out 2
         refine skip_ (w1:=?_) (by rfl) rfl ?_ ?_
         rotate_left
         ·go_simp
          rfl
         refine hK.out _ _ ?_
         clear hK K
         refine done_ (by kernel_rfl) ?_
         have hcz38_0:w31.cell? ⟨gb714,0,none⟩=some (.slice Ao28 x715000_2.length co28):=(zJ BK714.out 0).trans rfl
         have hcz38_1:w31.cell? ⟨gb714,1,none⟩=some (.slice Ao29 x715001_2.length co29):=(zJ BK714.out 1).trans rfl
         have hcz38_2:w31.cell? ⟨gb714,2,none⟩=some (.slice Ao30 x715002_2.length co30):=(zJ BK714.out 2).trans rfl
         have hfz38_0:=zI BK714.out 0
         have hfz38_1:=zI BK714.out 1
         have hfz38_2:=zI BK714.out 2
         try go_wp2_with (first|((with_reducible refine yD (f:=31) rfl ?_);refine yM (some 33) rfl rfl Tryd.func31 (by kernel_rfl) rfl #[.agg #[.slice Ao32 t720.length co32,.slice Ao34 t723.length co34,.slice Ao36 t726.length co36]] rfl (by (try simp only [List.map_toArray,List.map_cons,List.map_nil]);first|done|rfl|(simp only [List.length_drop,List.length_take];rfl)) ?_;(with_reducible refine (signal_Valid.calls k2 _ _ t720 _ _ t723 _ _ t726 t729 _ ?side1 ?side2 ?side3 ?side4 ?side5 ?side6 A25.out).mono ?_);(case side1=>refine (yH (e:=3) (base:=w.heap.size) (ok:=fun k_=>(((P0_0_ k_∨P0_1_ k_∨P0_2_ k_)∨w.heap.size≤k_)∧k_≠gb714)) (n:=t720.length) (c:=co32) ?_).2.2;exact (by (with_reducible repeat (first|apply zL|apply zK|apply zM));exact (zO (zS (p:=⟨gb714,2,none⟩) (zS (p:=⟨gb714,1,none⟩) (zS (p:=⟨gb714,0,none⟩) (zO HO722.out (fun k_ hk=>(⟨hk,hk.2⟩:_∧k_≠gb714))) (fun _ hk=>hk.2) (.slice Ao32 t720.length co32)) (fun _ hk=>hk.2) (.slice Ao34 t723.length co34)) (fun _ hk=>hk.2) (.slice Ao36 t726.length co36)) (fun _ h_=>h_.1))));(case side2=>exact (yH HO722.out).2.1);(case side3=>refine (yH (e:=3) (base:=w.heap.size) (ok:=fun k_=>(((P0_0_ k_∨P0_1_ k_∨P0_2_ k_)∨w.heap.size≤k_)∧k_≠gb714)) (n:=t723.length) (c:=co34) ?_).2.2;exact (by (with_reducible repeat (first|apply zL|apply zK|apply zM));exact (zO (zS (p:=⟨gb714,2,none⟩) (zS (p:=⟨gb714,1,none⟩) (zS (p:=⟨gb714,0,none⟩) (zO HO725.out (fun k_ hk=>(⟨hk,hk.2⟩:_∧k_≠gb714))) (fun _ hk=>hk.2) (.slice Ao32 t720.length co32)) (fun _ hk=>hk.2) (.slice Ao34 t723.length co34)) (fun _ hk=>hk.2) (.slice Ao36 t726.length co36)) (fun _ h_=>h_.1))));(case side4=>exact (yH HO725.out).2.1);(case side5=>refine (yH (e:=3) (base:=w.heap.size) (ok:=fun k_=>(((P0_0_ k_∨P0_1_ k_∨P0_2_ k_)∨w.heap.size≤k_)∧k_≠gb714)) (n:=t726.length) (c:=co36) ?_).2.2;exact (by (with_reducible repeat (first|apply zL|apply zK|apply zM));exact (zO (zS (p:=⟨gb714,2,none⟩) (zS (p:=⟨gb714,1,none⟩) (zS (p:=⟨gb714,0,none⟩) (zO HO728.out (fun k_ hk=>(⟨hk,hk.2⟩:_∧k_≠gb714))) (fun _ hk=>hk.2) (.slice Ao32 t720.length co32)) (fun _ hk=>hk.2) (.slice Ao34 t723.length co34)) (fun _ hk=>hk.2) (.slice Ao36 t726.length co36)) (fun _ h_=>h_.1))));(case side6=>exact (yH HO728.out).2.1);rintro e w39 ⟨rfl,hb⟩;refine ⟨_,rfl,?_⟩;have n0_:=Zk (zV (by (with_reducible repeat (first|apply zL|apply zK|apply zM));exact (zO (zS (p:=⟨gb714,2,none⟩) (zS (p:=⟨gb714,1,none⟩) (zS (p:=⟨gb714,0,none⟩) (zO HO_715000.out (fun k_ hk=>(⟨hk,hk.2⟩:_∧k_≠gb714))) (fun _ hk=>hk.2) (.slice Ao32 t720.length co32)) (fun _ hk=>hk.2) (.slice Ao34 t723.length co34)) (fun _ hk=>hk.2) (.slice Ao36 t726.length co36)) (fun _ h_=>h_.1))) hb);have n1_:=Zk (zV (by (with_reducible repeat (first|apply zL|apply zK|apply zM));exact (zO (zS (p:=⟨gb714,2,none⟩) (zS (p:=⟨gb714,1,none⟩) (zS (p:=⟨gb714,0,none⟩) (zO HO_715001.out (fun k_ hk=>(⟨hk,hk.2⟩:_∧k_≠gb714))) (fun _ hk=>hk.2) (.slice Ao32 t720.length co32)) (fun _ hk=>hk.2) (.slice Ao34 t723.length co34)) (fun _ hk=>hk.2) (.slice Ao36 t726.length co36)) (fun _ h_=>h_.1))) hb);have n2_:=Zk (zV (by (with_reducible repeat (first|apply zL|apply zK|apply zM));exact (zO (zS (p:=⟨gb714,2,none⟩) (zS (p:=⟨gb714,1,none⟩) (zS (p:=⟨gb714,0,none⟩) (zO HO_715002.out (fun k_ hk=>(⟨hk,hk.2⟩:_∧k_≠gb714))) (fun _ hk=>hk.2) (.slice Ao32 t720.length co32)) (fun _ hk=>hk.2) (.slice Ao34 t723.length co34)) (fun _ hk=>hk.2) (.slice Ao36 t726.length co36)) (fun _ h_=>h_.1))) hb);have n3_:=Zk (zV (by (with_reducible repeat (first|apply zL|apply zK|apply zM));exact (zO (zS (p:=⟨gb714,2,none⟩) (zS (p:=⟨gb714,1,none⟩) (zS (p:=⟨gb714,0,none⟩) (zO HO722.out (fun k_ hk=>(⟨hk,hk.2⟩:_∧k_≠gb714))) (fun _ hk=>hk.2) (.slice Ao32 t720.length co32)) (fun _ hk=>hk.2) (.slice Ao34 t723.length co34)) (fun _ hk=>hk.2) (.slice Ao36 t726.length co36)) (fun _ h_=>h_.1))) hb);have n4_:=Zk (zV (by (with_reducible repeat (first|apply zL|apply zK|apply zM));exact (zO (zS (p:=⟨gb714,2,none⟩) (zS (p:=⟨gb714,1,none⟩) (zS (p:=⟨gb714,0,none⟩) (zO HO725.out (fun k_ hk=>(⟨hk,hk.2⟩:_∧k_≠gb714))) (fun _ hk=>hk.2) (.slice Ao32 t720.length co32)) (fun _ hk=>hk.2) (.slice Ao34 t723.length co34)) (fun _ hk=>hk.2) (.slice Ao36 t726.length co36)) (fun _ h_=>h_.1))) hb);have n5_:=Zk (zV (by (with_reducible repeat (first|apply zL|apply zK|apply zM));exact (zO (zS (p:=⟨gb714,2,none⟩) (zS (p:=⟨gb714,1,none⟩) (zS (p:=⟨gb714,0,none⟩) (zO HO728.out (fun k_ hk=>(⟨hk,hk.2⟩:_∧k_≠gb714))) (fun _ hk=>hk.2) (.slice Ao32 t720.length co32)) (fun _ hk=>hk.2) (.slice Ao34 t723.length co34)) (fun _ hk=>hk.2) (.slice Ao36 t726.length co36)) (fun _ h_=>h_.1))) hb);have n6_:=Zk (zW (g:=gb714) (o:=.cells #[.slice Ao32 t720.length co32,.slice Ao34 t723.length co34,.slice Ao36 t726.length co36] 30 (0,0)) (by (with_reducible repeat (first|refine zB ?_ _|refine zF ?_|refine zA ?_ _));refine yE (cs:=#[.slice Ao32 t720.length co32,.slice Ao34 t723.length co34,.slice Ao30 x715002_2.length co30]) ?_ 2 _ rfl;(with_reducible repeat (first|refine zB ?_ _|refine zF ?_|refine zA ?_ _));refine yE (cs:=#[.slice Ao32 t720.length co32,.slice Ao29 x715001_2.length co29,.slice Ao30 x715002_2.length co30]) ?_ 1 _ rfl;(with_reducible repeat (first|refine zB ?_ _|refine zF ?_|refine zA ?_ _));refine yE (cs:=#[.slice Ao28 x715000_2.length co28,.slice Ao29 x715001_2.length co29,.slice Ao30 x715002_2.length co30]) ?_ 0 _ rfl;(with_reducible repeat (first|refine zB ?_ _|refine zF ?_|refine zA ?_ _));exact BK714.out) hb);have n7_:=Zk (yA (by repeat (first|(with_reducible first|exact HB.out|apply zG|apply zD|apply zH|refine zC ?_ GE714.out)|exact HB.out)) hb);clear HO_715000;clear HO_715001;clear HO_715002;clear HO722;clear HO725;clear HO728;clear BK714;clear HB;have HO_715000:=n0_;have HO_715001:=n1_;have HO_715002:=n2_;have HO722:=n3_;have HO725:=n4_;have HO728:=n5_;have BK714:=n6_;have HB:=n7_;clear n0_ n1_ n2_ n3_ n4_ n5_ n6_ n7_;(try clear hb);(try clear hb2);(try clear hk);(try clear hi)))
         go_roundg k2
         case measure=>have:=HJ2.out;have:=HK2.out;omega
         case rel=>exact ⟨(wrap64 (x5_2 + 1)),(t720),(t723),(t726),(.slice Ao32 t720.length co32),(.slice Ao34 t723.length co34),(.slice Ao36 t726.length co36),(by first|rfl|(simp;done)|(simp [*];done)|(generalize ByteArray.toList _=l_;cases l_ <;> rfl)),H',⟨by have:=HJ2.out;have:=HK2.out;omega⟩,⟨by (with_reducible repeat (first|apply zL|apply zK|apply zM));exact HO722.out⟩,⟨by (with_reducible repeat (first|apply zL|apply zK|apply zM));exact HO725.out⟩,⟨by (with_reducible repeat (first|apply zL|apply zK|apply zM));exact HO728.out⟩,⟨by (with_reducible repeat (first|refine zB ?_ _|refine zF ?_|refine zA ?_ _));exact BK714.out⟩,⟨by repeat (first|(with_reducible first|exact HB.out|apply zG|apply zD|apply zH|refine zC ?_ GE714.out)|exact HB.out)⟩⟩
        ·rw [if_neg c26] at H
         exact absurd H (by simp)
       ·rw [if_neg c23] at H
        exact absurd H (by simp)
      ·rw [if_neg c22] at H
       have c22b0:decide (x5_2 < (l1.length:Int))=false:=decide_eq_false c22
       clear c22
       replace H:=Option.bind_eq_some_iff.mp H
       obtain ⟨t718,A400,H⟩:=H
       replace H:(some t718)=some r:=H
       have A40:=Zk A400
       clear A400
       obtain rfl:=Option.some.inj H
       go_wp2_with (first|((with_reducible refine yD (f:=10) rfl ?_);refine yM (some 35) rfl rfl Tryd.func10 (by kernel_rfl) rfl #[] rfl (by (try simp only [List.map_toArray,List.map_cons,List.map_nil]);first|done|rfl|(simp only [List.length_drop,List.length_take];rfl)) ?_;(with_reducible refine (jobshelllaw25_awake.calls k2  t718 _ A40.out).mono ?_);rintro e w41 ⟨rfl,hb⟩;refine ⟨_,rfl,?_⟩;have n0_:=Zk (zV (by (with_reducible repeat (first|apply zL|apply zK|apply zM));exact HO_715000.out) hb);have n1_:=Zk (zV (by (with_reducible repeat (first|apply zL|apply zK|apply zM));exact HO_715001.out) hb);have n2_:=Zk (zV (by (with_reducible repeat (first|apply zL|apply zK|apply zM));exact HO_715002.out) hb);have n3_:=Zk (zW (g:=gb714) (o:=.cells #[u715000,u715001,u715002] 30 (0,0)) (by (with_reducible repeat (first|refine zB ?_ _|refine zF ?_|refine zA ?_ _));exact BK714.out) hb);have n4_:=Zk (yA (by repeat (first|(with_reducible first|exact HB.out|apply zG|apply zD|apply zH|refine zC ?_ GE714.out)|exact HB.out)) hb);clear HO_715000;clear HO_715001;clear HO_715002;clear BK714;clear HB;have HO_715000:=n0_;have HO_715001:=n1_;have HO_715002:=n2_;have BK714:=n3_;have HB:=n4_;clear n0_ n1_ n2_ n3_ n4_;(try clear hb);(try clear hb2);(try clear hk);(try clear hi)))
       go_ret
       exact ⟨by first|rfl|(simp [errW_none,errW_some] <;> rfl)|(simp [*,errW_none,errW_some] <;> rfl),by repeat (first|(with_reducible first|exact HB.out|apply zG|apply zD|apply zH|refine zC ?_ GE714.out)|exact HB.out)⟩
end Go.Proofs.YtnkkdpjipfjdaaaDoor.Q
end
section

namespace Go.Proofs.YtnkkdpjipfjdaaaDoor.StSignalStays
open Go.RowKit Go.Proofs.YtnkkdpjipfjdaaaDoor.Q Go.Proofs.YtnkkdpjipfjdaaaDoorW.PrintWords Go.Proofs.YtnkkdpjipfjdaaaDoorW.PrintLast
def Ok51 (x:S51):Prop:=(Lit.int .i64 x.f0).wf=true∧(Lit.int .i64 x.f1).wf=true∧(Lit.int .i64 x.f2).wf=true
def Pure:Prop:=∀ (l0_0:List Int) (l0_1:List Int) (l0_2:List Int) (l1:List (S51)),l0_0.length≤maxLen→l0_0.length * 8≤140737488351232→(∀ x ∈ l0_0,(Lit.int .i64 x).wf=true)→l0_1.length≤maxLen→l0_1.length * 8≤140737488351232→(∀ x ∈ l0_1,(Lit.int .i64 x).wf=true)→l0_2.length≤maxLen→l0_2.length * 8≤140737488351232→(∀ x ∈ l0_2,(Lit.int .i64 x).wf=true)→l1.length≤maxLen→l1.length * 24≤140737488351232→(∀ x ∈ l1,Ok51 x)→∃ k,jobshelllaw25_SignalStays.f k l0_0 l0_1 l0_2 l1=some true
end Go.Proofs.YtnkkdpjipfjdaaaDoor.StSignalStays

end
section
namespace Go.Proofs.YtnkkdpjipfjdaaaDoorM
open Go Go.RowKit Go.Proofs.YtnkkdpjipfjdaaaDoorW.PrintWords
section
variable {α β:Type} {A B:Nat→Option α} {r:α} {c:Prop} [Decidable c]
theorem yJ (h:c) (k:Ev A r):Ev (fun n=>if c then A n else B n) r:=by
  obtain ⟨K,k⟩:=k
  exact ⟨K,fun n hn=>(if_pos h).trans (k n hn)⟩
theorem yP (h:¬ c) (k:Ev B r):Ev (fun n=>if c then A n else B n) r:=by
  obtain ⟨K,k⟩:=k
  exact ⟨K,fun n hn=>(if_neg h).trans (k n hn)⟩
theorem ev_some {x:Option α} (h:x=some r):Ev (fun _=>x) r:=⟨0,fun _ _=>h⟩
theorem ev_bindc {x:Option β} {a:β} {f:Nat→β→Option α} (h:x=some a) (k:Ev (fun n=>f n a) r):Ev (fun n=>x.bind (f n)) r:=by
  obtain ⟨K,k⟩:=k
  exact ⟨K,fun n hn=>by show x.bind (f n)=some r;rw [h];exact k n hn⟩
theorem ev_eq {g:Nat→Option α} {r r':α} (h:Ev g r) (e:r=r'):Ev g r':=e ▸ h
end
theorem wrap_in {x:Int} (h0:-9223372036854775808≤x) (h1:x≤9223372036854775807):wrap64 x=x:=by
  unfold wrap64
  omega
end Go.Proofs.YtnkkdpjipfjdaaaDoorM

end
section
namespace Go.Proofs.YtnkkdpjipfjdaaaDoor.Sg
open Go.RowKit Go.Proofs.YtnkkdpjipfjdaaaDoor.Q Go.Proofs.YtnkkdpjipfjdaaaDoorW.PrintWords Go.Proofs.YtnkkdpjipfjdaaaDoorW.PrintLast Go.Proofs.YtnkkdpjipfjdaaaDoorM Go.Proofs.YtnkkdpjipfjdaaaDoor.Ix
set_option linter.unusedVariables false
theorem awake_30:jobshelllaw25_awake.f 30=some true:=by kernel_rfl
theorem awake_ev:Ev (fun k=>jobshelllaw25_awake.f k) true:=by
  refine ⟨30,fun k hk=>?_⟩
  obtain ⟨d,rfl⟩:∃ d,k=30 + d:=⟨k - 30,by omega⟩
  clear hk
  induction d with
  |zero=>exact awake_30
  |succ d ih=>exact jobshelllaw25_awake.mono (30 + d) _ ih
theorem in21 {n:Int} (h0:0≤n) (h1:n≤20):n=0∨n=1∨n=2∨n=3∨n=4∨n=5∨n=6∨n=7∨n=8∨n=9∨n=10∨n=11∨n=12∨n=13∨n=14∨n=15∨n=16∨n=17∨n=18∨n=19∨n=20:=by omega
theorem name_out {n:Int} (h:¬ (0≤n∧n≤20)):sigName n=⟨#[]⟩:=by
  unfold sigName
  by_cases h0:0≤n
  · rw [if_pos h0]
    have:sigNames.length≤n.toNat:=by show 21≤_;omega
    rw [List.getD_eq_getElem?_getD,List.getElem?_eq_none this]
    rfl
  · rw [if_neg h0]
theorem name_eq (n:Int):jobshellref25_Name.f n=some (sigName n):=by
  by_cases h:0≤n∧n≤20
  · rcases in21 h.1 h.2 with h|h|h|h|h|h|h|h|h|h|h|h|h|h|h|h|h|h|h|h|h <;> subst h <;> rfl
  · rw [name_out h]
    unfold jobshellref25_Name.f
    repeat rw [if_neg (by omega)]
theorem name_f (n:Int):signal_Name.f n=some (sigName n):=rfl
def named (n:Int):Prop:=¬ (sigName n).toList=([]:List UInt8)
instance (n:Int):Decidable (named n):=inferInstanceAs (Decidable (¬ _))
theorem empty_toList:(⟨#[]⟩:ByteArray).toList=([]:List UInt8):=by kernel_rfl
theorem named_in {n:Int} (h:named n):1≤n∧n≤20:=by
  by_cases hr:0≤n∧n≤20
  · by_cases h0:n=0
    · subst h0
      exact absurd (show (sigName 0).toList=[] by kernel_rfl) h
    · omega
  · rw [named,name_out hr] at h
    exact absurd empty_toList h
theorem drop_at (l:List Int) (i:Nat) (hi:i < l.length):l.drop i=l.getD i 0 :: l.drop (i + 1):=by
  rw [List.drop_eq_getElem_cons hi,List.getD_eq_getElem?_getD,List.getElem?_eq_getElem hi]
  rfl
theorem has_from (l:List Int) (n:Int) (hl:l.length≤1000):∀ (m i:Nat),i + m=l.length→Ev (fun k=>jobshellref25_Has.l0 k l n (i:Int)) (decide (n ∈ l.drop i))
  |0,i,h=>Ev.step (fun k=>by apply jobshellref25_Has.l0.eq_2) (yP (by omega) (ev_some (by rw [List.drop_eq_nil_of_le (by omega)];rfl)))
  |m + 1,i,h=>by
    have hi:i < l.length:=by omega
    have hd:=drop_at l i hi
    have hr:rd l (i:Int)=l.getD i 0:=rfl
    refine Ev.step (fun k=>by apply jobshellref25_Has.l0.eq_2) (yJ (by omega) (yJ (by omega) ?_))
    rw [hr]
    by_cases hq:l.getD i 0=n
    · exact yJ hq (ev_some (by rw [hd,hq];simp))
    · refine yP hq ?_
      rw [wrap_in (by omega) (by omega),show (i:Int) + 1=((i + 1:Nat):Int) by omega]
      refine ev_eq (has_from l n hl m (i + 1) (by omega)) ?_
      rw [hd]
      exact decide_eq_decide.2 (by rw [List.mem_cons];exact ⟨.inr,fun h=>h.resolve_left (fun e=>hq e.symm)⟩)
theorem has_ev (l:List Int) (n:Int) (hl:l.length≤1000):Ev (fun k=>jobshellref25_Has.f k l n) (decide (n ∈ l)):=by
  have:=has_from l n hl l.length 0 (by omega)
  rwa [List.drop_zero] at this
theorem index_from (l:List Int) (n:Int) (hl:l.length≤1000):∀ (m i:Nat),i + m=l.length→∃ r:Int,(r ≥ 0↔n ∈ l.drop i)∧Ev (fun k=>slices_Index_int_int.l0 k l n (l.length:Int) (i:Int)) r
  |0,i,h=>⟨-1,by rw [List.drop_eq_nil_of_le (by omega)];simp,Ev.step (fun k=>by apply slices_Index_int_int.l0.eq_2) (yP (by omega) (ev_some rfl))⟩
  |m + 1,i,h=>by
    have hi:i < l.length:=by omega
    have hd:=drop_at l i hi
    have hr:rd l (i:Int)=l.getD i 0:=rfl
    by_cases hq:n=l.getD i 0
    · refine ⟨i,by rw [hd,← hq];simp,Ev.step (fun k=>by apply slices_Index_int_int.l0.eq_2) (yJ (by omega) (yJ (by omega) (yJ (by omega) (yJ (by rw [hr];exact hq) (ev_some rfl)))))⟩
    · obtain ⟨r,h1,h2⟩:=index_from l n hl m (i + 1) (by omega)
      refine ⟨r,by rw [h1,hd,List.mem_cons];exact ⟨.inr,fun h=>h.resolve_left hq⟩,Ev.step (fun k=>by apply slices_Index_int_int.l0.eq_2) (yJ (by omega) (yJ (by omega) (yJ (by omega) (yP (by rw [hr];exact hq) ?_))))⟩
      rw [wrap_in (by omega) (by omega),show (i:Int) + 1=((i + 1:Nat):Int) by omega]
      exact h2
theorem contains_ev (l:List Int) (n:Int) (hl:l.length≤1000):Ev (fun k=>slices_Contains_int_int.f k l n) (decide (n ∈ l)):=by
  obtain ⟨r,h1,h2⟩:=index_from l n hl l.length 0 (by omega)
  rw [List.drop_zero] at h1
  exact Ev.bind h2 (ev_some (congrArg some (decide_eq_decide.2 h1)))
def okFrom (l:List Int) (i:Nat):Prop:=∀ j,i≤j→j < l.length→named (l.getD j 0)∧(0 < j→l.getD (j - 1) 0 < l.getD j 0)
theorem ok_next {l:List Int} {i:Nat} (h:named (l.getD i 0)∧(0 < i→l.getD (i - 1) 0 < l.getD i 0)):okFrom l i↔okFrom l (i + 1):=by
  constructor
  · exact fun k j h1 h2=>k j (by omega) h2
  · intro k j h1 h2
    by_cases e:j=i
    · subst e;exact h
    · exact k j (by omega) h2
theorem list_from (l:List Int) (hl:l.length≤1000):∀ (m i:Nat),i + m=l.length→∃ b:Bool,(b=true↔okFrom l i)∧Ev (fun k=>jobshellref25_list.l0 k l (i:Int)) b
  |0,i,h=>⟨true,⟨fun _ j h1 h2=>by omega,fun _=>rfl⟩,Ev.step (fun k=>by apply jobshellref25_list.l0.eq_2) (yP (by omega) (ev_some rfl))⟩
  |m + 1,i,h=>by
    have hi:i < l.length:=by omega
    have hr:rd l (i:Int)=l.getD i 0:=rfl
    have go:∀ {b:Bool} {g:Nat→Option Bool},(∀ k,g k=(if ((sigName (l.getD i 0)).toList=([]:List UInt8)) then some false else (if (i:Int) > 0 then (if 0≤(wrap64 ((i:Int) - 1)) then (if (wrap64 ((i:Int) - 1)) < (l.length:Int) then (if (rd l (i:Int))≤(rd l (wrap64 ((i:Int) - 1))) then (some false) else (jobshellref25_list.l0 k l (wrap64 ((i:Int) + 1)))) else (none)) else (none)) else (jobshellref25_list.l0 k l (wrap64 ((i:Int) + 1))))))→Ev g b→Ev (fun k=>jobshellref25_list.l0 k l (i:Int)) b:=by
      intro b g hg hb
      refine Ev.step (fun k=>by apply jobshellref25_list.l0.eq_2) (yJ (by omega) (yJ (by omega) ?_))
      refine ev_bindc (by rw [hr];exact name_eq _) ?_
      exact Ev.congr (fun k=>(hg k).symm) hb
    by_cases hn:named (l.getD i 0)
    · by_cases h0:0 < i
      · have hw:wrap64 ((i:Int) - 1)=((i - 1:Nat):Int):=by rw [wrap_in (by omega) (by omega)];omega
        have hr2:rd l ((i - 1:Nat):Int)=l.getD (i - 1) 0:=rfl
        by_cases hle:l.getD i 0≤l.getD (i - 1) 0
        · exact ⟨false,⟨fun h=>(by cases h),fun h=>absurd ((h i (Nat.le_refl _) hi).2 h0) (by omega)⟩,go (fun k=>rfl) (yP hn (yJ (by omega) (by rw [hw];exact yJ (by omega) (yJ (by omega) (yJ (by rw [hr,hr2];exact hle) (ev_some rfl))))))⟩
        · obtain ⟨b,h1,h2⟩:=list_from l hl m (i + 1) (by omega)
          refine ⟨b,h1.trans (ok_next ⟨hn,fun _=>by omega⟩).symm,go (fun k=>rfl) (yP hn (yJ (by omega) (by rw [hw];refine yJ (by omega) (yJ (by omega) (yP (by rw [hr,hr2];exact hle) ?_));rw [wrap_in (by omega) (by omega),show (i:Int) + 1=((i + 1:Nat):Int) by omega];exact h2)))⟩
      · obtain ⟨b,h1,h2⟩:=list_from l hl m (i + 1) (by omega)
        refine ⟨b,h1.trans (ok_next ⟨hn,fun h=>absurd h h0⟩).symm,go (fun k=>rfl) (yP hn (yP (by omega) (by rw [wrap_in (by omega) (by omega),show (i:Int) + 1=((i + 1:Nat):Int) by omega];exact h2)))⟩
    · exact ⟨false,⟨fun h=>(by cases h),fun h=>absurd (h i (Nat.le_refl _) hi).1 hn⟩,go (fun k=>rfl) (yJ (Decidable.not_not.1 hn) (ev_some rfl))⟩
theorem asc_list (l:List Int):∀ (k:Nat) (i:Int),signal_ascending.l0 k l l (l.length:Int) i=jobshellref25_list.l0 k l i
  |0,_=>rfl
  |k + 1,i=>by
    unfold signal_ascending.l0 jobshellref25_list.l0
    by_cases h1:i < (l.length:Int)
    · simp only [h1,if_true,name_f,name_eq,asc_list l k]
    · simp only [h1,if_false]
theorem list_ev (l:List Int) (hl:l.length≤1000):∃ b:Bool,(b=true↔okFrom l 0)∧Ev (fun k=>jobshellref25_list.f k l) b∧Ev (fun k=>signal_ascending.f k l) b:=by
  obtain ⟨b,h1,h2⟩:=list_from l hl l.length 0 (by omega)
  exact ⟨b,h1,h2,Ev.congr (fun k=>asc_list l k 0) h2⟩
theorem ok_named {l:List Int} (h:okFrom l 0) {x:Int} (hx:x ∈ l):named x:=by
  obtain ⟨j,hj,rfl⟩:=List.getElem_of_mem hx
  have:=(h j (Nat.zero_le _) hj).1
  rwa [List.getD_eq_getElem?_getD,List.getElem?_eq_getElem hj] at this
end Go.Proofs.YtnkkdpjipfjdaaaDoor.Sg

end
section
namespace Go.Proofs.YtnkkdpjipfjdaaaDoor.Sg
open Go.RowKit Go.Proofs.YtnkkdpjipfjdaaaDoor.Q Go.Proofs.YtnkkdpjipfjdaaaDoorW.PrintWords Go.Proofs.YtnkkdpjipfjdaaaDoorW.PrintLast Go.Proofs.YtnkkdpjipfjdaaaDoorM Go.Proofs.YtnkkdpjipfjdaaaDoor.Ix
set_option linter.unusedVariables false
set_option linter.unusedSectionVars false
theorem ite_iff {c d:Prop} [Decidable c] [Decidable d] {a b:Int} (h:c↔d):(if c then a else b)=if d then a else b:=by
  by_cases k:c
  · rw [if_pos k,if_pos (h.1 k)]
  · rw [if_neg k,if_neg (fun e=>k (h.2 e))]
def stopsB (n:Int):Bool:=n == 19 ||(n == 20 ||(n == 4 ||n == 5))
theorem stops_ref (n:Int):jobshellref25_stops.f n=some (stopsB n):=by
  unfold jobshellref25_stops.f stopsB
  by_cases h1:n=19
  · subst h1;rfl
  · by_cases h2:n=20
    · subst h2;rfl
    · by_cases h3:n=4
      · subst h3;rfl
      · rw [if_neg h1,if_neg h2,if_neg h3,beq_eq_false_iff_ne.2 h1,beq_eq_false_iff_ne.2 h2,beq_eq_false_iff_ne.2 h3];rfl
def badA (g c:List Int) (m:Int):Prop:=((m=9∨m=19)∧(m ∈ g∨m ∈ c))∨(m ∈ g∧m ∈ c)
def badB (p g:List Int) (m:Int):Prop:=(m≠18∧m ∈ p∧m ∈ g)∨(stopsB m=true∧m ∈ p∧(18:Int) ∈ p)
instance (g c:List Int) (m:Int):Decidable (badA g c m):=by unfold badA;infer_instance
instance (p g:List Int) (m:Int):Decidable (badB p g m):=by unfold badB;infer_instance
section
variable (p g c:List Int) (hp:p.length≤1000) (hg:g.length≤1000) (hc:c.length≤1000)
include hp hg hc
theorem j4_ev (n:Int) (h0:1≤n) (h1:n≤20) (x:Bool) (r:Int) (hr:Ev (fun k=>jobshellref25_Valid.l1 k (n + 1) p g c) r) :
    Ev (fun k=>jobshellref25_Valid.j4 k n x p g c) (if x=true∨(stopsB n=true∧n ∈ p∧(18:Int) ∈ p) then 25 else r):=by
  refine Ev.step (fun k=>by apply jobshellref25_Valid.j4.eq_2) ?_
  cases x with
  |true=>rw [if_pos (.inl rfl)];exact yJ rfl (ev_some rfl)
  |false=>
    refine yP (by simp) (ev_bindc (stops_ref n) ?_)
    rw [wrap_in (by omega) (by omega)]
    by_cases hs:stopsB n=true
    · refine yJ hs (Ev.bind (has_ev p n hp) ?_)
      by_cases hn:n ∈ p
      · refine yJ (decide_eq_true hn) (Ev.bind (has_ev p 18 hp) ?_)
        by_cases h18:(18:Int) ∈ p
        · rw [if_pos (.inr ⟨hs,hn,h18⟩)];exact yJ (decide_eq_true h18) (ev_some rfl)
        · rw [if_neg (fun h=>h.elim (by simp) (fun h=>h18 h.2.2))];exact yP (by simp [h18]) hr
      · rw [if_neg (fun h=>h.elim (by simp) (fun h=>hn h.2.1))];exact yP (by simp [hn]) hr
    · rw [if_neg (fun h=>h.elim (by simp) (fun h=>hs h.1))];exact yP hs hr
theorem l1_ev:∀ (m:Nat) (n:Int),1≤n→n + m=21→∃ r:Int,Ev (fun k=>jobshellref25_Valid.l1 k n p g c) r∧((r=25∧∃ x,n≤x∧x≤20∧badB p g x)∨(r=0∧∀ x,n≤x→x≤20→¬ badB p g x))
  |0,n,h0,h=>⟨0,Ev.step (fun k=>by apply jobshellref25_Valid.l1.eq_2) (yP (by omega) (ev_some rfl)),.inr ⟨rfl,fun x h1 h2=>by omega⟩⟩
  |m + 1,n,h0,h=>by
    obtain ⟨r,h1,h2⟩:=l1_ev m (n + 1) (by omega) (by omega)
    refine ⟨if badB p g n then 25 else r,?_,?_⟩
    · refine Ev.step (fun k=>by apply jobshellref25_Valid.l1.eq_2) (yJ (by omega) ?_)
      by_cases h18:n=18
      · refine yJ h18 (ev_eq (j4_ev p g c hp hg hc n h0 (by omega) false r h1) ?_)
        refine ite_iff ?_
        unfold badB
        constructor
        · exact fun h=>h.elim (by simp) .inr
        · exact fun h=>h.elim (fun h=>absurd h18 h.1) .inr
      · refine yP h18 (Ev.bind (has_ev p n hp) ?_)
        by_cases hn:n ∈ p
        · refine yJ (decide_eq_true hn) (Ev.bind (has_ev g n hg) (ev_eq (j4_ev p g c hp hg hc n h0 (by omega) _ r h1) ?_))
          refine ite_iff ?_
          unfold badB
          simp only [decide_eq_true_eq]
          constructor
          · exact fun h=>h.elim (fun h=>.inl ⟨h18,hn,h⟩) .inr
          · exact fun h=>h.elim (fun h=>.inl h.2.2) .inr
        · refine yP (by simp [hn]) (ev_eq (j4_ev p g c hp hg hc n h0 (by omega) false r h1) ?_)
          refine ite_iff ?_
          unfold badB
          constructor
          · exact fun h=>h.elim (by simp) .inr
          · exact fun h=>h.elim (fun h=>absurd h.2.1 hn) .inr
    · by_cases hb:badB p g n
      · rw [if_pos hb];exact .inl ⟨rfl,n,Int.le_refl _,by omega,hb⟩
      · rw [if_neg hb]
        rcases h2 with ⟨e,x,x1,x2,x3⟩|⟨e,hx⟩
        · exact .inl ⟨e,x,by omega,x2,x3⟩
        · refine .inr ⟨e,fun x x1 x2=>?_⟩
          by_cases hxn:x=n
          · subst hxn;exact hb
          · exact hx x (by omega) x2
theorem j2_ev (n:Int) (h0:1≤n) (h1:n≤20) (x:Bool) (hx:x=true↔n=9∨n=19) (r:Int) (hr:Ev (fun k=>jobshellref25_Valid.l0 k (n + 1) p g c) r) :
    Ev (fun k=>jobshellref25_Valid.j2 k n x p g c) (if badA g c n then 1 else r):=by
  refine Ev.step (fun k=>by apply jobshellref25_Valid.j2.eq_2) ?_
  rw [wrap_in (by omega) (by omega)]
  by_cases h9:n=9∨n=19
  · refine yJ (hx.2 h9) (Ev.bind (has_ev g n hg) ?_)
    by_cases hn:n ∈ g
    · rw [if_pos (.inl ⟨h9,.inl hn⟩)];exact yJ (decide_eq_true hn) (ev_some rfl)
    · refine yP (by simp [hn]) (Ev.bind (has_ev c n hc) ?_)
      by_cases hm:n ∈ c
      · rw [if_pos (.inl ⟨h9,.inr hm⟩)];exact yJ (decide_eq_true hm) (ev_some rfl)
      · rw [if_neg (fun h=>h.elim (fun h=>h.2.elim hn hm) (fun h=>hn h.1))];exact yP (by simp [hm]) hr
  · refine yP (fun h=>h9 (hx.1 h)) (Ev.bind (has_ev g n hg) ?_)
    by_cases hn:n ∈ g
    · refine yJ (decide_eq_true hn) (Ev.bind (has_ev c n hc) ?_)
      by_cases hm:n ∈ c
      · rw [if_pos (.inr ⟨hn,hm⟩)];exact yJ (decide_eq_true hm) (ev_some rfl)
      · rw [if_neg (fun h=>h.elim (fun h=>h9 h.1) (fun h=>hm h.2))];exact yP (by simp [hm]) hr
    · rw [if_neg (fun h=>h.elim (fun h=>h9 h.1) (fun h=>hn h.1))];exact yP (by simp [hn]) hr
theorem l0_ev (r1:Int) (hr1:Ev (fun k=>jobshellref25_Valid.l1 k 1 p g c) r1):∀ (m:Nat) (n:Int),1≤n→n + m=21→∃ r:Int,Ev (fun k=>jobshellref25_Valid.l0 k n p g c) r∧((r=1∧∃ x,n≤x∧x≤20∧badA g c x)∨(r=r1∧∀ x,n≤x→x≤20→¬ badA g c x))
  |0,n,h0,h=>⟨r1,Ev.step (fun k=>by apply jobshellref25_Valid.l0.eq_2) (yP (by omega) hr1),.inr ⟨rfl,fun x h1 h2=>by omega⟩⟩
  |m + 1,n,h0,h=>by
    obtain ⟨r,h1,h2⟩:=l0_ev r1 hr1 m (n + 1) (by omega) (by omega)
    refine ⟨if badA g c n then 1 else r,?_,?_⟩
    · refine Ev.step (fun k=>by apply jobshellref25_Valid.l0.eq_2) (yJ (by omega) ?_)
      by_cases h9:n=9
      · exact yJ h9 (j2_ev p g c hp hg hc n h0 (by omega) true ⟨fun _=>.inl h9,fun _=>rfl⟩ r h1)
      · exact yP h9 (j2_ev p g c hp hg hc n h0 (by omega) (n == 19) ⟨fun h=>.inr (beq_iff_eq.1 h),fun h=>beq_iff_eq.2 (h.resolve_left h9)⟩ r h1)
    · by_cases hb:badA g c n
      · rw [if_pos hb];exact .inl ⟨rfl,n,Int.le_refl _,by omega,hb⟩
      · rw [if_neg hb]
        rcases h2 with ⟨e,x,x1,x2,x3⟩|⟨e,hx⟩
        · exact .inl ⟨e,x,by omega,x2,x3⟩
        · refine .inr ⟨e,fun x x1 x2=>?_⟩
          by_cases hxn:x=n
          · subst hxn;exact hb
          · exact hx x (by omega) x2
theorem valid_ref:∃ r:Int,Ev (fun k=>jobshellref25_Valid.f k p g c) r∧
    ((r=1∧¬ (okFrom p 0∧okFrom g 0∧okFrom c 0))∨
     ((okFrom p 0∧okFrom g 0∧okFrom c 0)∧((r=1∧∃ x,badA g c x)∨((∀ x,¬ badA g c x)∧((r=25∧∃ x,badB p g x)∨(r=0∧∀ x,¬ badB p g x)))))):=by
  obtain ⟨b1,e1,f1,_⟩:=list_ev p hp
  obtain ⟨b2,e2,f2,_⟩:=list_ev g hg
  obtain ⟨b3,e3,f3,_⟩:=list_ev c hc
  have out:Ev (fun k=>jobshellref25_Valid.j0 k true p g c) 1:=Ev.step (fun k=>by apply jobshellref25_Valid.j0.eq_2) (yJ rfl (ev_some rfl))
  cases b1 with
  |false=>exact ⟨1,Ev.bind f1 (yP (by simp) out),.inl ⟨rfl,fun h=>by simpa using e1.2 h.1⟩⟩
  |true=>
    cases b2 with
    |false=>exact ⟨1,Ev.bind f1 (yJ rfl (Ev.bind f2 (yP (by simp) out))),.inl ⟨rfl,fun h=>by simpa using e2.2 h.2.1⟩⟩
    |true=>
      cases b3 with
      |false=>exact ⟨1,Ev.bind f1 (yJ rfl (Ev.bind f2 (yJ rfl (Ev.bind f3 out)))),.inl ⟨rfl,fun h=>by simpa using e3.2 h.2.2⟩⟩
      |true=>
        have k1:=e1.1 rfl
        have k2:=e2.1 rfl
        have k3:=e3.1 rfl
        obtain ⟨r1,g1,s1⟩:=l1_ev p g c hp hg hc 20 1 (by omega) (by omega)
        obtain ⟨r0,g0,s0⟩:=l0_ev p g c hp hg hc r1 g1 20 1 (by omega) (by omega)
        have hA:∀ x,badA g c x→1≤x∧x≤20:=fun x h=>h.elim (fun h=>h.2.elim (fun h=>named_in (ok_named k2 h)) (fun h=>named_in (ok_named k3 h))) (fun h=>named_in (ok_named k2 h.1))
        have hB:∀ x,badB p g x→1≤x∧x≤20:=fun x h=>h.elim (fun h=>named_in (ok_named k1 h.2.1)) (fun h=>named_in (ok_named k1 h.2.1))
        refine ⟨r0,Ev.bind f1 (yJ rfl (Ev.bind f2 (yJ rfl (Ev.bind f3 (Ev.step (fun k=>by apply jobshellref25_Valid.j0.eq_2) (yP (by simp) g0)))))),.inr ⟨⟨k1,k2,k3⟩,?_⟩⟩
        rcases s0 with ⟨e,x,_,_,hx⟩|⟨e,hx⟩
        · exact .inl ⟨e,x,hx⟩
        · refine .inr ⟨fun x h=>hx x (hA x h).1 (hA x h).2 h,?_⟩
          rcases s1 with ⟨e',y,_,_,hy⟩|⟨e',hy⟩
          · exact .inl ⟨e.trans e',y,hy⟩
          · exact .inr ⟨e.trans e',fun x h=>hy x (hB x h).1 (hB x h).2 h⟩
end
end Go.Proofs.YtnkkdpjipfjdaaaDoor.Sg

end
section
namespace Go.Proofs.YtnkkdpjipfjdaaaDoor.Sg
open Go.RowKit Go.Proofs.YtnkkdpjipfjdaaaDoor.Q Go.Proofs.YtnkkdpjipfjdaaaDoorW.PrintWords Go.Proofs.YtnkkdpjipfjdaaaDoorW.PrintLast Go.Proofs.YtnkkdpjipfjdaaaDoorM Go.Proofs.YtnkkdpjipfjdaaaDoor.Ix
set_option linter.unusedVariables false
theorem less_f (x y:Int):cmp_Less_int.f x y=some (decide (x < y)):=by
  have h:cmp_isNaN_int.f x=some false:=by unfold cmp_isNaN_int.f;simp
  unfold cmp_Less_int.f
  rw [h,Option.bind_some,if_neg Bool.false_ne_true]
theorem nan_f (x:Int):slices_isNaN_int.f x=some false:=by unfold slices_isNaN_int.f;simp
theorem mid_eq (s:Int) (h0:0≤s) (h1:s≤4000):wrap64 ((IntKind.u64.wrap (wrap64 s)) / 2)=s / 2:=by
  rw [wrap_in (x:=s) (by omega) (by omega),show IntKind.u64.wrap s=s by rw [IntKind.wrap_u64];omega,wrap_in (by omega) (by omega)]
def cutAt (l:List Int) (x:Int) (p:Nat):Prop:=p≤l.length∧(∀ q,q < p→l.getD q 0 < x)∧∀ q,p≤q→q < l.length→x≤l.getD q 0
theorem asc_get {l:List Int} (h:okFrom l 0):∀ (d i:Nat),i + d < l.length→l.getD i 0≤l.getD (i + d) 0
  |0,i,_=>Int.le_refl _
  |d + 1,i,hd=>by
    have h1:=asc_get h d i (by omega)
    have h2:=(h (i + d + 1) (Nat.zero_le _) (by omega)).2 (by omega)
    rw [Nat.add_sub_cancel] at h2
    rw [← Nat.add_assoc]
    omega
theorem bs_from (l:List Int) (x:Int) (hl:l.length≤1000) (ha:okFrom l 0):∀ (d i j:Nat),j=i + d→j≤l.length→(∀ q,q < i→l.getD q 0 < x)→(∀ q,j≤q→q < l.length→x≤l.getD q 0)→
    ∃ p:Nat,cutAt l x p∧Ev (fun k=>slices_BinarySearch_int_int.l0 k l x (l.length:Int) (i:Int) (j:Int)) ((p:Int),decide (p < l.length∧l.getD p 0=x)):=by
  intro d
  induction d using Nat.strongRecOn with
  |ind d ih=>
    intro i j hj hjl h1 h2
    by_cases hd:d=0
    · subst hd
      obtain rfl:i=j:=by omega
      refine ⟨i,⟨hjl,h1,h2⟩,Ev.step (fun k=>by apply slices_BinarySearch_int_int.l0.eq_2) (yP (by omega) ?_)⟩
      by_cases hi:i < l.length
      · refine yJ (by omega) (yJ (by omega) (yJ (by omega) ?_))
        have hr:rd l (i:Int)=l.getD i 0:=rfl
        rw [hr]
        by_cases hx:l.getD i 0=x
        · exact yJ hx (ev_some (by rw [decide_eq_true (p:=_∧_) ⟨hi,hx⟩]))
        · refine yP hx (ev_bindc (nan_f _) ?_)
          exact yP Bool.false_ne_true (ev_some (by rw [decide_eq_false (p:=_∧_) (fun h=>hx h.2)]))
      · exact yP (by omega) (ev_some (by rw [decide_eq_false (p:=_∧_) (fun h=>hi h.1)]))
    · have hm:=mid_eq ((i:Int) + (j:Int)) (by omega) (by omega)
      obtain ⟨m,hmm⟩:∃ m:Nat,m=(i + j) / 2:=⟨_,rfl⟩
      have hmi:((i:Int) + (j:Int)) / 2=(m:Int):=by omega
      rw [hmi] at hm
      have hr:rd l (m:Int)=l.getD m 0:=rfl
      by_cases hlt:l.getD m 0 < x
      · obtain ⟨p,hp,hev⟩:=ih (j - (m + 1)) (by omega) (m + 1) j (by omega) hjl (fun q hq=>by
          have:=asc_get ha (m - q) q (by omega)
          rw [show q + (m - q)=m by omega] at this
          omega) h2
        refine ⟨p,hp,Ev.step (fun k=>by apply slices_BinarySearch_int_int.l0.eq_2) (yJ (by omega) ?_)⟩
        rw [hm]
        refine yJ (by omega) (yJ (by omega) (ev_bindc (less_f _ _) ?_))
        rw [hr]
        refine yJ (decide_eq_true hlt) ?_
        rw [wrap_in (by omega) (by omega),show (m:Int) + 1=((m + 1:Nat):Int) by omega]
        exact hev
      · obtain ⟨p,hp,hev⟩:=ih (m - i) (by omega) i m (by omega) (by omega) h1 (fun q hq hql=>by
          have:=asc_get ha (q - m) m (by omega)
          rw [show m + (q - m)=q by omega] at this
          omega)
        refine ⟨p,hp,Ev.step (fun k=>by apply slices_BinarySearch_int_int.l0.eq_2) (yJ (by omega) ?_)⟩
        rw [hm]
        refine yJ (by omega) (yJ (by omega) (ev_bindc (less_f _ _) ?_))
        rw [hr]
        exact yP (fun h=>hlt (of_decide_eq_true h)) hev
theorem with_ev (l:List Int) (x:Int) (hl:l.length≤1000) (ha:okFrom l 0):∃ p:Nat,cutAt l x p∧Ev (fun k=>signal_with.f k l x) (if p < l.length∧l.getD p 0=x then l else l.take p ++ x :: l.drop p):=by
  obtain ⟨p,hp,hev⟩:=bs_from l x hl ha l.length 0 l.length (by omega) (Nat.le_refl _) (fun q hq=>absurd hq (Nat.not_lt_zero _)) (fun q hq hq2=>absurd hq2 (by omega))
  refine ⟨p,hp,Ev.bind hev (yJ (by omega) ?_)⟩
  by_cases h:p < l.length∧l.getD p 0=x
  · rw [if_pos h]
    exact yJ (decide_eq_true h) (ev_some rfl)
  · rw [if_neg h]
    have:=hp.1
    exact yP (fun e=>h (of_decide_eq_true e)) (yJ (by show (0:Int)≤(p:Int)∧(p:Int)≤_;omega) (ev_some rfl))
end Go.Proofs.YtnkkdpjipfjdaaaDoor.Sg

end
section
namespace Go.Proofs.YtnkkdpjipfjdaaaDoor.Sg
open Go.RowKit Go.Proofs.YtnkkdpjipfjdaaaDoor.Q Go.Proofs.YtnkkdpjipfjdaaaDoorW.PrintWords Go.Proofs.YtnkkdpjipfjdaaaDoorW.PrintLast Go.Proofs.YtnkkdpjipfjdaaaDoorM Go.Proofs.YtnkkdpjipfjdaaaDoor.Ix
set_option linter.unusedVariables false
def withL (l:List Int) (x:Int) (p:Nat):List Int:=if p < l.length∧l.getD p 0=x then l else l.take p ++ x :: l.drop p
theorem withL_mem (l:List Int) (x:Int) (p:Nat) (y:Int):y ∈ withL l x p↔y=x∨y ∈ l:=by
  unfold withL
  by_cases h:p < l.length∧l.getD p 0=x
  · rw [if_pos h]
    have hx:x ∈ l:=by
      rw [← h.2,List.getD_eq_getElem?_getD,List.getElem?_eq_getElem h.1]
      exact List.getElem_mem h.1
    exact ⟨.inr,fun k=>k.elim (fun e=>e ▸ hx) id⟩
  · rw [if_neg h,List.mem_append,List.mem_cons]
    have e:y ∈ l↔y ∈ l.take p∨y ∈ l.drop p:=by
      rw [← List.mem_append,List.take_append_drop]
    rw [e]
    exact ⟨fun k=>k.elim (fun a=>.inr (.inl a)) (fun k=>k.elim .inl (fun a=>.inr (.inr a))),fun k=>k.elim (fun a=>.inr (.inl a)) (fun k=>k.elim .inl (fun a=>.inr (.inr a)))⟩
theorem ok_pair {l:List Int}:okFrom l 0↔(∀ x ∈ l,named x)∧l.Pairwise (· < ·):=by
  constructor
  · intro h
    refine ⟨fun x hx=>ok_named h hx,?_⟩
    rw [List.pairwise_iff_getElem]
    intro i j hi hj hij
    have h1:=asc_get h (j - 1 - i) i (by omega)
    have h2:=(h j (Nat.zero_le _) hj).2 (by omega)
    rw [show i + (j - 1 - i)=j - 1 by omega] at h1
    have e1:l.getD i 0=l[i]:=by rw [List.getD_eq_getElem?_getD,List.getElem?_eq_getElem hi];rfl
    have e2:l.getD j 0=l[j]:=by rw [List.getD_eq_getElem?_getD,List.getElem?_eq_getElem hj];rfl
    omega
  · intro ⟨h1,h2⟩ j _ hj
    rw [List.pairwise_iff_getElem] at h2
    have e2:l.getD j 0=l[j]:=by rw [List.getD_eq_getElem?_getD,List.getElem?_eq_getElem hj];rfl
    refine ⟨by rw [e2];exact h1 _ (List.getElem_mem hj),fun h0=>?_⟩
    have hj1:j - 1 < l.length:=by omega
    have e1:l.getD (j - 1) 0=l[j - 1]:=by rw [List.getD_eq_getElem?_getD,List.getElem?_eq_getElem hj1];rfl
    rw [e1,e2]
    exact h2 (j - 1) j hj1 hj (by omega)
theorem ok_filter {l:List Int} (h:okFrom l 0) (f:Int→Bool):okFrom (l.filter f) 0:=by
  rw [ok_pair] at h ⊢
  exact ⟨fun x hx=>h.1 x (List.mem_filter.1 hx).1,h.2.filter f⟩
theorem withL_ok {l:List Int} {x:Int} {p:Nat} (h:okFrom l 0) (hn:named x) (hp:cutAt l x p):okFrom (withL l x p) 0:=by
  have h':=ok_pair.1 h
  refine ok_pair.2 ⟨fun y hy=>(withL_mem l x p y).1 hy |>.elim (fun e=>e ▸ hn) (h'.1 y),?_⟩
  unfold withL
  by_cases hf:p < l.length∧l.getD p 0=x
  · rw [if_pos hf];exact h'.2
  · rw [if_neg hf]
    have hlow:∀ y ∈ l.take p,y < x:=by
      intro y hy
      obtain ⟨q,hq,rfl⟩:=List.getElem_of_mem hy
      rw [List.length_take] at hq
      have:=hp.2.1 q (by omega)
      rw [List.getD_eq_getElem?_getD,List.getElem?_eq_getElem (by omega)] at this
      rw [List.getElem_take]
      exact this
    have hhigh:∀ y ∈ l.drop p,x < y:=by
      intro y hy
      obtain ⟨q,hq,rfl⟩:=List.getElem_of_mem hy
      rw [List.length_drop] at hq
      have h0:=hp.2.2 (p + q) (by omega) (by omega)
      have hpl:p < l.length:=by omega
      have h1:=hp.2.2 p (Nat.le_refl _) hpl
      have h2:=asc_get h q p (by omega)
      have hne:l.getD p 0≠x:=fun e=>hf ⟨hpl,e⟩
      rw [List.getElem_drop]
      have e2:l.getD (p + q) 0=l[p + q]:=by rw [List.getD_eq_getElem?_getD,List.getElem?_eq_getElem (by omega)];rfl
      omega
    rw [List.pairwise_append]
    refine ⟨h'.2.sublist (List.take_sublist _ _),List.pairwise_cons.2 ⟨hhigh,h'.2.sublist (List.drop_sublist _ _)⟩,fun a ha b hb=>?_⟩
    rcases List.mem_cons.1 hb with rfl|hb
    · exact hlow a ha
    · have:=hlow a ha
      have:=hhigh b hb
      omega
theorem asc_unique:∀ {l m:List Int},l.Pairwise (· < ·)→m.Pairwise (· < ·)→(∀ x,x ∈ l↔x ∈ m)→l=m
  |[],[],_,_,_=>rfl
  |[],y :: m,_,_,h=>absurd ((h y).2 (List.mem_cons_self)) (by simp)
  |x :: l,[],_,_,h=>absurd ((h x).1 (List.mem_cons_self)) (by simp)
  |x :: l,y :: m,hl,hm,h=>by
    rw [List.pairwise_cons] at hl hm
    have e:x=y:=by
      have h1:=List.mem_cons.1 ((h x).1 List.mem_cons_self)
      have h2:=List.mem_cons.1 ((h y).2 List.mem_cons_self)
      rcases h1 with h1|h1
      · exact h1
      · rcases h2 with h2|h2
        · exact h2.symm
        · have:=hm.1 x h1
          have:=hl.1 y h2
          omega
    subst e
    congr 1
    refine asc_unique hl.2 hm.2 (fun z=>?_)
    have hz:=h z
    rw [List.mem_cons,List.mem_cons] at hz
    constructor
    · intro k
      have:=hl.1 z k
      exact (hz.1 (.inr k)).resolve_left (by omega)
    · intro k
      have:=hm.1 z k
      exact (hz.2 (.inr k)).resolve_left (by omega)
end Go.Proofs.YtnkkdpjipfjdaaaDoor.Sg

end
section
namespace Go.Proofs.YtnkkdpjipfjdaaaDoor.Sg
open Go.RowKit Go.Proofs.YtnkkdpjipfjdaaaDoor.Q Go.Proofs.YtnkkdpjipfjdaaaDoorW.PrintWords Go.Proofs.YtnkkdpjipfjdaaaDoorW.PrintLast Go.Proofs.YtnkkdpjipfjdaaaDoorM Go.Proofs.YtnkkdpjipfjdaaaDoor.Ix
set_option linter.unusedVariables false
theorem stops_sig (n:Int):signal_stops.f n=some (stopsB n):=stops_ref n
theorem clone_f (l:List Int) (h:l.length≤1000):slices_Clone_int_int.f l=some l:=by
  unfold slices_Clone_int_int.f
  rw [if_pos (by omega)]
theorem copied_f (p g c:List Int) (hp:p.length≤1000) (hg:g.length≤1000) (hc:c.length≤1000):signal_copied.f p g c=some (p,g,c):=by
  unfold signal_copied.f
  rw [clone_f p hp,clone_f g hg,clone_f c hc]
  rfl
def cleared (p:List Int) (n:Int):List Int:=if n=18 then p.filter (fun x=>!stopsB x) else if stopsB n=true then p.filter (fun x=>!(x == 18)) else p
theorem cleared_len (p:List Int) (n:Int):(cleared p n).length≤p.length:=by
  unfold cleared
  split
  · exact List.length_filter_le _ _
  · split
    · exact List.length_filter_le _ _
    · exact Nat.le_refl _
theorem cleared_ok {p:List Int} (h:okFrom p 0) (n:Int):okFrom (cleared p n) 0:=by
  unfold cleared
  split
  · exact ok_filter h _
  · split
    · exact ok_filter h _
    · exact h
theorem send_ev (p g c:List Int) (n:Int) (hp:p.length≤900) (hg:g.length≤1000) (hc:c.length≤1000) (ho:okFrom p 0) (hn:named n) :
    ∃ q,cutAt (cleared p n) n q∧Ev (fun k=>signal_Send.f k p g c n) (if n≠18∧n ∈ g then cleared p n else withL (cleared p n) n q,g,c):=by
  have hcl:=cleared_len p n
  obtain ⟨q,hq,hev⟩:=with_ev (cleared p n) n (by omega) (cleared_ok ho n)
  refine ⟨q,hq,?_⟩
  have hj:Ev (fun k=>signal_Send.j0 k n (cleared p n) g c) (if n≠18∧n ∈ g then cleared p n else withL (cleared p n) n q,g,c):=by
    refine Ev.step (fun k=>by apply signal_Send.j0.eq_2) ?_
    by_cases h18:n=18
    · rw [if_neg (fun h=>h.1 h18)]
      exact yJ h18 (Ev.bind hev (ev_some rfl))
    · refine yP h18 (Ev.bind (contains_ev g n hg) ?_)
      by_cases hin:n ∈ g
      · rw [if_pos ⟨h18,hin⟩]
        exact yJ (decide_eq_true hin) (ev_some rfl)
      · rw [if_neg (fun h=>hin h.2)]
        exact yP (fun h=>hin (of_decide_eq_true h)) (Ev.bind hev (ev_some rfl))
  refine ev_bindc (name_f n) (yP hn (ev_bindc (copied_f p g c (by omega) hg hc) ?_))
  by_cases h18:n=18
  · have e:cleared p n=p.filter (fun x=>!stopsB x):=by unfold cleared;rw [if_pos h18]
    rw [e] at hj ⊢
    refine yJ h18 (ev_bindc (by unfold signal_without_stops.f;rw [if_pos (by show p.length < _;omega)]) ?_)
    exact hj
  · refine yP h18 (ev_bindc (stops_sig n) ?_)
    by_cases hs:stopsB n=true
    · have e:cleared p n=p.filter (fun x=>!(x == 18)):=by unfold cleared;rw [if_neg h18,if_pos hs]
      rw [e] at hj ⊢
      refine yJ hs (ev_bindc (by unfold signal_without_1_44.f;rw [if_pos (by show p.length < _;omega)]) ?_)
      exact hj
    · have e:cleared p n=p:=by unfold cleared;rw [if_neg h18,if_neg hs]
      rw [e] at hj ⊢
      exact yP hs hj
end Go.Proofs.YtnkkdpjipfjdaaaDoor.Sg

end
section
namespace Go.Proofs.YtnkkdpjipfjdaaaDoor.Sg
open Go.RowKit Go.Proofs.YtnkkdpjipfjdaaaDoor.Q Go.Proofs.YtnkkdpjipfjdaaaDoorW.PrintWords Go.Proofs.YtnkkdpjipfjdaaaDoorW.PrintLast Go.Proofs.YtnkkdpjipfjdaaaDoorM Go.Proofs.YtnkkdpjipfjdaaaDoor.Ix
set_option linter.unusedVariables false
def fixedB (n:Int):Bool:=n == 9 ||n == 19
theorem fixed_f (n:Int):signal_fixed.f n=some (fixedB n):=by
  unfold signal_fixed.f fixedB
  by_cases h:n=9
  · subst h;rfl
  · rw [if_neg h,beq_eq_false_iff_ne.2 h];rfl
def lessL (l:List Int) (n:Int):List Int:=l.filter fun x=>!(x == n)
theorem lessL_len (l:List Int) (n:Int):(lessL l n).length≤l.length:=List.length_filter_le _ _
theorem lessL_mem (l:List Int) (n y:Int):y ∈ lessL l n↔y ∈ l∧y≠n:=by
  unfold lessL
  rw [List.mem_filter]
  simp
theorem less48 (l:List Int) (n:Int) (h:l.length≤1000):signal_without_1_48.f l n=some (lessL l n):=by
  unfold signal_without_1_48.f lessL
  rw [if_pos (by omega)]
theorem set_bad (p g c:List Int) (n how:Int) (h:¬ (named n∧fixedB n=false∧0≤how∧how≤2)):Ev (fun k=>signal_Set.f k p g c n how) (p,g,c,1):=by
  have out:Ev (fun k=>signal_Set.j0 k how true p g c n) (p,g,c,1):=Ev.step (fun k=>by apply signal_Set.j0.eq_2) (yJ rfl (ev_some rfl))
  refine ev_bindc (name_f n) ?_
  by_cases hn:named n
  · refine yP hn (ev_bindc (fixed_f n) ?_)
    cases hf:fixedB n with
    |true=>exact yJ rfl out
    |false=>
      refine yP Bool.false_ne_true ?_
      by_cases h0:how < 0
      · exact yJ h0 out
      · refine yP h0 ?_
        have:how > 2:=by
          by_cases h2:how > 2
          · exact h2
          · exact absurd ⟨hn,hf,by omega,by omega⟩ h
        rw [decide_eq_true this]
        exact out
  · exact yJ (Decidable.not_not.1 hn) out
theorem set_good (p g c:List Int) (n how:Int) (hp:p.length≤900) (hg:g.length≤900) (hc:c.length≤900) (hog:okFrom g 0) (hoc:okFrom c 0) (h:named n∧fixedB n=false∧0≤how∧how≤2) :
    ∃ q q':Nat,cutAt (lessL g n) n q∧cutAt (lessL c n) n q'∧Ev (fun k=>signal_Set.f k p g c n how)
      (if how=1 then (if n=18 then p else lessL p n) else p,if how=1 then withL (lessL g n) n q else lessL g n,if how=2 then withL (lessL c n) n q' else lessL c n,0):=by
  have hgl:=lessL_len g n
  have hcl:=lessL_len c n
  obtain ⟨q,hq,hev⟩:=with_ev (lessL g n) n (by omega) (ok_filter hog _)
  obtain ⟨q',hq',hev'⟩:=with_ev (lessL c n) n (by omega) (ok_filter hoc _)
  refine ⟨q,q',hq,hq',?_⟩
  refine ev_bindc (name_f n) (yP h.1 (ev_bindc ((fixed_f n).trans (congrArg some h.2.1)) (yP Bool.false_ne_true (yP (by omega) ?_))))
  rw [decide_eq_false (p:=how > 2) (by omega)]
  refine Ev.step (fun k=>by apply signal_Set.j0.eq_2) (yP Bool.false_ne_true (ev_bindc (copied_f p g c (by omega) (by omega) (by omega)) (ev_bindc (less48 g n (by omega)) (ev_bindc (less48 c n (by omega)) ?_))))
  by_cases h1:how=1
  · refine yJ h1 (Ev.bind hev ?_)
    rw [if_pos h1,if_pos h1,if_neg (show ¬ how=2 by omega)]
    by_cases h18:n=18
    · rw [if_pos h18,if_pos h18]
      exact ev_some rfl
    · rw [if_neg h18,if_neg h18]
      exact (ev_bindc (less48 p n (by omega)) (ev_some rfl))
  · refine yP h1 ?_
    rw [if_neg h1,if_neg h1]
    by_cases h2:how=2
    · refine yJ h2 (Ev.bind hev' ?_)
      rw [if_pos h2]
      exact ev_some rfl
    · refine yP h2 ?_
      rw [if_neg h2]
      exact ev_some rfl
end Go.Proofs.YtnkkdpjipfjdaaaDoor.Sg

end
section
namespace Go.Proofs.YtnkkdpjipfjdaaaDoor.Sg
open Go.RowKit Go.Proofs.YtnkkdpjipfjdaaaDoor.Q Go.Proofs.YtnkkdpjipfjdaaaDoorW.PrintWords Go.Proofs.YtnkkdpjipfjdaaaDoorW.PrintLast Go.Proofs.YtnkkdpjipfjdaaaDoorM Go.Proofs.YtnkkdpjipfjdaaaDoor.Ix
set_option linter.unusedVariables false
def up (i:Int):Nat→List Int
  |0=>[]
  |m + 1=>i :: up (i + 1) m
theorem up_mem:∀ (m:Nat) (i x:Int),x ∈ up i m↔i≤x∧x < i + m
  |0,i,x=>by unfold up;exact ⟨fun h=>(by cases h),fun h=>(by omega)⟩
  |m + 1,i,x=>by
    unfold up
    rw [List.mem_cons,up_mem m (i + 1) x]
    omega
theorem up_asc:∀ (m:Nat) (i:Int),(up i m).Pairwise (· < ·)
  |0,i=>.nil
  |m + 1,i=>.cons (fun x hx=>by have:=(up_mem m (i + 1) x).1 hx;omega) (up_asc m (i + 1))
theorem up_len:∀ (m:Nat) (i:Int),(up i m).length=m
  |0,i=>rfl
  |m + 1,i=>by unfold up;rw [List.length_cons,up_len m (i + 1)]
def addL (l:List Int) (n:Int):List Int:=(up 1 20).filter fun x=>x == n ||decide (x ∈ l)
theorem addL_eq {l:List Int} {n:Int} {q:Nat} (ho:okFrom l 0) (hn:named n) (hq:cutAt l n q):addL l n=withL l n q:=by
  refine asc_unique ((up_asc 20 1).filter _) (ok_pair.1 (withL_ok ho hn hq)).2 (fun x=>?_)
  rw [withL_mem]
  unfold addL
  rw [List.mem_filter,up_mem]
  have hx:x ∈ l→1≤x∧x≤20:=fun h=>named_in (ok_named ho h)
  have hn':=named_in hn
  constructor
  · intro h
    simpa using h.2
  · intro h
    refine ⟨?_,by simpa using h⟩
    rcases h with h|h
    · omega
    · have:=hx h;omega
theorem ok_len {l:List Int} (ho:okFrom l 0):l.length≤20:=by
  have e:(up 1 20).filter (fun x=>decide (x ∈ l))=l:=by
    refine asc_unique ((up_asc 20 1).filter _) (ok_pair.1 ho).2 (fun x=>?_)
    rw [List.mem_filter,up_mem]
    constructor
    · intro h
      simpa using h.2
    · intro h
      have:=named_in (ok_named ho h)
      exact ⟨by omega,by simpa using h⟩
  have h:=List.length_filter_le (fun x=>decide (x ∈ l)) (up 1 20)
  rw [e,up_len] at h
  exact h
end Go.Proofs.YtnkkdpjipfjdaaaDoor.Sg

end
section
namespace Go.Proofs.YtnkkdpjipfjdaaaDoor.Sg
open Go.RowKit Go.Proofs.YtnkkdpjipfjdaaaDoor.Q Go.Proofs.YtnkkdpjipfjdaaaDoorW.PrintWords Go.Proofs.YtnkkdpjipfjdaaaDoorW.PrintLast Go.Proofs.YtnkkdpjipfjdaaaDoorM Go.Proofs.YtnkkdpjipfjdaaaDoor.Ix
set_option linter.unusedVariables false
theorem named_lit {n:Int} (h:((sigName n).toList == ([]:List UInt8))=false):named n:=fun k=>by rw [k] at h;exact absurd h (by decide)
theorem def_some (n:Int):∃ d,signal_Default.f n=some d∧(d=0∨named n):=by
  unfold signal_Default.f
  rw [stops_sig,Option.bind_some]
  by_cases h1:stopsB n=true
  · rw [if_pos h1]
    refine ⟨_,rfl,.inr ?_⟩
    have h2:n=19∨n=20∨n=4∨n=5:=by simpa [stopsB] using h1
    rcases h2 with rfl|rfl|rfl|rfl <;> exact named_lit (by kernel_rfl)
  · rw [if_neg h1]
    by_cases h2:n=18
    · rw [if_pos h2]
      exact ⟨_,rfl,.inr (by rw [h2];exact named_lit (by kernel_rfl))⟩
    · rw [if_neg h2]
      by_cases h3:n=17
      · rw [if_pos h3];exact ⟨_,rfl,.inl rfl⟩
      · rw [if_neg h3,name_f,Option.bind_some]
        by_cases h4:(sigName n).toList=([]:List UInt8)
        · rw [if_pos h4];exact ⟨_,rfl,.inl rfl⟩
        · rw [if_neg h4];exact ⟨_,rfl,.inr h4⟩
theorem min_fold:∀ (l:List Int) (x:Int),(∀ y ∈ l,x < y)→l.foldl min x=x
  |[],x,_=>rfl
  |y :: l,x,h=>by
    have hy:=h y (List.mem_cons_self ..)
    rw [List.foldl_cons,show min x y=x by omega]
    exact min_fold l x (fun z hz=>h z (List.mem_cons_of_mem _ hz))
theorem less41 (l:List Int) (n:Int) (h:l.length≤1000):signal_without_1_41.f l n=some (lessL l n):=by
  unfold signal_without_1_41.f lessL
  rw [if_pos (by omega)]
def nextN (p:List Int):Int:=if (9:Int) ∈ p then 9 else p.headD 0
theorem next_nil (g c:List Int):Ev (fun k=>signal_Next.f k [] g c) ([],g,c,0,0):=yJ rfl (ev_some rfl)
theorem next_ev (p g c:List Int) (d:Int) (hp:p.length≤1000) (hg:g.length≤1000) (hc:c.length≤1000) (ho:okFrom p 0) (hne:p≠[]) (hd:signal_Default.f (nextN p)=some d) :
    Ev (fun k=>signal_Next.f k p g c) (lessL p (nextN p),g,c,nextN p,if nextN p ∈ c then 4 else d):=by
  have hlen:p.length≠0:=fun h=>hne (List.length_eq_zero_iff.1 h)
  have hj:Ev (fun k=>signal_Next.j0 k p g c (nextN p)) (lessL p (nextN p),g,c,nextN p,if nextN p ∈ c then 4 else d):=by
    refine Ev.step (fun k=>by apply signal_Next.j0.eq_2) (ev_bindc hd (Ev.bind (contains_ev c (nextN p) hc) ?_))
    by_cases hin:nextN p ∈ c
    · rw [if_pos hin]
      exact yJ (decide_eq_true hin) (ev_bindc (copied_f p g c hp hg hc) (ev_bindc (less41 p _ hp) (ev_some rfl)))
    · rw [if_neg hin]
      exact yP (fun h=>hin (of_decide_eq_true h)) (ev_bindc (copied_f p g c hp hg hc) (ev_bindc (less41 p _ hp) (ev_some rfl)))
  have hm:slices_Min_int_int.f p=some (p.headD 0):=by
    cases p with
    |nil=>exact absurd rfl hne
    |cons x t=>
      have h2:=(ok_pair.1 ho).2
      rw [List.pairwise_cons] at h2
      show some (t.foldl min x)=some x
      rw [min_fold t x h2.1]
  refine yP (by omega) (ev_bindc hm (Ev.bind (contains_ev p 9 hp) ?_))
  by_cases h9:(9:Int) ∈ p
  · have e:nextN p=9:=by unfold nextN;rw [if_pos h9]
    rw [e] at hj ⊢
    exact yJ (decide_eq_true h9) hj
  · have e:nextN p=p.headD 0:=by unfold nextN;rw [if_neg h9]
    rw [e] at hj ⊢
    exact yP (fun h=>h9 (of_decide_eq_true h)) hj
def sentL (p g:List Int) (n:Int):List Int:=if named n then (if n≠18∧n ∈ g then cleared p n else addL (cleared p n) n) else p
instance (n:Int):Decidable (named n):=by unfold named;infer_instance
theorem sent_ok {p:List Int} (g:List Int) {n:Int} (ho:okFrom p 0):okFrom (sentL p g n) 0:=by
  unfold sentL
  split
  · rename_i hn
    split
    · exact cleared_ok ho n
    · refine ok_pair.2 ⟨fun x hx=>?_,(up_asc 20 1).filter _⟩
      have hx:=(List.mem_filter.1 hx).2
      simp only [Bool.or_eq_true,beq_iff_eq,decide_eq_true_eq] at hx
      rcases hx with hx|hx
      · rw [hx];exact hn
      · exact ok_named (cleared_ok ho n) hx
  · exact ho
theorem send_any (p g c:List Int) (n:Int) (ho:okFrom p 0) (hg:g.length≤1000) (hc:c.length≤1000):Ev (fun k=>signal_Send.f k p g c n) (sentL p g n,g,c):=by
  have lp:=ok_len ho
  unfold sentL
  by_cases hn:named n
  · rw [if_pos hn]
    obtain ⟨q,hq,e⟩:=send_ev p g c n (by omega) hg hc ho hn
    rw [← addL_eq (cleared_ok ho n) hn hq] at e
    exact e
  · rw [if_neg hn]
    exact ev_bindc (name_f n) (yJ (Decidable.not_not.1 hn) (ev_some rfl))
end Go.Proofs.YtnkkdpjipfjdaaaDoor.Sg

end
