/- Own texts of one claim, put one behind the other by wip/tool/pack.py: words beside the print's, what each printed function computes, and the plain laws. -/
import Derived.Test.YtpljggoogodhlaaKStB
import Derived.WalkSpells
import Derived.Deep.RegionLaw
import Derived.Shelf.Abstract
import Derived.Shelf.Spec.SlicesInsertGrow
section

namespace Go.Proofs.Ytpljggoogodhlaa.Q
open Go.RowKit Go.Proofs.YtpljggoogodhlaaW.PrintWords Go.Proofs.YtpljggoogodhlaaW.PrintLast Go.Proofs.YtpljggoogodhlaaW.PrintMore Go.Proofs.YtpljggoogodhlaaM
open Kd
attribute [local go_sem] max2_int min2_int max_two min_two max_three min_three max_four min_four
set_option linter.unusedVariables false
set_option linter.unusedSimpArgs false
attribute [local go_sem high] eqA24
def jobshelllaw23_awake.f (k:Nat)  : Option (Bool):=(some (([(⟨0,0,false⟩:S36),(⟨1,1,false⟩:S36),(⟨2,1,false⟩:S36)]:List (S36)):List (S36))).bind fun y146=>((fdtab_Free.f k y146 0).bind fun bt149=>((fdtab_Free.f k y146 10).bind fun bt151=>((fdtab_Free.f k y146 32).bind fun bt153=>((fdtab_Exec.f k (([(⟨0,0,false⟩:S36),(⟨3,5,true⟩:S36),(⟨4,5,true⟩:S36)]:List (S36)))).bind fun bt158=>((fdtab_Add.f k ([]:List (S24)) 5 0 0 0 1 (⟨#[]⟩:ByteArray)).bind fun bt164=>((fdtab_Release.f k bt164.1 0).bind fun bt169=>(if bt149.1=3 then (if bt149.2=true then (if bt151.1=10 then (if bt151.2=true then (if bt153.2=true then (none) else (if (bt158.1.length:Int)=1 then (if (bt158.2.length:Int)=2 then (if 0 < (bt158.2.length:Int) then (if (rd bt158.2 0)=5 then (if 1 < (bt158.2.length:Int) then (if (rd bt158.2 1)=5 then (if bt164.2.2=0 then (if bt164.2.1=0 then (if (bt164.1.length:Int)=1 then (if bt169.2.2=0 then (if bt169.2.1=true then (if (bt169.1.length:Int)=1 then (if 0 < (bt169.1.length:Int) then (if (((rd_T24 bt169.1 0).f0) == 0 && (((rd_T24 bt169.1 0).f1) == 0 && (((rd_T24 bt169.1 0).f2) == 0 && (((rd_T24 bt169.1 0).f3) == 0 && (((rd_T24 bt169.1 0).f4) == 0 && ((((rd_T24 bt169.1 0).f5).toList) == ([]:List UInt8)))))))=true then ((fdtab_Valid.f k y146).bind fun t177=>(some (t177 == 0))) else (none)) else (none)) else (none)) else (none)) else (none)) else (none)) else (none)) else (none)) else (none)) else (none)) else (none)) else (none)) else (none)) else (none))) else (none)) else (none)) else (none)) else (none))))))))
theorem jobshelllaw23_awake.mono:∀ k,LeO (jobshelllaw23_awake.f k ) (jobshelllaw23_awake.f (k + 1) ):=by
 intro  k
 unfold jobshelllaw23_awake.f
 repeat' first
   |(with_reducible exact fdtab_Add.mono _ _ _ _ _ _ _ _)
   |(with_reducible exact fdtab_Exec.mono _ _)
   |(with_reducible exact fdtab_Free.mono _ _ _)
   |(with_reducible exact fdtab_Release.mono _ _ _)
   |(with_reducible exact fdtab_Valid.mono _ _)
   |(with_reducible exact LeO.refl _)
   |(with_reducible exact LeO.none _)
   |(with_reducible refine LeO.ite ?_ ?_)
   |(with_reducible refine LeO.bind ?_ (fun _=>?_))
   |exact fdtab_Add.mono _ _ _ _ _ _ _ _
   |exact fdtab_Exec.mono _ _
   |exact fdtab_Free.mono _ _ _
   |exact fdtab_Release.mono _ _ _
   |exact fdtab_Valid.mono _ _
   |exact LeO.none _
   |refine LeO.ite ?_ ?_
   |refine LeO.bind ?_ (fun _=>?_)
set_option maxHeartbeats 8000000 in
set_option maxRecDepth 10000000 in
theorem jobshelllaw23_awake.calls (k:Nat)  (r:Bool) (w:World) (h:jobshelllaw23_awake.f k  = some r) :
  Calls Try.prog 10 #[] w fun e w'=>e=.returned (.bool r)∧Below w.heap.size w w':=by
 have hu36:=Try.underlying36
 have hu24:=Try.underlying24
 have HB:=Zk (Below.refl w.heap.size w)
 have H:((some (([(⟨0,0,false⟩:S36),(⟨1,1,false⟩:S36),(⟨2,1,false⟩:S36)]:List (S36)):List (S36))).bind fun y146=>((fdtab_Free.f k y146 0).bind fun bt149=>((fdtab_Free.f k y146 10).bind fun bt151=>((fdtab_Free.f k y146 32).bind fun bt153=>((fdtab_Exec.f k (([(⟨0,0,false⟩:S36),(⟨3,5,true⟩:S36),(⟨4,5,true⟩:S36)]:List (S36)))).bind fun bt158=>((fdtab_Add.f k ([]:List (S24)) 5 0 0 0 1 (⟨#[]⟩:ByteArray)).bind fun bt164=>((fdtab_Release.f k bt164.1 0).bind fun bt169=>(if bt149.1=3 then (if bt149.2=true then (if bt151.1=10 then (if bt151.2=true then (if bt153.2=true then (none) else (if (bt158.1.length:Int)=1 then (if (bt158.2.length:Int)=2 then (if 0 < (bt158.2.length:Int) then (if (rd bt158.2 0)=5 then (if 1 < (bt158.2.length:Int) then (if (rd bt158.2 1)=5 then (if bt164.2.2=0 then (if bt164.2.1=0 then (if (bt164.1.length:Int)=1 then (if bt169.2.2=0 then (if bt169.2.1=true then (if (bt169.1.length:Int)=1 then (if 0 < (bt169.1.length:Int) then (if (((rd_T24 bt169.1 0).f0) == 0 && (((rd_T24 bt169.1 0).f1) == 0 && (((rd_T24 bt169.1 0).f2) == 0 && (((rd_T24 bt169.1 0).f3) == 0 && (((rd_T24 bt169.1 0).f4) == 0 && ((((rd_T24 bt169.1 0).f5).toList) == ([]:List UInt8)))))))=true then ((fdtab_Valid.f k y146).bind fun t177=>(some (t177 == 0))) else (none)) else (none)) else (none)) else (none)) else (none)) else (none)) else (none)) else (none)) else (none)) else (none)) else (none)) else (none)) else (none)) else (none))) else (none)) else (none)) else (none)) else (none)))))))))=some r:=h
 clear h
 obtain ⟨y146,hy146⟩:∃ y_:List (S36),y_=(([(⟨0,0,false⟩:S36),(⟨1,1,false⟩:S36),(⟨2,1,false⟩:S36)]:List (S36))):=⟨_,rfl⟩
 replace H:((fdtab_Free.f k y146 0).bind fun bt149=>((fdtab_Free.f k y146 10).bind fun bt151=>((fdtab_Free.f k y146 32).bind fun bt153=>((fdtab_Exec.f k (([(⟨0,0,false⟩:S36),(⟨3,5,true⟩:S36),(⟨4,5,true⟩:S36)]:List (S36)))).bind fun bt158=>((fdtab_Add.f k ([]:List (S24)) 5 0 0 0 1 (⟨#[]⟩:ByteArray)).bind fun bt164=>((fdtab_Release.f k bt164.1 0).bind fun bt169=>(if bt149.1=3 then (if bt149.2=true then (if bt151.1=10 then (if bt151.2=true then (if bt153.2=true then (none) else (if (bt158.1.length:Int)=1 then (if (bt158.2.length:Int)=2 then (if 0 < (bt158.2.length:Int) then (if (rd bt158.2 0)=5 then (if 1 < (bt158.2.length:Int) then (if (rd bt158.2 1)=5 then (if bt164.2.2=0 then (if bt164.2.1=0 then (if (bt164.1.length:Int)=1 then (if bt169.2.2=0 then (if bt169.2.1=true then (if (bt169.1.length:Int)=1 then (if 0 < (bt169.1.length:Int) then (if (((rd_T24 bt169.1 0).f0) == 0 && (((rd_T24 bt169.1 0).f1) == 0 && (((rd_T24 bt169.1 0).f2) == 0 && (((rd_T24 bt169.1 0).f3) == 0 && (((rd_T24 bt169.1 0).f4) == 0 && ((((rd_T24 bt169.1 0).f5).toList) == ([]:List UInt8)))))))=true then ((fdtab_Valid.f k y146).bind fun t177=>(some (t177 == 0))) else (none)) else (none)) else (none)) else (none)) else (none)) else (none)) else (none)) else (none)) else (none)) else (none)) else (none)) else (none)) else (none)) else (none))) else (none)) else (none)) else (none)) else (none))))))))=some r:=by first|(rw [hy146];with_reducible exact H)|(have H2_:=(Option.bind_some _ _).symm.trans H;rw [hy146];with_reducible exact H2_)|(have H2_:=(Option.bind_some _ _).symm.trans H;with_reducible exact H2_)|with_reducible exact H|(rw [hy146];exact H)|exact H
 have Ny146:=Zk hy146
 clear hy146
 replace H:=Option.bind_eq_some_iff.mp H
 obtain ⟨⟨t149,t150⟩,A10,H⟩:=H
 replace H:((fdtab_Free.f k y146 10).bind fun bt151=>((fdtab_Free.f k y146 32).bind fun bt153=>((fdtab_Exec.f k (([(⟨0,0,false⟩:S36),(⟨3,5,true⟩:S36),(⟨4,5,true⟩:S36)]:List (S36)))).bind fun bt158=>((fdtab_Add.f k ([]:List (S24)) 5 0 0 0 1 (⟨#[]⟩:ByteArray)).bind fun bt164=>((fdtab_Release.f k bt164.1 0).bind fun bt169=>(if t149=3 then (if t150=true then (if bt151.1=10 then (if bt151.2=true then (if bt153.2=true then (none) else (if (bt158.1.length:Int)=1 then (if (bt158.2.length:Int)=2 then (if 0 < (bt158.2.length:Int) then (if (rd bt158.2 0)=5 then (if 1 < (bt158.2.length:Int) then (if (rd bt158.2 1)=5 then (if bt164.2.2=0 then (if bt164.2.1=0 then (if (bt164.1.length:Int)=1 then (if bt169.2.2=0 then (if bt169.2.1=true then (if (bt169.1.length:Int)=1 then (if 0 < (bt169.1.length:Int) then (if (((rd_T24 bt169.1 0).f0) == 0 && (((rd_T24 bt169.1 0).f1) == 0 && (((rd_T24 bt169.1 0).f2) == 0 && (((rd_T24 bt169.1 0).f3) == 0 && (((rd_T24 bt169.1 0).f4) == 0 && ((((rd_T24 bt169.1 0).f5).toList) == ([]:List UInt8)))))))=true then ((fdtab_Valid.f k y146).bind fun t177=>(some (t177 == 0))) else (none)) else (none)) else (none)) else (none)) else (none)) else (none)) else (none)) else (none)) else (none)) else (none)) else (none)) else (none)) else (none)) else (none))) else (none)) else (none)) else (none)) else (none)))))))=some r:=H
 have A1:=Zk A10
 clear A10
 replace H:=Option.bind_eq_some_iff.mp H
 obtain ⟨⟨t151,t152⟩,A20,H⟩:=H
 replace H:((fdtab_Free.f k y146 32).bind fun bt153=>((fdtab_Exec.f k (([(⟨0,0,false⟩:S36),(⟨3,5,true⟩:S36),(⟨4,5,true⟩:S36)]:List (S36)))).bind fun bt158=>((fdtab_Add.f k ([]:List (S24)) 5 0 0 0 1 (⟨#[]⟩:ByteArray)).bind fun bt164=>((fdtab_Release.f k bt164.1 0).bind fun bt169=>(if t149=3 then (if t150=true then (if t151=10 then (if t152=true then (if bt153.2=true then (none) else (if (bt158.1.length:Int)=1 then (if (bt158.2.length:Int)=2 then (if 0 < (bt158.2.length:Int) then (if (rd bt158.2 0)=5 then (if 1 < (bt158.2.length:Int) then (if (rd bt158.2 1)=5 then (if bt164.2.2=0 then (if bt164.2.1=0 then (if (bt164.1.length:Int)=1 then (if bt169.2.2=0 then (if bt169.2.1=true then (if (bt169.1.length:Int)=1 then (if 0 < (bt169.1.length:Int) then (if (((rd_T24 bt169.1 0).f0) == 0 && (((rd_T24 bt169.1 0).f1) == 0 && (((rd_T24 bt169.1 0).f2) == 0 && (((rd_T24 bt169.1 0).f3) == 0 && (((rd_T24 bt169.1 0).f4) == 0 && ((((rd_T24 bt169.1 0).f5).toList) == ([]:List UInt8)))))))=true then ((fdtab_Valid.f k y146).bind fun t177=>(some (t177 == 0))) else (none)) else (none)) else (none)) else (none)) else (none)) else (none)) else (none)) else (none)) else (none)) else (none)) else (none)) else (none)) else (none)) else (none))) else (none)) else (none)) else (none)) else (none))))))=some r:=H
 have A2:=Zk A20
 clear A20
 replace H:=Option.bind_eq_some_iff.mp H
 obtain ⟨⟨t153,t154⟩,A30,H⟩:=H
 replace H:((fdtab_Exec.f k (([(⟨0,0,false⟩:S36),(⟨3,5,true⟩:S36),(⟨4,5,true⟩:S36)]:List (S36)))).bind fun bt158=>((fdtab_Add.f k ([]:List (S24)) 5 0 0 0 1 (⟨#[]⟩:ByteArray)).bind fun bt164=>((fdtab_Release.f k bt164.1 0).bind fun bt169=>(if t149=3 then (if t150=true then (if t151=10 then (if t152=true then (if t154=true then (none) else (if (bt158.1.length:Int)=1 then (if (bt158.2.length:Int)=2 then (if 0 < (bt158.2.length:Int) then (if (rd bt158.2 0)=5 then (if 1 < (bt158.2.length:Int) then (if (rd bt158.2 1)=5 then (if bt164.2.2=0 then (if bt164.2.1=0 then (if (bt164.1.length:Int)=1 then (if bt169.2.2=0 then (if bt169.2.1=true then (if (bt169.1.length:Int)=1 then (if 0 < (bt169.1.length:Int) then (if (((rd_T24 bt169.1 0).f0) == 0 && (((rd_T24 bt169.1 0).f1) == 0 && (((rd_T24 bt169.1 0).f2) == 0 && (((rd_T24 bt169.1 0).f3) == 0 && (((rd_T24 bt169.1 0).f4) == 0 && ((((rd_T24 bt169.1 0).f5).toList) == ([]:List UInt8)))))))=true then ((fdtab_Valid.f k y146).bind fun t177=>(some (t177 == 0))) else (none)) else (none)) else (none)) else (none)) else (none)) else (none)) else (none)) else (none)) else (none)) else (none)) else (none)) else (none)) else (none)) else (none))) else (none)) else (none)) else (none)) else (none)))))=some r:=H
 have A3:=Zk A30
 clear A30
 obtain ⟨y155,hy155⟩:∃ y_:List (S36),y_=(([(⟨0,0,false⟩:S36),(⟨3,5,true⟩:S36),(⟨4,5,true⟩:S36)]:List (S36))):=⟨_,rfl⟩
 replace H:((fdtab_Exec.f k y155).bind fun bt158=>((fdtab_Add.f k ([]:List (S24)) 5 0 0 0 1 (⟨#[]⟩:ByteArray)).bind fun bt164=>((fdtab_Release.f k bt164.1 0).bind fun bt169=>(if t149=3 then (if t150=true then (if t151=10 then (if t152=true then (if t154=true then (none) else (if (bt158.1.length:Int)=1 then (if (bt158.2.length:Int)=2 then (if 0 < (bt158.2.length:Int) then (if (rd bt158.2 0)=5 then (if 1 < (bt158.2.length:Int) then (if (rd bt158.2 1)=5 then (if bt164.2.2=0 then (if bt164.2.1=0 then (if (bt164.1.length:Int)=1 then (if bt169.2.2=0 then (if bt169.2.1=true then (if (bt169.1.length:Int)=1 then (if 0 < (bt169.1.length:Int) then (if (((rd_T24 bt169.1 0).f0) == 0 && (((rd_T24 bt169.1 0).f1) == 0 && (((rd_T24 bt169.1 0).f2) == 0 && (((rd_T24 bt169.1 0).f3) == 0 && (((rd_T24 bt169.1 0).f4) == 0 && ((((rd_T24 bt169.1 0).f5).toList) == ([]:List UInt8)))))))=true then ((fdtab_Valid.f k y146).bind fun t177=>(some (t177 == 0))) else (none)) else (none)) else (none)) else (none)) else (none)) else (none)) else (none)) else (none)) else (none)) else (none)) else (none)) else (none)) else (none)) else (none))) else (none)) else (none)) else (none)) else (none)))))=some r:=by first|(rw [hy155];with_reducible exact H)|(have H2_:=(Option.bind_some _ _).symm.trans H;rw [hy155];with_reducible exact H2_)|(have H2_:=(Option.bind_some _ _).symm.trans H;with_reducible exact H2_)|with_reducible exact H|(rw [hy155];exact H)|exact H
 have Ny155:=Zk hy155
 clear hy155
 replace H:=Option.bind_eq_some_iff.mp H
 obtain ⟨⟨t158,t159⟩,A40,H⟩:=H
 replace H:((fdtab_Add.f k ([]:List (S24)) 5 0 0 0 1 (⟨#[]⟩:ByteArray)).bind fun bt164=>((fdtab_Release.f k bt164.1 0).bind fun bt169=>(if t149=3 then (if t150=true then (if t151=10 then (if t152=true then (if t154=true then (none) else (if (t158.length:Int)=1 then (if (t159.length:Int)=2 then (if 0 < (t159.length:Int) then (if (rd t159 0)=5 then (if 1 < (t159.length:Int) then (if (rd t159 1)=5 then (if bt164.2.2=0 then (if bt164.2.1=0 then (if (bt164.1.length:Int)=1 then (if bt169.2.2=0 then (if bt169.2.1=true then (if (bt169.1.length:Int)=1 then (if 0 < (bt169.1.length:Int) then (if (((rd_T24 bt169.1 0).f0) == 0 && (((rd_T24 bt169.1 0).f1) == 0 && (((rd_T24 bt169.1 0).f2) == 0 && (((rd_T24 bt169.1 0).f3) == 0 && (((rd_T24 bt169.1 0).f4) == 0 && ((((rd_T24 bt169.1 0).f5).toList) == ([]:List UInt8)))))))=true then ((fdtab_Valid.f k y146).bind fun t177=>(some (t177 == 0))) else (none)) else (none)) else (none)) else (none)) else (none)) else (none)) else (none)) else (none)) else (none)) else (none)) else (none)) else (none)) else (none)) else (none))) else (none)) else (none)) else (none)) else (none))))=some r:=H
 have A4:=Zk A40
 clear A40
 replace H:=Option.bind_eq_some_iff.mp H
 obtain ⟨⟨t164,t167,t168⟩,A50,H⟩:=H
 replace H:((fdtab_Release.f k t164 0).bind fun bt169=>(if t149=3 then (if t150=true then (if t151=10 then (if t152=true then (if t154=true then (none) else (if (t158.length:Int)=1 then (if (t159.length:Int)=2 then (if 0 < (t159.length:Int) then (if (rd t159 0)=5 then (if 1 < (t159.length:Int) then (if (rd t159 1)=5 then (if t168=0 then (if t167=0 then (if (t164.length:Int)=1 then (if bt169.2.2=0 then (if bt169.2.1=true then (if (bt169.1.length:Int)=1 then (if 0 < (bt169.1.length:Int) then (if (((rd_T24 bt169.1 0).f0) == 0 && (((rd_T24 bt169.1 0).f1) == 0 && (((rd_T24 bt169.1 0).f2) == 0 && (((rd_T24 bt169.1 0).f3) == 0 && (((rd_T24 bt169.1 0).f4) == 0 && ((((rd_T24 bt169.1 0).f5).toList) == ([]:List UInt8)))))))=true then ((fdtab_Valid.f k y146).bind fun t177=>(some (t177 == 0))) else (none)) else (none)) else (none)) else (none)) else (none)) else (none)) else (none)) else (none)) else (none)) else (none)) else (none)) else (none)) else (none)) else (none))) else (none)) else (none)) else (none)) else (none)))=some r:=H
 have A5:=Zk A50
 clear A50
 replace H:=Option.bind_eq_some_iff.mp H
 obtain ⟨⟨t169,t172,t173⟩,A60,H⟩:=H
 replace H:(if t149=3 then (if t150=true then (if t151=10 then (if t152=true then (if t154=true then (none) else (if (t158.length:Int)=1 then (if (t159.length:Int)=2 then (if 0 < (t159.length:Int) then (if (rd t159 0)=5 then (if 1 < (t159.length:Int) then (if (rd t159 1)=5 then (if t168=0 then (if t167=0 then (if (t164.length:Int)=1 then (if t173=0 then (if t172=true then (if (t169.length:Int)=1 then (if 0 < (t169.length:Int) then (if (((rd_T24 t169 0).f0) == 0 && (((rd_T24 t169 0).f1) == 0 && (((rd_T24 t169 0).f2) == 0 && (((rd_T24 t169 0).f3) == 0 && (((rd_T24 t169 0).f4) == 0 && ((((rd_T24 t169 0).f5).toList) == ([]:List UInt8)))))))=true then ((fdtab_Valid.f k y146).bind fun t177=>(some (t177 == 0))) else (none)) else (none)) else (none)) else (none)) else (none)) else (none)) else (none)) else (none)) else (none)) else (none)) else (none)) else (none)) else (none)) else (none))) else (none)) else (none)) else (none)) else (none))=some r:=H
 have A6:=Zk A60
 clear A60
 by_cases c7:t149=3
 ·rw [if_pos c7] at H
  have c7b0:(t149 == 3)=true:=beq_iff_eq.mpr c7
  have c7b1:(t149 != 3)=false:=bne_eq_false_iff_eq.mpr c7
  clear c7
  by_cases c8:t150=true
  ·subst c8
   have H1:(if t151=10 then (if t152=true then (if t154=true then (none) else (if (t158.length:Int)=1 then (if (t159.length:Int)=2 then (if 0 < (t159.length:Int) then (if (rd t159 0)=5 then (if 1 < (t159.length:Int) then (if (rd t159 1)=5 then (if t168=0 then (if t167=0 then (if (t164.length:Int)=1 then (if t173=0 then (if t172=true then (if (t169.length:Int)=1 then (if 0 < (t169.length:Int) then (if (((rd_T24 t169 0).f0) == 0 && (((rd_T24 t169 0).f1) == 0 && (((rd_T24 t169 0).f2) == 0 && (((rd_T24 t169 0).f3) == 0 && (((rd_T24 t169 0).f4) == 0 && ((((rd_T24 t169 0).f5).toList) == ([]:List UInt8)))))))=true then ((fdtab_Valid.f k y146).bind fun t177=>(some (t177 == 0))) else (none)) else (none)) else (none)) else (none)) else (none)) else (none)) else (none)) else (none)) else (none)) else (none)) else (none)) else (none)) else (none)) else (none))) else (none)) else (none))=some r:=by rw [if_pos rfl] at H;exact H
   clear H
   have H:=H1
   clear H1
   by_cases c9:t151=10
   ·rw [if_pos c9] at H
    have c9b0:(t151 == 10)=true:=beq_iff_eq.mpr c9
    have c9b1:(t151 != 10)=false:=bne_eq_false_iff_eq.mpr c9
    clear c9
    by_cases c10:t152=true
    ·subst c10
     have H1:(if t154=true then (none) else (if (t158.length:Int)=1 then (if (t159.length:Int)=2 then (if 0 < (t159.length:Int) then (if (rd t159 0)=5 then (if 1 < (t159.length:Int) then (if (rd t159 1)=5 then (if t168=0 then (if t167=0 then (if (t164.length:Int)=1 then (if t173=0 then (if t172=true then (if (t169.length:Int)=1 then (if 0 < (t169.length:Int) then (if (((rd_T24 t169 0).f0) == 0 && (((rd_T24 t169 0).f1) == 0 && (((rd_T24 t169 0).f2) == 0 && (((rd_T24 t169 0).f3) == 0 && (((rd_T24 t169 0).f4) == 0 && ((((rd_T24 t169 0).f5).toList) == ([]:List UInt8)))))))=true then ((fdtab_Valid.f k y146).bind fun t177=>(some (t177 == 0))) else (none)) else (none)) else (none)) else (none)) else (none)) else (none)) else (none)) else (none)) else (none)) else (none)) else (none)) else (none)) else (none)) else (none)))=some r:=by rw [if_pos rfl] at H;exact H
     clear H
     have H:=H1
     clear H1
     by_cases c11:t154=true
     ·subst c11
      have H1:(none)=some r:=by rw [if_pos rfl] at H;exact H
      clear H
      have H:=H1
      clear H1
      exact absurd H (by simp)
     ·replace c11:=Bool.eq_false_iff.mpr c11
      subst c11
      have H1:(if (t158.length:Int)=1 then (if (t159.length:Int)=2 then (if 0 < (t159.length:Int) then (if (rd t159 0)=5 then (if 1 < (t159.length:Int) then (if (rd t159 1)=5 then (if t168=0 then (if t167=0 then (if (t164.length:Int)=1 then (if t173=0 then (if t172=true then (if (t169.length:Int)=1 then (if 0 < (t169.length:Int) then (if (((rd_T24 t169 0).f0) == 0 && (((rd_T24 t169 0).f1) == 0 && (((rd_T24 t169 0).f2) == 0 && (((rd_T24 t169 0).f3) == 0 && (((rd_T24 t169 0).f4) == 0 && ((((rd_T24 t169 0).f5).toList) == ([]:List UInt8)))))))=true then ((fdtab_Valid.f k y146).bind fun t177=>(some (t177 == 0))) else (none)) else (none)) else (none)) else (none)) else (none)) else (none)) else (none)) else (none)) else (none)) else (none)) else (none)) else (none)) else (none)) else (none))=some r:=by rw [if_neg (show ¬ (false=true) by decide)] at H;exact H
      clear H
      have H:=H1
      clear H1
      by_cases c12:(t158.length:Int)=1
      ·rw [if_pos c12] at H
       have c12b0:((t158.length:Int) == 1)=true:=beq_iff_eq.mpr c12
       have c12b1:((t158.length:Int) != 1)=false:=bne_eq_false_iff_eq.mpr c12
       clear c12
       by_cases c13:(t159.length:Int)=2
       ·rw [if_pos c13] at H
        have c13b0:((t159.length:Int) == 2)=true:=beq_iff_eq.mpr c13
        have c13b1:((t159.length:Int) != 2)=false:=bne_eq_false_iff_eq.mpr c13
        clear c13
        by_cases c14:0 < (t159.length:Int)
        ·rw [if_pos c14] at H
         have c14b0:decide (0 < (t159.length:Int))=true:=decide_eq_true c14
         have c14b1:decide (0 < t159.length)=true:=decide_eq_true (by omega)
         clear c14
         by_cases c15:(rd t159 0)=5
         ·rw [if_pos c15] at H
          have c15b0:((rd t159 0) == 5)=true:=beq_iff_eq.mpr c15
          have c15b1:((rd t159 0) != 5)=false:=bne_eq_false_iff_eq.mpr c15
          clear c15
          by_cases c16:1 < (t159.length:Int)
          ·rw [if_pos c16] at H
           have c16b0:decide (1 < (t159.length:Int))=true:=decide_eq_true c16
           have c16b1:decide (1 < t159.length)=true:=decide_eq_true (by omega)
           clear c16
           by_cases c17:(rd t159 1)=5
           ·rw [if_pos c17] at H
            have c17b0:((rd t159 1) == 5)=true:=beq_iff_eq.mpr c17
            have c17b1:((rd t159 1) != 5)=false:=bne_eq_false_iff_eq.mpr c17
            clear c17
            by_cases c18:t168=0
            ·rw [if_pos c18] at H
             have c18b0:(t168 == 0)=true:=beq_iff_eq.mpr c18
             have c18b1:(t168 != 0)=false:=bne_eq_false_iff_eq.mpr c18
             clear c18
             by_cases c19:t167=0
             ·rw [if_pos c19] at H
              have c19b0:(t167 == 0)=true:=beq_iff_eq.mpr c19
              have c19b1:(t167 != 0)=false:=bne_eq_false_iff_eq.mpr c19
              clear c19
              by_cases c20:(t164.length:Int)=1
              ·rw [if_pos c20] at H
               have c20b0:((t164.length:Int) == 1)=true:=beq_iff_eq.mpr c20
               have c20b1:((t164.length:Int) != 1)=false:=bne_eq_false_iff_eq.mpr c20
               clear c20
               by_cases c21:t173=0
               ·rw [if_pos c21] at H
                have c21b0:(t173 == 0)=true:=beq_iff_eq.mpr c21
                have c21b1:(t173 != 0)=false:=bne_eq_false_iff_eq.mpr c21
                clear c21
                by_cases c22:t172=true
                ·subst c22
                 have H1:(if (t169.length:Int)=1 then (if 0 < (t169.length:Int) then (if (((rd_T24 t169 0).f0) == 0 && (((rd_T24 t169 0).f1) == 0 && (((rd_T24 t169 0).f2) == 0 && (((rd_T24 t169 0).f3) == 0 && (((rd_T24 t169 0).f4) == 0 && ((((rd_T24 t169 0).f5).toList) == ([]:List UInt8)))))))=true then ((fdtab_Valid.f k y146).bind fun t177=>(some (t177 == 0))) else (none)) else (none)) else (none))=some r:=by rw [if_pos rfl] at H;exact H
                 clear H
                 have H:=H1
                 clear H1
                 by_cases c23:(t169.length:Int)=1
                 ·rw [if_pos c23] at H
                  have c23b0:((t169.length:Int) == 1)=true:=beq_iff_eq.mpr c23
                  have c23b1:((t169.length:Int) != 1)=false:=bne_eq_false_iff_eq.mpr c23
                  clear c23
                  by_cases c24:0 < (t169.length:Int)
                  ·rw [if_pos c24] at H
                   have c24b0:decide (0 < (t169.length:Int))=true:=decide_eq_true c24
                   have c24b1:decide (0 < t169.length)=true:=decide_eq_true (by omega)
                   clear c24
                   by_cases c25:(((rd_T24 t169 0).f0) == 0 && (((rd_T24 t169 0).f1) == 0 && (((rd_T24 t169 0).f2) == 0 && (((rd_T24 t169 0).f3) == 0 && (((rd_T24 t169 0).f4) == 0 && ((((rd_T24 t169 0).f5).toList) == ([]:List UInt8)))))))=true
                   ·rw [if_pos c25] at H
                    have c25b0:(((rd_T24 t169 0).f0) == 0 && (((rd_T24 t169 0).f1) == 0 && (((rd_T24 t169 0).f2) == 0 && (((rd_T24 t169 0).f3) == 0 && (((rd_T24 t169 0).f4) == 0 && ((((rd_T24 t169 0).f5).toList) == ([]:List UInt8)))))))=true:=c25
                    (try (have c25bQ:=c25b0;simp only [Bool.and_eq_true,beq_iff_eq] at c25bQ;have c25bP:=eq_true c25bQ;clear c25bQ))
                    (try (have c25b1:decide (((rd_T24 t169 0).f0)=0 && (((rd_T24 t169 0).f1) == 0 && (((rd_T24 t169 0).f2) == 0 && (((rd_T24 t169 0).f3) == 0 && (((rd_T24 t169 0).f4) == 0 && ((((rd_T24 t169 0).f5).toList) == ([]:List UInt8)))))))=true:=by simpa using c25))
                    (try (have c25b2:(((rd_T24 t169 0).f0) == 0 && (((rd_T24 t169 0).f1) == 0 && (((rd_T24 t169 0).f2) == 0 && (((rd_T24 t169 0).f3) == 0 && (((rd_T24 t169 0).f4) == 0 && ((((rd_T24 t169 0).f5).toList) == ([]:List UInt8)))))))=true:=by simpa using c25))
                    clear c25
                    replace H:=Option.bind_eq_some_iff.mp H
                    obtain ⟨t177,A260,H⟩:=H
                    replace H:(some (t177 == 0))=some r:=H
                    have A26:=Zk A260
                    clear A260
                    obtain rfl:=Option.some.inj H
                    go_enter Try.func10,Try.ntmps10
                    go_wp2_with (first|((with_reducible refine yE (N:=19) rfl ?_);(try (refine gate_guard (by rfl) ?_;dsimp only));refine R_lit k36 _ 36 ?hg (N:=19) ?hd (xs:=([(⟨0,0,false⟩:S36),(⟨1,1,false⟩:S36),(⟨2,1,false⟩:S36)]:List (S36))) (inner:=[.int .i64 0,.int .i64 0,.bool false,.int .i64 1,.int .i64 1,.bool false,.int .i64 2,.int .i64 1,.bool false]) (ok:=fun _=>True) (okp:=fun _=>True) ?hr ?hp (fun _ hk=>hk) trivial (Below.refl _ _) (Nat.le_refl _) (by simp) ?_;(case hd=>rfl);(case hg=>rfl);(case hr=>first|(go_simp;done)|(go_simp;rfl));(case hp=>exact (Reps.c3 (show Kd.M k36 _ _ _ (⟨0,0,false⟩:S36) [.int .i64 0,.int .i64 0,.bool false] from (k36_mkM _ _ _ (⟨0,0,false⟩:S36) )) (Reps.c3 (show Kd.M k36 _ _ _ (⟨1,1,false⟩:S36) [.int .i64 1,.int .i64 1,.bool false] from (k36_mkM _ _ _ (⟨1,1,false⟩:S36) )) (Reps.c3 (show Kd.M k36 _ _ _ (⟨2,1,false⟩:S36) [.int .i64 2,.int .i64 1,.bool false] from (k36_mkM _ _ _ (⟨2,1,false⟩:S36) )) (Reps.none _ _)))));intro v147 w27 ho28 hb hg_ hnew_;clear hg_ hnew_;(first|rw [← Ny146.out] at ho28|(simp only [Int.reduceToNat] at ho28;rw [← Ny146.out] at ho28));have n0_:=Zk (R_lower ho28 (zM (by repeat (first|(with_reducible first|exact HB.out|apply zG|apply zC|apply zH)|exact HB.out))));have n1_:=Zk (zL (by repeat (first|(with_reducible first|exact HB.out|apply zG|apply zC|apply zH)|exact HB.out)) hb);clear HB;have HO148:=n0_;have HB:=n1_;clear n0_ n1_;clear hb ho28;obtain ⟨Ao29,co29,eo29⟩:=R_slice HO148.out;subst eo29)|((with_reducible refine zW (f:=16) rfl ?_);refine yF (some 22) rfl rfl Try.func16 (by kernel_rfl) rfl #[.slice Ao29 y146.length co29,.int .i64 0] rfl (by (try simp only [List.map_toArray,List.map_cons,List.map_nil]);first|done|rfl|(simp only [List.length_drop,List.length_take];rfl)) ?_;(with_reducible refine (fdtab_Free.calls k _ _ y146 0 t149 true _ ?side1 ?side2 A1.out).mono ?_);(case side1=>repeat (first|exact (R_reads' HO148.out).2.2|(with_reducible refine yC ?_ _)|(with_reducible refine yD ?_ _)|(with_reducible refine C_drew ?_)));(case side2=>exact (R_reads' HO148.out).2.1);rintro e w30 ⟨rfl,hb⟩;refine ⟨_,rfl,?_⟩;have n0_:=Zk (R_below (by (with_reducible repeat (first|apply yA|apply zZ|apply yB));exact HO148.out) hb);have n1_:=Zk (zL (by repeat (first|(with_reducible first|exact HB.out|apply zG|apply zC|apply zH)|exact HB.out)) hb);clear HO148;clear HB;have HO148:=n0_;have HB:=n1_;clear n0_ n1_;(try clear hb);(try clear hb2);(try clear hk);(try clear hi))|((with_reducible refine zW (f:=16) rfl ?_);refine yF (some 27) rfl rfl Try.func16 (by kernel_rfl) rfl #[.slice Ao29 y146.length co29,.int .i64 10] rfl (by (try simp only [List.map_toArray,List.map_cons,List.map_nil]);first|done|rfl|(simp only [List.length_drop,List.length_take];rfl)) ?_;(with_reducible refine (fdtab_Free.calls k _ _ y146 10 t151 true _ ?side1 ?side2 A2.out).mono ?_);(case side1=>repeat (first|exact (R_reads' HO148.out).2.2|(with_reducible refine yC ?_ _)|(with_reducible refine yD ?_ _)|(with_reducible refine C_drew ?_)));(case side2=>exact (R_reads' HO148.out).2.1);rintro e w31 ⟨rfl,hb⟩;refine ⟨_,rfl,?_⟩;have n0_:=Zk (R_below (by (with_reducible repeat (first|apply yA|apply zZ|apply yB));exact HO148.out) hb);have n1_:=Zk (zL (by repeat (first|(with_reducible first|exact HB.out|apply zG|apply zC|apply zH)|exact HB.out)) hb);clear HO148;clear HB;have HO148:=n0_;have HB:=n1_;clear n0_ n1_;(try clear hb);(try clear hb2);(try clear hk);(try clear hi))|((with_reducible refine zW (f:=16) rfl ?_);refine yF (some 32) rfl rfl Try.func16 (by kernel_rfl) rfl #[.slice Ao29 y146.length co29,.int .i64 32] rfl (by (try simp only [List.map_toArray,List.map_cons,List.map_nil]);first|done|rfl|(simp only [List.length_drop,List.length_take];rfl)) ?_;(with_reducible refine (fdtab_Free.calls k _ _ y146 32 t153 false _ ?side1 ?side2 A3.out).mono ?_);(case side1=>repeat (first|exact (R_reads' HO148.out).2.2|(with_reducible refine yC ?_ _)|(with_reducible refine yD ?_ _)|(with_reducible refine C_drew ?_)));(case side2=>exact (R_reads' HO148.out).2.1);rintro e w32 ⟨rfl,hb⟩;refine ⟨_,rfl,?_⟩;have n0_:=Zk (R_below (by (with_reducible repeat (first|apply yA|apply zZ|apply yB));exact HO148.out) hb);have n1_:=Zk (zL (by repeat (first|(with_reducible first|exact HB.out|apply zG|apply zC|apply zH)|exact HB.out)) hb);clear HO148;clear HB;have HO148:=n0_;have HB:=n1_;clear n0_ n1_;(try clear hb);(try clear hb2);(try clear hk);(try clear hi))|((with_reducible refine yE (N:=39) rfl ?_);(try (refine gate_guard (by rfl) ?_;dsimp only));refine R_lit k36 _ 36 ?hg (N:=39) ?hd (xs:=([(⟨0,0,false⟩:S36),(⟨3,5,true⟩:S36),(⟨4,5,true⟩:S36)]:List (S36))) (inner:=[.int .i64 0,.int .i64 0,.bool false,.int .i64 3,.int .i64 5,.bool true,.int .i64 4,.int .i64 5,.bool true]) (ok:=fun _=>True) (okp:=fun _=>True) ?hr ?hp (fun _ hk=>hk) trivial (Below.refl _ _) (Nat.le_refl _) (by simp) ?_;(case hd=>rfl);(case hg=>rfl);(case hr=>first|(go_simp;done)|(go_simp;rfl));(case hp=>exact (Reps.c3 (show Kd.M k36 _ _ _ (⟨0,0,false⟩:S36) [.int .i64 0,.int .i64 0,.bool false] from (k36_mkM _ _ _ (⟨0,0,false⟩:S36) )) (Reps.c3 (show Kd.M k36 _ _ _ (⟨3,5,true⟩:S36) [.int .i64 3,.int .i64 5,.bool true] from (k36_mkM _ _ _ (⟨3,5,true⟩:S36) )) (Reps.c3 (show Kd.M k36 _ _ _ (⟨4,5,true⟩:S36) [.int .i64 4,.int .i64 5,.bool true] from (k36_mkM _ _ _ (⟨4,5,true⟩:S36) )) (Reps.none _ _)))));intro v156 w33 ho34 hb hg_ hnew_;clear hg_ hnew_;(first|rw [← Ny155.out] at ho34|(simp only [Int.reduceToNat] at ho34;rw [← Ny155.out] at ho34));have n0_:=Zk (R_elder' (by (with_reducible repeat (first|apply yA|apply zZ|apply yB));exact HO148.out) (R_base ho34) hb);have n1_:=Zk (R_lower (R_new' ho34 (R_lt (by (with_reducible repeat (first|apply yA|apply zZ|apply yB));exact HO148.out))) (zM (by repeat (first|(with_reducible first|exact HB.out|apply zG|apply zC|apply zH)|exact HB.out))));have n2_:=Zk (zL (by repeat (first|(with_reducible first|exact HB.out|apply zG|apply zC|apply zH)|exact HB.out)) hb);clear HO148;clear HB;have HO148:=n0_;have HO157:=n1_;have HB:=n2_;clear n0_ n1_ n2_;clear hb ho34;obtain ⟨Ao35,co35,eo35⟩:=R_slice HO157.out;subst eo35)|((with_reducible refine zW (f:=28) rfl ?_);refine yF (some 40) rfl rfl Try.func28 (by kernel_rfl) rfl #[.slice Ao35 y155.length co35] rfl (by (try simp only [List.map_toArray,List.map_cons,List.map_nil]);first|done|rfl|(simp only [List.length_drop,List.length_take];rfl)) ?_;(with_reducible refine (fdtab_Exec.calls k _ _ y155 t158 t159 _ ?side1 ?side2 A4.out).mono ?_);(case side1=>repeat (first|exact (R_reads' HO157.out).2.2|(with_reducible refine yC ?_ _)|(with_reducible refine yD ?_ _)|(with_reducible refine C_drew ?_)));(case side2=>exact (R_reads' HO157.out).2.1);rintro e w36 ⟨v160,v162,rfl,ho0,ho1,hb⟩;refine ⟨_,rfl,?_⟩;have n0_:=Zk (R_elder' (by (with_reducible repeat (first|apply yA|apply zZ|apply yB));exact HO148.out) (R_base ho0) hb);have n1_:=Zk (R_elder' (by (with_reducible repeat (first|apply yA|apply zZ|apply yB));exact HO157.out) (R_base ho0) hb);have n2_:=Zk (R_lower (R_new' (R_new' ho0 (R_lt (by (with_reducible repeat (first|apply yA|apply zZ|apply yB));exact HO148.out))) (R_lt (by (with_reducible repeat (first|apply yA|apply zZ|apply yB));exact HO157.out))) (zM (by repeat (first|(with_reducible first|exact HB.out|apply zG|apply zC|apply zH)|exact HB.out))));have n3_:=Zk (R_lower ho1 (zM (by repeat (first|(with_reducible first|exact HB.out|apply zG|apply zC|apply zH)|exact HB.out))));have n4_:=Zk (zL (by repeat (first|(with_reducible first|exact HB.out|apply zG|apply zC|apply zH)|exact HB.out)) hb);clear HO148;clear HO157;clear HB;have HO148:=n0_;have HO157:=n1_;have HO161:=n2_;have HO163:=n3_;have HB:=n4_;clear n0_ n1_ n2_ n3_ n4_;(try clear hb);(try clear hb2);(try clear hk);(try clear hi);(try clear ho0);(try clear ho1))|((with_reducible refine zW (f:=11) rfl ?_);refine yF (some 45) rfl rfl Try.func11 (by kernel_rfl) rfl #[.slice none 0 0,.agg #[.int .i64 5,.int .i64 0,.int .i64 0,.int .i64 0,.int .i64 1,.string (⟨#[]⟩:ByteArray)]] rfl (by (try simp only [List.map_toArray,List.map_cons,List.map_nil]);first|done|rfl|(simp only [List.length_drop,List.length_take];rfl)) ?_;(refine (fdtab_Add.calls k (fun k_=>False) _ _ ([]:List (S24)) 5 0 0 0 1 (⟨#[]⟩:ByteArray) t164 t167 t168 _ ?side1 A5.out).mono ?_);(case side1=>exact V_nil _ _ _ _ _);rintro e w37 ⟨v165,rfl,ho0,hb⟩;refine ⟨_,rfl,?_⟩;have n0_:=Zk (R_below (by (with_reducible repeat (first|apply yA|apply zZ|apply yB));exact HO148.out) hb);have n1_:=Zk (R_below (by (with_reducible repeat (first|apply yA|apply zZ|apply yB));exact HO157.out) hb);have n2_:=Zk (R_below (by (with_reducible repeat (first|apply yA|apply zZ|apply yB));exact HO161.out) hb);have n3_:=Zk (R_below (by (with_reducible repeat (first|apply yA|apply zZ|apply yB));exact HO163.out) hb);have n4_:=Zk (V_lower (zU (ok':=fun k_=>some k_≠(.slice Ao29 y146.length co29:Value).ownBlock∧some k_≠(.slice Ao35 y155.length co35:Value).ownBlock∧some k_≠(v160:Value).ownBlock∧some k_≠(v162:Value).ownBlock) ho0 (fun k_ hk_=>⟨Or.elim hk_ (fun hs_=>(hs_).elim) (fun hn_=>(Kd.fresh' (R_lt (by (with_reducible repeat (first|apply yA|apply zZ|apply yB));exact HO148.out)) k_ hn_)),Or.elim hk_ (fun hs_=>(hs_).elim) (fun hn_=>(Kd.fresh' (R_lt (by (with_reducible repeat (first|apply yA|apply zZ|apply yB));exact HO157.out)) k_ hn_)),Or.elim hk_ (fun hs_=>(hs_).elim) (fun hn_=>(Kd.fresh' (R_lt (by (with_reducible repeat (first|apply yA|apply zZ|apply yB));exact HO161.out)) k_ hn_)),Or.elim hk_ (fun hs_=>(hs_).elim) (fun hn_=>(Kd.fresh' (R_lt (by (with_reducible repeat (first|apply yA|apply zZ|apply yB));exact HO163.out)) k_ hn_))⟩)) (zM (by repeat (first|(with_reducible first|exact HB.out|apply zG|apply zC|apply zH)|exact HB.out))));have n5_:=Zk (zL (by repeat (first|(with_reducible first|exact HB.out|apply zG|apply zC|apply zH)|exact HB.out)) hb);clear HO148;clear HO157;clear HO161;clear HO163;clear HB;have HO148:=n0_;have HO157:=n1_;have HO161:=n2_;have HO163:=n3_;have HO166:=n4_;have HB:=n5_;clear n0_ n1_ n2_ n3_ n4_ n5_;(try clear hb);(try clear hb2);(try clear hk);(try clear hi);(try clear ho0);obtain ⟨Ao38,co38,eo38⟩:=V_slice HO166.out;subst eo38)|((with_reducible refine zW (f:=22) rfl ?_);refine yF (some 51) rfl rfl Try.func22 (by kernel_rfl) rfl #[.slice Ao38 t164.length co38,.int .i64 0] rfl (by (try simp only [List.map_toArray,List.map_cons,List.map_nil]);first|done|rfl|(simp only [List.length_drop,List.length_take];rfl)) ?_;(with_reducible refine (fdtab_Release.calls k (fun k_=>(some k_≠(.slice Ao29 y146.length co29:Value).ownBlock∧(some k_≠(.slice Ao35 y155.length co35:Value).ownBlock∧(some k_≠(v160:Value).ownBlock∧some k_≠(v162:Value).ownBlock)))) _ _ t164 0 t169 true t173 _ ?side1 A6.out).mono ?_);(case side1=>exact HO166.out);rintro e w39 ⟨v170,rfl,ho0,hb⟩;refine ⟨_,rfl,?_⟩;have n0_:=Zk (R_below (by (with_reducible repeat (first|apply yA|apply zZ|apply yB));exact HO148.out) hb);have n1_:=Zk (R_below (by (with_reducible repeat (first|apply yA|apply zZ|apply yB));exact HO157.out) hb);have n2_:=Zk (R_below (by (with_reducible repeat (first|apply yA|apply zZ|apply yB));exact HO161.out) hb);have n3_:=Zk (R_below (by (with_reducible repeat (first|apply yA|apply zZ|apply yB));exact HO163.out) hb);have n4_:=Zk (zT (by (with_reducible repeat (first|apply zN|apply zO|apply zQ));exact HO166.out) hb);have n5_:=Zk (V_lower (zU (ok':=fun k_=>some k_≠(.slice Ao29 y146.length co29:Value).ownBlock∧some k_≠(.slice Ao35 y155.length co35:Value).ownBlock∧some k_≠(v160:Value).ownBlock∧some k_≠(v162:Value).ownBlock) ho0 (fun k_ hk_=>⟨Or.elim hk_ (fun hs_=>hs_.1) (fun hn_=>(Kd.fresh' (R_lt (by (with_reducible repeat (first|apply yA|apply zZ|apply yB));exact HO148.out)) k_ hn_)),Or.elim hk_ (fun hs_=>hs_.2.1) (fun hn_=>(Kd.fresh' (R_lt (by (with_reducible repeat (first|apply yA|apply zZ|apply yB));exact HO157.out)) k_ hn_)),Or.elim hk_ (fun hs_=>hs_.2.2.1) (fun hn_=>(Kd.fresh' (R_lt (by (with_reducible repeat (first|apply yA|apply zZ|apply yB));exact HO161.out)) k_ hn_)),Or.elim hk_ (fun hs_=>hs_.2.2.2) (fun hn_=>(Kd.fresh' (R_lt (by (with_reducible repeat (first|apply yA|apply zZ|apply yB));exact HO163.out)) k_ hn_))⟩)) (zM (by repeat (first|(with_reducible first|exact HB.out|apply zG|apply zC|apply zH)|exact HB.out))));have n6_:=Zk (zL (by repeat (first|(with_reducible first|exact HB.out|apply zG|apply zC|apply zH)|exact HB.out)) hb);clear HO148;clear HO157;clear HO161;clear HO163;clear HO166;clear HB;have HO148:=n0_;have HO157:=n1_;have HO161:=n2_;have HO163:=n3_;have HO166:=n4_;have HO171:=n5_;have HB:=n6_;clear n0_ n1_ n2_ n3_ n4_ n5_ n6_;(try clear hb);(try clear hb2);(try clear hk);(try clear hi);(try clear ho0);obtain ⟨Ao40,co40,eo40⟩:=R_slice HO161.out;subst eo40;obtain ⟨Ao41,co41,eo41⟩:=R_slice HO163.out;subst eo41;have p174:0≤(0:Int):=(by omega);have q174:0 < (t159.length:Int):=of_decide_eq_true (by first|(with_reducible assumption)|assumption);obtain ⟨ad174,e174,hx174_0⟩:=Kd.at_int (R_reads' HO163.out).2.2 0 p174 q174;cases e174;have qi174:(0 < t159.length)=True:=eq_true (by omega);(try rw [show ((0:Int)).toNat=0 from rfl] at hx174_0);(try rw [Addr.add_zero'] at hx174_0);replace p174:=eq_true p174;replace q174:=eq_true q174;have p175:0≤(1:Int):=(by omega);have q175:1 < (t159.length:Int):=of_decide_eq_true (by first|(with_reducible assumption)|assumption);obtain ⟨ad175,e175,hx175_0⟩:=Kd.at_int (R_reads' HO163.out).2.2 1 p175 q175;obtain rfl:ad174=ad175:=(by injection e175);(try simp only [show (1:Int).toNat=1 from rfl,Nat.reduceMul,Nat.reduceEqDiff,Go.Addr.add,↓reduceIte] at hx175_0);have qi175:(1 < t159.length)=True:=eq_true (by omega);(try rw [show ((1:Int)).toNat=1 from rfl] at hx175_0);replace p175:=eq_true p175;replace q175:=eq_true q175;obtain ⟨Ao42,co42,eo42⟩:=V_slice HO171.out;subst eo42;have p176:0≤(0:Int):=(by omega);have q176:0 < (t169.length:Int):=of_decide_eq_true (by first|(with_reducible assumption)|assumption);obtain ⟨ad176,e176,hx176_0,hx176_1,hx176_2,hx176_3,hx176_4,hx176_5⟩:=at_T24 (zY HO171.out).2.2 0 p176 q176;cases e176;have qi176:(0 < t169.length)=True:=eq_true (by omega);(try rw [show ((0:Int)).toNat=0 from rfl] at hx176_0);(try rw [show 0 * 6=0 from rfl] at hx176_0);(try rw [Addr.add_zero'] at hx176_0);(try rw [show ((0:Int)).toNat=0 from rfl] at hx176_1);(try rw [show 0 * 6=0 from rfl] at hx176_1);(try rw [Addr.add_zero'] at hx176_1);(try rw [show ((0:Int)).toNat=0 from rfl] at hx176_2);(try rw [show 0 * 6=0 from rfl] at hx176_2);(try rw [Addr.add_zero'] at hx176_2);(try rw [show ((0:Int)).toNat=0 from rfl] at hx176_3);(try rw [show 0 * 6=0 from rfl] at hx176_3);(try rw [Addr.add_zero'] at hx176_3);(try rw [show ((0:Int)).toNat=0 from rfl] at hx176_4);(try rw [show 0 * 6=0 from rfl] at hx176_4);(try rw [Addr.add_zero'] at hx176_4);(try rw [show ((0:Int)).toNat=0 from rfl] at hx176_5);(try rw [show 0 * 6=0 from rfl] at hx176_5);(try rw [Addr.add_zero'] at hx176_5);replace p176:=eq_true p176;replace q176:=eq_true q176)|(go_at_call 18;(with_reducible refine (fdtab_Valid.calls k _ _ y146 t177 _ ?side1 ?side2 A26.out).mono ?_);(case side1=>repeat (first|exact (R_reads' HO148.out).2.2|(with_reducible refine yC ?_ _)|(with_reducible refine yD ?_ _)|(with_reducible refine C_drew ?_)));(case side2=>exact (R_reads' HO148.out).2.1);rintro e w43 ⟨rfl,hb⟩;have n0_:=Zk (R_below (by (with_reducible repeat (first|apply yA|apply zZ|apply yB));exact HO148.out) hb);have n1_:=Zk (R_below (by (with_reducible repeat (first|apply yA|apply zZ|apply yB));exact HO157.out) hb);have n2_:=Zk (R_below (by (with_reducible repeat (first|apply yA|apply zZ|apply yB));exact HO161.out) hb);have n3_:=Zk (R_below (by (with_reducible repeat (first|apply yA|apply zZ|apply yB));exact HO163.out) hb);have n4_:=Zk (zT (by (with_reducible repeat (first|apply zN|apply zO|apply zQ));exact HO166.out) hb);have n5_:=Zk (zT (by (with_reducible repeat (first|apply zN|apply zO|apply zQ));exact HO171.out) hb);have n6_:=Zk (zL (by repeat (first|(with_reducible first|exact HB.out|apply zG|apply zC|apply zH)|exact HB.out)) hb);clear HO148;clear HO157;clear HO161;clear HO163;clear HO166;clear HO171;clear HB;have HO148:=n0_;have HO157:=n1_;have HO161:=n2_;have HO163:=n3_;have HO166:=n4_;have HO171:=n5_;have HB:=n6_;clear n0_ n1_ n2_ n3_ n4_ n5_ n6_;(try clear hb);(try clear hb2);(try clear hk);(try clear hi)))
                    go_ret
                    exact ⟨by first|rfl|(simp [errW_none,errW_some] <;> rfl)|(simp [*,errW_none,errW_some] <;> rfl),by repeat (first|(with_reducible first|exact HB.out|apply zG|apply zC|apply zH)|exact HB.out)⟩
                   ·rw [if_neg c25] at H
                    exact absurd H (by simp)
                  ·rw [if_neg c24] at H
                   exact absurd H (by simp)
                 ·rw [if_neg c23] at H
                  exact absurd H (by simp)
                ·replace c22:=Bool.eq_false_iff.mpr c22
                 subst c22
                 have H1:(none)=some r:=by rw [if_neg (show ¬ (false=true) by decide)] at H;exact H
                 clear H
                 have H:=H1
                 clear H1
                 exact absurd H (by simp)
               ·rw [if_neg c21] at H
                exact absurd H (by simp)
              ·rw [if_neg c20] at H
               exact absurd H (by simp)
             ·rw [if_neg c19] at H
              exact absurd H (by simp)
            ·rw [if_neg c18] at H
             exact absurd H (by simp)
           ·rw [if_neg c17] at H
            exact absurd H (by simp)
          ·rw [if_neg c16] at H
           exact absurd H (by simp)
         ·rw [if_neg c15] at H
          exact absurd H (by simp)
        ·rw [if_neg c14] at H
         exact absurd H (by simp)
       ·rw [if_neg c13] at H
        exact absurd H (by simp)
      ·rw [if_neg c12] at H
       exact absurd H (by simp)
    ·replace c10:=Bool.eq_false_iff.mpr c10
     subst c10
     have H1:(none)=some r:=by rw [if_neg (show ¬ (false=true) by decide)] at H;exact H
     clear H
     have H:=H1
     clear H1
     exact absurd H (by simp)
   ·rw [if_neg c9] at H
    exact absurd H (by simp)
  ·replace c8:=Bool.eq_false_iff.mpr c8
   subst c8
   have H1:(none)=some r:=by rw [if_neg (show ¬ (false=true) by decide)] at H;exact H
   clear H
   have H:=H1
   clear H1
   exact absurd H (by simp)
 ·rw [if_neg c7] at H
  exact absurd H (by simp)
end Go.Proofs.Ytpljggoogodhlaa.Q
end
section

namespace Go.Proofs.Ytpljggoogodhlaa.Q
open Go.RowKit Go.Proofs.YtpljggoogodhlaaW.PrintWords Go.Proofs.YtpljggoogodhlaaW.PrintLast Go.Proofs.YtpljggoogodhlaaW.PrintMore Go.Proofs.YtpljggoogodhlaaM
open Kd
attribute [local go_sem] max2_int min2_int max_two min_two max_three min_three max_four min_four
set_option linter.unusedVariables false
set_option linter.unusedSimpArgs false
def fdtab_Get.f (l0:List (S36)) (a1:Int):Option (Int × Int × Bool × Bool):=(fdtab_index.f l0 a1).bind fun t215=>(if t215 ≥ 0 then (if 0≤t215 then (if t215 < (l0.length:Int) then (some ((rd_T36 l0 t215).f0,(rd_T36 l0 t215).f1,(rd_T36 l0 t215).f2,true)) else (none)) else (none)) else (some (0,0,false,false)))
set_option maxHeartbeats 8000000 in
set_option maxRecDepth 10000000 in
theorem fdtab_Get.calls (A0:Option Addr) (c0:Nat) (l0:List (S36)) (a1:Int) (r1:Int) (r2:Int) (r3:Bool) (r4:Bool) (w:World) (hr0:Kd.C k36 w A0 l0.length l0) (hc0:l0.length≤c0) (h:fdtab_Get.f l0 a1=some (r1,r2,r3,r4)) :
  Calls Try.prog 14 #[.slice A0 l0.length c0,.int .i64 a1] w fun e w'=>e=.returned (.tuple #[.agg #[.int .i64 r1,.int .i64 r2,.bool r3],.bool r4])∧Below w.heap.size w w':=by
 have hu36:=Try.underlying36
 have HR0:=Zk hr0
 have HC0:=Zk hc0
 clear hr0 hc0
 have HB:=Zk (Below.refl w.heap.size w)
 have H:((fdtab_index.f l0 a1).bind fun t215=>(if t215 ≥ 0 then (if 0≤t215 then (if t215 < (l0.length:Int) then (some ((rd_T36 l0 t215).f0,(rd_T36 l0 t215).f1,(rd_T36 l0 t215).f2,true)) else (none)) else (none)) else (some (0,0,false,false))))=some (r1,r2,r3,r4):=h
 clear h
 replace H:=Option.bind_eq_some_iff.mp H
 obtain ⟨t215,A30,H⟩:=H
 replace H:(if t215 ≥ 0 then (if 0≤t215 then (if t215 < (l0.length:Int) then (some ((rd_T36 l0 t215).f0,(rd_T36 l0 t215).f1,(rd_T36 l0 t215).f2,true)) else (none)) else (none)) else (some (0,0,false,false)))=some (r1,r2,r3,r4):=H
 have A3:=Zk A30
 clear A30
 by_cases c4:t215 ≥ 0
 ·rw [if_pos c4] at H
  have c4b0:decide (0≤t215)=true:=decide_eq_true c4
  clear c4
  by_cases c5:0≤t215
  ·rw [if_pos c5] at H
   have c5b0:decide (0≤t215)=true:=decide_eq_true c5
   clear c5
   by_cases c6:t215 < (l0.length:Int)
   ·rw [if_pos c6] at H
    have c6b0:decide (t215 < (l0.length:Int))=true:=decide_eq_true c6
    clear c6
    simp only [Option.some.injEq,Prod.mk.injEq] at H
    obtain ⟨rfl,rfl,rfl,rfl⟩:=H
    go_enter Try.func14,Try.ntmps14
    go_wp2_with (first|((with_reducible refine yE (N:=4) rfl ?_);refine yG ?hg (N:=4) ?hd (cs:=#[.int .i64 0,.int .i64 0,.bool false]) (t:=36) ?hr ?_;(case hd=>rfl);(case hg=>rfl);(case hr=>first|(go_simp;done)|(go_simp;rfl));intro gb214 hg w7 hbox hb;have n0_:=Zk (zL (by repeat (first|(with_reducible first|exact HB.out|apply zG|apply zC|apply zH)|exact HB.out)) hb);have n1_:=Zk (hbox);have n2_:=Zk ((by rw [hg];exact (zM (by repeat (first|(with_reducible first|exact HB.out|apply zG|apply zC|apply zH)|exact HB.out))):w.heap.size≤gb214));have n3_:=Zk ((by rw [hg];exact (zM (by repeat (first|(with_reducible first|exact HB.out|apply zG|apply zC|apply zH)|exact HB.out))):w.heap.size≤gb214));clear HB;have HB:=n0_;have BK214:=n1_;have GW214:=n2_;have GE214:=n3_;clear n0_ n1_ n2_ n3_;clear hb hbox hg)|((with_reducible refine zW (f:=34) rfl ?_);refine yF (some 9) rfl rfl Try.func34 (by kernel_rfl) rfl #[.slice A0 l0.length c0,.int .i64 a1] rfl (by (try simp only [List.map_toArray,List.map_cons,List.map_nil]);first|done|rfl|(simp only [List.length_drop,List.length_take];rfl)) ?_;(with_reducible refine (fdtab_index.calls _ _ l0 a1 t215 _ ?side1 ?side2 A3.out).mono ?_);(case side1=>repeat (first|exact (C_below HR0.out HB.out)|(with_reducible refine yC ?_ _)|(with_reducible refine yD ?_ _)|(with_reducible refine C_drew ?_)));(case side2=>exact HC0.out);rintro e w8 ⟨rfl,hb⟩;refine ⟨_,rfl,?_⟩;have n0_:=Zk (zK (g:=gb214) (o:=.cells #[.int .i64 0,.int .i64 0,.bool false] 36 (0,0)) (by (with_reducible repeat (first|refine zB ?_ _|refine zD ?_|refine zA ?_ _));exact BK214.out) hb);have n1_:=Zk (zL (by repeat (first|(with_reducible first|exact HB.out|apply zG|apply zC|apply zH|refine zF ?_ GE214.out)|exact HB.out)) hb);clear BK214;clear HB;have BK214:=n0_;have HB:=n1_;clear n0_ n1_;(try clear hb);(try clear hb2);(try clear hk);(try clear hi);have p216:0≤(t215:Int):=of_decide_eq_true (by first|(with_reducible assumption)|assumption);have q216:t215 < (l0.length:Int):=of_decide_eq_true (by first|(with_reducible assumption)|assumption);obtain ⟨ad216,e216,hx216_0,hx216_1,hx216_2⟩:=at_T36 HR0.out t215 p216 q216;cases e216;replace hx216_0:=(HB.out.cell (World.block_lt_of_cell? w _ hx216_0)).trans hx216_0;replace hx216_1:=(HB.out.cell (World.block_lt_of_cell? w _ hx216_1)).trans hx216_1;replace hx216_2:=(HB.out.cell (World.block_lt_of_cell? w _ hx216_2)).trans hx216_2;replace p216:=eq_true p216;replace q216:=eq_true q216;have hcz9_0:w8.cell? ⟨gb214,0,none⟩=some (.int .i64 0):=(zJ BK214.out 0).trans rfl;have hcz9_1:w8.cell? ⟨gb214,1,none⟩=some (.int .i64 0):=(zJ BK214.out 1).trans rfl;have hcz9_2:w8.cell? ⟨gb214,2,none⟩=some (.bool false):=(zJ BK214.out 2).trans rfl;have hfz9_0:=zI BK214.out 0;have hfz9_1:=zI BK214.out 1;have hfz9_2:=zI BK214.out 2))
    refine bodyPost_ret (results_ct rfl _ _ gb214 36 #[.int .i64 ((rd_T36 l0 t215).f0),.int .i64 ((rd_T36 l0 t215).f1),.bool ((rd_T36 l0 t215).f2)] (0,0) _ rfl (by (with_reducible repeat (first|refine zB ?_ _|refine zD ?_|refine zA ?_ _));refine zS (cs:=#[.int .i64 ((rd_T36 l0 t215).f0),.int .i64 ((rd_T36 l0 t215).f1),.bool false]) ?_ 2 _ rfl;(with_reducible repeat (first|refine zB ?_ _|refine zD ?_|refine zA ?_ _));refine zS (cs:=#[.int .i64 ((rd_T36 l0 t215).f0),.int .i64 0,.bool false]) ?_ 1 _ rfl;(with_reducible repeat (first|refine zB ?_ _|refine zD ?_|refine zA ?_ _));refine zS (cs:=#[.int .i64 0,.int .i64 0,.bool false]) ?_ 0 _ rfl;(with_reducible repeat (first|refine zB ?_ _|refine zD ?_|refine zA ?_ _));exact BK214.out) Try.underlying36 rfl (by kernel_rfl)) rfl ?_
    exact ⟨by first|rfl|(simp [errW_none,errW_some] <;> rfl)|(simp [*,errW_none,errW_some] <;> rfl),by repeat (first|(with_reducible first|exact HB.out|apply zG|apply zC|apply zH|refine zF ?_ GE214.out)|exact HB.out)⟩
   ·rw [if_neg c6] at H
    exact absurd H (by simp)
  ·rw [if_neg c5] at H
   exact absurd H (by simp)
 ·rw [if_neg c4] at H
  have c4b0:decide (0≤t215)=false:=decide_eq_false c4
  clear c4
  simp only [Option.some.injEq,Prod.mk.injEq] at H
  obtain ⟨rfl,rfl,rfl,rfl⟩:=H
  go_enter Try.func14,Try.ntmps14
  go_wp2_with (first|((with_reducible refine yE (N:=4) rfl ?_);refine yG ?hg (N:=4) ?hd (cs:=#[.int .i64 0,.int .i64 0,.bool false]) (t:=36) ?hr ?_;(case hd=>rfl);(case hg=>rfl);(case hr=>first|(go_simp;done)|(go_simp;rfl));intro gb214 hg w10 hbox hb;have n0_:=Zk (zL (by repeat (first|(with_reducible first|exact HB.out|apply zG|apply zC|apply zH)|exact HB.out)) hb);have n1_:=Zk (hbox);have n2_:=Zk ((by rw [hg];exact (zM (by repeat (first|(with_reducible first|exact HB.out|apply zG|apply zC|apply zH)|exact HB.out))):w.heap.size≤gb214));have n3_:=Zk ((by rw [hg];exact (zM (by repeat (first|(with_reducible first|exact HB.out|apply zG|apply zC|apply zH)|exact HB.out))):w.heap.size≤gb214));clear HB;have HB:=n0_;have BK214:=n1_;have GW214:=n2_;have GE214:=n3_;clear n0_ n1_ n2_ n3_;clear hb hbox hg)|((with_reducible refine zW (f:=34) rfl ?_);refine yF (some 9) rfl rfl Try.func34 (by kernel_rfl) rfl #[.slice A0 l0.length c0,.int .i64 a1] rfl (by (try simp only [List.map_toArray,List.map_cons,List.map_nil]);first|done|rfl|(simp only [List.length_drop,List.length_take];rfl)) ?_;(with_reducible refine (fdtab_index.calls _ _ l0 a1 t215 _ ?side1 ?side2 A3.out).mono ?_);(case side1=>repeat (first|exact (C_below HR0.out HB.out)|(with_reducible refine yC ?_ _)|(with_reducible refine yD ?_ _)|(with_reducible refine C_drew ?_)));(case side2=>exact HC0.out);rintro e w11 ⟨rfl,hb⟩;refine ⟨_,rfl,?_⟩;have n0_:=Zk (zK (g:=gb214) (o:=.cells #[.int .i64 0,.int .i64 0,.bool false] 36 (0,0)) (by (with_reducible repeat (first|refine zB ?_ _|refine zD ?_|refine zA ?_ _));exact BK214.out) hb);have n1_:=Zk (zL (by repeat (first|(with_reducible first|exact HB.out|apply zG|apply zC|apply zH|refine zF ?_ GE214.out)|exact HB.out)) hb);clear BK214;clear HB;have BK214:=n0_;have HB:=n1_;clear n0_ n1_;(try clear hb);(try clear hb2);(try clear hk);(try clear hi);have hcz12_0:w11.cell? ⟨gb214,0,none⟩=some (.int .i64 0):=(zJ BK214.out 0).trans rfl;have hcz12_1:w11.cell? ⟨gb214,1,none⟩=some (.int .i64 0):=(zJ BK214.out 1).trans rfl;have hcz12_2:w11.cell? ⟨gb214,2,none⟩=some (.bool false):=(zJ BK214.out 2).trans rfl;have hfz12_0:=zI BK214.out 0;have hfz12_1:=zI BK214.out 1;have hfz12_2:=zI BK214.out 2))
  refine bodyPost_ret (results_ct rfl _ _ gb214 36 #[.int .i64 0,.int .i64 0,.bool false] (0,0) _ rfl (by (with_reducible repeat (first|refine zB ?_ _|refine zD ?_|refine zA ?_ _));refine zS (cs:=#[.int .i64 0,.int .i64 0,.bool false]) ?_ 2 _ rfl;(with_reducible repeat (first|refine zB ?_ _|refine zD ?_|refine zA ?_ _));refine zS (cs:=#[.int .i64 0,.int .i64 0,.bool false]) ?_ 1 _ rfl;(with_reducible repeat (first|refine zB ?_ _|refine zD ?_|refine zA ?_ _));refine zS (cs:=#[.int .i64 0,.int .i64 0,.bool false]) ?_ 0 _ rfl;(with_reducible repeat (first|refine zB ?_ _|refine zD ?_|refine zA ?_ _));exact BK214.out) Try.underlying36 rfl (by kernel_rfl)) rfl ?_
  exact ⟨by first|rfl|(simp [errW_none,errW_some] <;> rfl)|(simp [*,errW_none,errW_some] <;> rfl),by repeat (first|(with_reducible first|exact HB.out|apply zG|apply zC|apply zH|refine zF ?_ GE214.out)|exact HB.out)⟩
def jobshellref23_one.j0:Nat→Bool→Int→Int→Bool→Option (Int)
 |0,_,_,_,_=>none
 |k + 1,x10,x226000,x226001,x226002=>if x10=true then (some 2) else (if x226001 < 0 then (some 1) else (if x226001 ≥ 128 then (some 1) else (some 0)))
def jobshellref23_one.f (k:Nat) (a0_0:Int) (a0_1:Int) (a0_2:Bool):Option (Int):=if a0_0 < 0 then (jobshellref23_one.j0 k true a0_0 a0_1 a0_2) else (jobshellref23_one.j0 k (decide (a0_0 ≥ 32)) a0_0 a0_1 a0_2)
theorem jobshellref23_one.mono_l:∀ k,(∀ y0 y1 y2 y3,LeO (jobshellref23_one.j0 k y0 y1 y2 y3) (jobshellref23_one.j0 (k + 1) y0 y1 y2 y3))
 |0=>fun _ _ _ _ r h=>by simp [jobshellref23_one.j0] at h
 |k + 1=>by
  have ih0:=jobshellref23_one.mono_l k
  ·intro y0 y1 y2 y3
   unfold jobshellref23_one.j0
   repeat' first
   |(with_reducible exact ih0 _ _ _ _)
   |(with_reducible exact LeO.refl _)
   |(with_reducible exact LeO.none _)
   |(with_reducible refine LeO.ite ?_ ?_)
   |(with_reducible refine LeO.bind ?_ (fun _=>?_))
   |exact ih0 _ _ _ _
   |exact LeO.none _
   |refine LeO.ite ?_ ?_
   |refine LeO.bind ?_ (fun _=>?_)
theorem jobshellref23_one.mono:∀ a0 a1 a2 k,LeO (jobshellref23_one.f k a0 a1 a2) (jobshellref23_one.f (k + 1) a0 a1 a2):=by
 intro a0 a1 a2 k
 have ih0:=jobshellref23_one.mono_l k
 unfold jobshellref23_one.f
 repeat' first
   |(with_reducible exact ih0 _ _ _ _)
   |(with_reducible exact LeO.refl _)
   |(with_reducible exact LeO.none _)
   |(with_reducible refine LeO.ite ?_ ?_)
   |(with_reducible refine LeO.bind ?_ (fun _=>?_))
   |exact ih0 _ _ _ _
   |exact LeO.none _
   |refine LeO.ite ?_ ?_
   |refine LeO.bind ?_ (fun _=>?_)
set_option maxHeartbeats 8000000 in
set_option maxRecDepth 10000000 in
theorem jobshellref23_one.calls (k:Nat) (a0_0:Int) (a0_1:Int) (a0_2:Bool) (r:Int) (w:World) (h:jobshellref23_one.f k a0_0 a0_1 a0_2=some r) :
  Calls Try.prog 36 #[.agg #[.int .i64 a0_0,.int .i64 a0_1,.bool a0_2]] w fun e w'=>e=.returned (.int .i64 r)∧Below w.heap.size w w':=by
 have hu36:=Try.underlying36
 have HB:=Zk (Below.refl w.heap.size w)
 have H:(if a0_0 < 0 then (jobshellref23_one.j0 k true a0_0 a0_1 a0_2) else (jobshellref23_one.j0 k (decide (a0_0 ≥ 32)) a0_0 a0_1 a0_2))=some r:=h
 clear h
 have HC2:=Zk H
 clear H
 go_enter Try.func36,Try.ntmps36
 go_upto_region 1 with (first|((with_reducible refine yE (N:=1) rfl ?_);refine yG ?hg (N:=1) ?hd (cs:=#[.int .i64 a0_0,.int .i64 a0_1,.bool a0_2]) (t:=36) ?hr ?_;(case hd=>rfl);(case hg=>rfl);(case hr=>first|(go_simp;done)|(go_simp;rfl));intro gb225 hg w3 hbox hb;have n0_:=Zk (zL (by repeat (first|(with_reducible first|exact HB.out|apply zG|apply zC|apply zH)|exact HB.out)) hb);have n1_:=Zk (hbox);have n2_:=Zk ((by rw [hg];exact (zM (by repeat (first|(with_reducible first|exact HB.out|apply zG|apply zC|apply zH)|exact HB.out))):w.heap.size≤gb225));have n3_:=Zk ((by rw [hg];exact (zM (by repeat (first|(with_reducible first|exact HB.out|apply zG|apply zC|apply zH)|exact HB.out))):w.heap.size≤gb225));clear HB;have HB:=n0_;have BK225:=n1_;have GW225:=n2_;have GE225:=n3_;clear n0_ n1_ n2_ n3_;clear hb hbox hg))
 (try simp only [Act.put,List.setIfInBounds_toArray,List.set_cons_zero,List.set_cons_succ])
 go_cut [10] (fun v10 wc=>∃ (kq:Nat) (x10_1:Bool),v10=.bool x10_1∧zR (jobshellref23_one.j0 kq x10_1 a0_0 a0_1 a0_2=some r)∧zR (kq≤k)∧zR (wc.heap[gb225]?=some (.cells #[.int .i64 a0_0,.int .i64 a0_1,.bool a0_2] 36 (0,0)))∧zR (Below w.heap.size w wc))
 case first=>
  have H:=HC2.out
  clear HC2
  by_cases c4:a0_0 < 0
  ·rw [if_pos c4] at H
   have c4b0:decide (a0_0 < 0)=true:=decide_eq_true c4
   clear c4
   (first|rw [c4b0]|(simp only [i64_w,i32_w];rw [c4b0])|skip)
   have H':=Zk H
   clear H
   have hcz5_0:w3.cell? ⟨gb225,0,none⟩=some (.int .i64 a0_0):=(zJ BK225.out 0).trans rfl
   have hcz5_1:w3.cell? ⟨gb225,1,none⟩=some (.int .i64 a0_1):=(zJ BK225.out 1).trans rfl
   have hcz5_2:w3.cell? ⟨gb225,2,none⟩=some (.bool a0_2):=(zJ BK225.out 2).trans rfl
   have hfz5_0:=zI BK225.out 0
   have hfz5_1:=zI BK225.out 1
   have hfz5_2:=zI BK225.out 2
   go_wp2
   go_meet
   case rel=>exact ⟨_,(true),(by first|rfl|(simp;done)|(simp [*];done)|(generalize ByteArray.toList _=l_;cases l_ <;> rfl)),H',⟨by first|omega|exact Nat.le_refl _⟩,⟨by (with_reducible repeat (first|refine zB ?_ _|refine zD ?_|refine zA ?_ _));exact BK225.out⟩,⟨by repeat (first|(with_reducible first|exact HB.out|apply zG|apply zC|apply zH|refine zF ?_ GE225.out)|exact HB.out)⟩⟩
  ·rw [if_neg c4] at H
   have c4b0:decide (a0_0 < 0)=false:=decide_eq_false c4
   clear c4
   (first|rw [c4b0]|(simp only [i64_w,i32_w];rw [c4b0])|skip)
   have H':=Zk H
   clear H
   have hcz6_0:w3.cell? ⟨gb225,0,none⟩=some (.int .i64 a0_0):=(zJ BK225.out 0).trans rfl
   have hcz6_1:w3.cell? ⟨gb225,1,none⟩=some (.int .i64 a0_1):=(zJ BK225.out 1).trans rfl
   have hcz6_2:w3.cell? ⟨gb225,2,none⟩=some (.bool a0_2):=(zJ BK225.out 2).trans rfl
   have hfz6_0:=zI BK225.out 0
   have hfz6_1:=zI BK225.out 1
   have hfz6_2:=zI BK225.out 2
   go_wp2
   go_meet
   case rel=>exact ⟨_,(decide (a0_0 ≥ 32)),(by first|rfl|(simp;done)|(simp [*];done)|(generalize ByteArray.toList _=l_;cases l_ <;> rfl)),H',⟨by first|omega|exact Nat.le_refl _⟩,⟨by (with_reducible repeat (first|refine zB ?_ _|refine zD ?_|refine zA ?_ _));exact BK225.out⟩,⟨by repeat (first|(with_reducible first|exact HB.out|apply zG|apply zC|apply zH|refine zF ?_ GE225.out)|exact HB.out)⟩⟩
 case rest=>
  clear HC2
  try clear p2
  try clear c3
  try clear c4
  try clear c4b0
  try clear hcz5_0
  try clear hcz5_1
  try clear hcz5_2
  try clear hcz6_0
  try clear hcz6_1
  try clear hcz6_2
  try clear hfz5_0
  try clear hfz5_1
  try clear hfz5_2
  try clear hfz6_0
  try clear hfz6_1
  try clear hfz6_2
  obtain ⟨kq,x10_1,rfl,HA,HJ1,BK225,HB⟩:=hcut
  cases kq with
  |zero=>exact absurd HA.out (by simp [jobshellref23_one.j0])
  |succ kj1=>
   have H:=HA.out
   clear HA
   simp only [jobshellref23_one.j0] at H
   by_cases c7:x10_1=true
   ·subst c7
    have H1:(some 2)=some r:=by rw [if_pos rfl] at H;exact H
    clear H
    have H:=H1
    clear H1
    obtain rfl:=Option.some.inj H
    go_wp2
    go_ret
    exact ⟨by first|rfl|(simp [errW_none,errW_some] <;> rfl)|(simp [*,errW_none,errW_some] <;> rfl),by repeat (first|(with_reducible first|exact HB.out|apply zG|apply zC|apply zH|refine zF ?_ GE225.out)|exact HB.out)⟩
   ·replace c7:=Bool.eq_false_iff.mpr c7
    subst c7
    have H1:(if a0_1 < 0 then (some 1) else (if a0_1 ≥ 128 then (some 1) else (some 0)))=some r:=by rw [if_neg (show ¬ (false=true) by decide)] at H;exact H
    clear H
    have H:=H1
    clear H1
    by_cases c8:a0_1 < 0
    ·rw [if_pos c8] at H
     have c8b0:decide (a0_1 < 0)=true:=decide_eq_true c8
     clear c8
     obtain rfl:=Option.some.inj H
     have hcz9_0:wc.cell? ⟨gb225,0,none⟩=some (.int .i64 a0_0):=(zJ BK225.out 0).trans rfl
     have hcz9_1:wc.cell? ⟨gb225,1,none⟩=some (.int .i64 a0_1):=(zJ BK225.out 1).trans rfl
     have hcz9_2:wc.cell? ⟨gb225,2,none⟩=some (.bool a0_2):=(zJ BK225.out 2).trans rfl
     have hfz9_0:=zI BK225.out 0
     have hfz9_1:=zI BK225.out 1
     have hfz9_2:=zI BK225.out 2
     go_wp2
     go_ret
     exact ⟨by first|rfl|(simp [errW_none,errW_some] <;> rfl)|(simp [*,errW_none,errW_some] <;> rfl),by repeat (first|(with_reducible first|exact HB.out|apply zG|apply zC|apply zH|refine zF ?_ GE225.out)|exact HB.out)⟩
    ·rw [if_neg c8] at H
     have c8b0:decide (a0_1 < 0)=false:=decide_eq_false c8
     clear c8
     by_cases c10:a0_1 ≥ 128
     ·rw [if_pos c10] at H
      have c10b0:decide (128≤a0_1)=true:=decide_eq_true c10
      clear c10
      obtain rfl:=Option.some.inj H
      have hcz11_0:wc.cell? ⟨gb225,0,none⟩=some (.int .i64 a0_0):=(zJ BK225.out 0).trans rfl
      have hcz11_1:wc.cell? ⟨gb225,1,none⟩=some (.int .i64 a0_1):=(zJ BK225.out 1).trans rfl
      have hcz11_2:wc.cell? ⟨gb225,2,none⟩=some (.bool a0_2):=(zJ BK225.out 2).trans rfl
      have hfz11_0:=zI BK225.out 0
      have hfz11_1:=zI BK225.out 1
      have hfz11_2:=zI BK225.out 2
      go_wp2
      go_ret
      exact ⟨by first|rfl|(simp [errW_none,errW_some] <;> rfl)|(simp [*,errW_none,errW_some] <;> rfl),by repeat (first|(with_reducible first|exact HB.out|apply zG|apply zC|apply zH|refine zF ?_ GE225.out)|exact HB.out)⟩
     ·rw [if_neg c10] at H
      have c10b0:decide (128≤a0_1)=false:=decide_eq_false c10
      clear c10
      obtain rfl:=Option.some.inj H
      have hcz12_0:wc.cell? ⟨gb225,0,none⟩=some (.int .i64 a0_0):=(zJ BK225.out 0).trans rfl
      have hcz12_1:wc.cell? ⟨gb225,1,none⟩=some (.int .i64 a0_1):=(zJ BK225.out 1).trans rfl
      have hcz12_2:wc.cell? ⟨gb225,2,none⟩=some (.bool a0_2):=(zJ BK225.out 2).trans rfl
      have hfz12_0:=zI BK225.out 0
      have hfz12_1:=zI BK225.out 1
      have hfz12_2:=zI BK225.out 2
      go_wp2
      go_ret
      exact ⟨by first|rfl|(simp [errW_none,errW_some] <;> rfl)|(simp [*,errW_none,errW_some] <;> rfl),by repeat (first|(with_reducible first|exact HB.out|apply zG|apply zC|apply zH|refine zF ?_ GE225.out)|exact HB.out)⟩
end Go.Proofs.Ytpljggoogodhlaa.Q
end
section

namespace Go.Proofs.Ytpljggoogodhlaa.Q
open Go.RowKit Go.Proofs.YtpljggoogodhlaaW.PrintWords Go.Proofs.YtpljggoogodhlaaW.PrintLast Go.Proofs.YtpljggoogodhlaaW.PrintMore Go.Proofs.YtpljggoogodhlaaM
open Kd
attribute [local go_sem] max2_int min2_int max_two min_two max_three min_three max_four min_four
set_option linter.unusedVariables false
set_option linter.unusedSimpArgs false
attribute [local go_sem high] eqA36
def jobshellref23_Valid.l0:Nat→List (S36)→Int→Option (Int)
 |0,_,_=>none
 |k + 1,x0,x3=>if x3 < (x0.length:Int) then (if 0≤x3 then ((jobshellref23_one.f k ((rd_T36 x0 x3).f0) ((rd_T36 x0 x3).f1) ((rd_T36 x0 x3).f2)).bind fun t227=>(if t227=0 then (if x3 > 0 then (if 0≤(wrap64 (x3 - 1)) then (if (wrap64 (x3 - 1)) < (x0.length:Int) then (if ((rd_T36 x0 x3).f0)≤((rd_T36 x0 (wrap64 (x3 - 1))).f0) then (some 25) else (jobshellref23_Valid.l0 k x0 (wrap64 (x3 + 1)))) else (none)) else (none)) else (jobshellref23_Valid.l0 k x0 (wrap64 (x3 + 1)))) else (some t227))) else (none)) else (some 0)
def jobshellref23_Valid.f (k:Nat) (l0:List (S36)):Option (Int):=jobshellref23_Valid.l0 k l0 0
theorem jobshellref23_Valid.mono_l:∀ k,(∀ y0 y1,LeO (jobshellref23_Valid.l0 k y0 y1) (jobshellref23_Valid.l0 (k + 1) y0 y1))
 |0=>fun _ _ r h=>by simp [jobshellref23_Valid.l0] at h
 |k + 1=>by
  have ih0:=jobshellref23_Valid.mono_l k
  ·intro y0 y1
   unfold jobshellref23_Valid.l0
   repeat' first
   |(with_reducible exact ih0 _ _)
   |(with_reducible exact jobshellref23_one.mono _ _ _ _)
   |(with_reducible exact LeO.refl _)
   |(with_reducible exact LeO.none _)
   |(with_reducible refine LeO.ite ?_ ?_)
   |(with_reducible refine LeO.bind ?_ (fun _=>?_))
   |exact ih0 _ _
   |exact jobshellref23_one.mono _ _ _ _
   |exact LeO.none _
   |refine LeO.ite ?_ ?_
   |refine LeO.bind ?_ (fun _=>?_)
theorem jobshellref23_Valid.mono:∀ a0 k,LeO (jobshellref23_Valid.f k a0) (jobshellref23_Valid.f (k + 1) a0):=by
 intro a0 k
 have ih0:=jobshellref23_Valid.mono_l k
 unfold jobshellref23_Valid.f
 repeat' first
   |(with_reducible exact ih0 _ _)
   |(with_reducible exact jobshellref23_one.mono _ _ _ _)
   |(with_reducible exact LeO.refl _)
   |(with_reducible exact LeO.none _)
   |(with_reducible refine LeO.ite ?_ ?_)
   |(with_reducible refine LeO.bind ?_ (fun _=>?_))
   |exact ih0 _ _
   |exact jobshellref23_one.mono _ _ _ _
   |exact LeO.none _
   |refine LeO.ite ?_ ?_
   |refine LeO.bind ?_ (fun _=>?_)
set_option maxHeartbeats 8000000 in
set_option maxRecDepth 10000000 in
theorem jobshellref23_Valid.calls (k:Nat) (A0:Option Addr) (c0:Nat) (l0:List (S36)) (r:Int) (w:World) (hr0:Kd.C k36 w A0 l0.length l0) (hc0:l0.length≤c0) (h:jobshellref23_Valid.f k l0=some r) :
  Calls Try.prog 19 #[.slice A0 l0.length c0] w fun e w'=>e=.returned (.int .i64 r)∧Below w.heap.size w w':=by
 have hu36:=Try.underlying36
 have HR0:=Zk hr0
 have HC0:=Zk hc0
 clear hr0 hc0
 have HB:=Zk (Below.refl w.heap.size w)
 have H:(jobshellref23_Valid.l0 k l0 0)=some r:=h
 clear h
 have H':=Zk H
 clear H
 go_enter Try.func19,Try.ntmps19
 go_wp2
 repeat (go_quiet (fail);try go_wp2)
 go_loopg [3] k (fun kq v3 w'=>∃ (x3_1:Int),v3=.int .i64 x3_1∧zR (jobshellref23_Valid.l0 kq l0 x3_1=some r)∧zR (kq≤k)∧zR (Below w.heap.size w w'))
 case atStart=>exact ⟨(0),(by first|rfl|(simp;done)|(simp [*];done)|(generalize ByteArray.toList _=l_;cases l_ <;> rfl)),H',⟨Nat.le_refl _⟩,⟨by repeat (first|(with_reducible first|exact HB.out|apply zG|apply zC|apply zH)|exact HB.out)⟩⟩
 case round=>
  clear H'
  try clear c1
  obtain ⟨x3_1,rfl,HA,HK1,HB⟩:=hrel
  cases gk with
  |zero=>exact absurd HA.out (by simp [jobshellref23_Valid.l0])
  |succ k1=>
   have H:=HA.out
   clear HA
   simp only [jobshellref23_Valid.l0] at H
   by_cases c2:x3_1 < (l0.length:Int)
   ·rw [if_pos c2] at H
    have c2b0:decide (x3_1 < (l0.length:Int))=true:=decide_eq_true c2
    clear c2
    by_cases c3:0≤x3_1
    ·rw [if_pos c3] at H
     have c3b0:decide (0≤x3_1)=true:=decide_eq_true c3
     clear c3
     replace H:=Option.bind_eq_some_iff.mp H
     obtain ⟨t227,A40,H⟩:=H
     replace H:(if t227=0 then (if x3_1 > 0 then (if 0≤(wrap64 (x3_1 - 1)) then (if (wrap64 (x3_1 - 1)) < (l0.length:Int) then (if ((rd_T36 l0 x3_1).f0)≤((rd_T36 l0 (wrap64 (x3_1 - 1))).f0) then (some 25) else (jobshellref23_Valid.l0 k1 l0 (wrap64 (x3_1 + 1)))) else (none)) else (none)) else (jobshellref23_Valid.l0 k1 l0 (wrap64 (x3_1 + 1)))) else (some t227))=some r:=H
     have A4:=Zk A40
     clear A40
     by_cases c5:t227=0
     ·rw [if_pos c5] at H
      have c5b0:(t227 == 0)=true:=beq_iff_eq.mpr c5
      have c5b1:(t227 != 0)=false:=bne_eq_false_iff_eq.mpr c5
      clear c5
      by_cases c6:x3_1 > 0
      ·rw [if_pos c6] at H
       have c6b0:decide (0 < x3_1)=true:=decide_eq_true c6
       clear c6
       obtain ⟨ji7,hji7⟩:∃ j_:Int,(wrap64 (x3_1 - 1))=j_:=⟨_,rfl⟩
       replace H:(if 0≤(ji7) then (if (ji7) < (l0.length:Int) then (if ((rd_T36 l0 x3_1).f0)≤((rd_T36 l0 (ji7)).f0) then (some 25) else (jobshellref23_Valid.l0 k1 l0 (wrap64 (x3_1 + 1)))) else (none)) else (none))=some r:=by first|(rw [hji7] at H;exact H)|(simp only [hji7] at H ⊢;exact H)
       (try rw [hji7] at A4)
       have hji7w:(IntKind.i64.wrap (x3_1 - 1))=ji7:=(i64_w _).trans hji7
       by_cases c8:0≤(ji7)
       ·rw [if_pos c8] at H
        have c8b0:decide (0≤(ji7))=true:=decide_eq_true c8
        clear c8
        by_cases c9:(ji7) < (l0.length:Int)
        ·rw [if_pos c9] at H
         have c9b0:decide ((ji7) < (l0.length:Int))=true:=decide_eq_true c9
         clear c9
         by_cases c10:((rd_T36 l0 x3_1).f0)≤((rd_T36 l0 (ji7)).f0)
         ·rw [if_pos c10] at H
          have c10b0:decide (((rd_T36 l0 x3_1).f0)≤((rd_T36 l0 (ji7)).f0))=true:=decide_eq_true c10
          clear c10
          obtain rfl:=Option.some.inj H
          have p226:0≤(x3_1:Int):=of_decide_eq_true (by first|(with_reducible assumption)|assumption)
          have q226:x3_1 < (l0.length:Int):=of_decide_eq_true (by first|(with_reducible assumption)|assumption)
          obtain ⟨ad226,e226,hx226_0,hx226_1,hx226_2⟩:=at_T36 HR0.out x3_1 p226 q226
          cases e226
          replace hx226_0:=(HB.out.cell (World.block_lt_of_cell? w _ hx226_0)).trans hx226_0
          replace hx226_1:=(HB.out.cell (World.block_lt_of_cell? w _ hx226_1)).trans hx226_1
          replace hx226_2:=(HB.out.cell (World.block_lt_of_cell? w _ hx226_2)).trans hx226_2
          replace p226:=eq_true p226
          replace q226:=eq_true q226
          go_wp2_with (first|(go_at_call 36;(with_reducible refine (jobshellref23_one.calls k1 ((rd_T36 l0 x3_1).f0) ((rd_T36 l0 x3_1).f1) ((rd_T36 l0 x3_1).f2) t227 _ A4.out).mono ?_);rintro e w11 ⟨rfl,hb⟩;have n0_:=Zk (zL (by repeat (first|(with_reducible first|exact HB.out|apply zG|apply zC|apply zH)|exact HB.out)) hb);clear HB;have HB:=n0_;clear n0_;(try clear hb);(try clear hb2);(try clear hk);(try clear hi);have p228:0≤(x3_1:Int):=of_decide_eq_true (by first|(with_reducible assumption)|assumption);have q228:x3_1 < (l0.length:Int):=of_decide_eq_true (by first|(with_reducible assumption)|assumption);obtain ⟨ad228,e228,hx228_0,hx228_1,hx228_2⟩:=at_T36 HR0.out x3_1 p228 q228;obtain rfl:ad226=ad228:=(by injection e228);replace hx228_0:=(HB.out.cell (World.block_lt_of_cell? w _ hx228_0)).trans hx228_0;replace hx228_1:=(HB.out.cell (World.block_lt_of_cell? w _ hx228_1)).trans hx228_1;replace hx228_2:=(HB.out.cell (World.block_lt_of_cell? w _ hx228_2)).trans hx228_2;replace p228:=eq_true p228;replace q228:=eq_true q228;have p229:0≤((ji7):Int):=of_decide_eq_true (by first|(with_reducible assumption)|assumption);have q229:(ji7) < (l0.length:Int):=of_decide_eq_true (by first|(with_reducible assumption)|assumption);obtain ⟨ad229,e229,hx229_0,hx229_1,hx229_2⟩:=at_T36 HR0.out (ji7) p229 q229;obtain rfl:ad226=ad229:=(by injection e229);replace hx229_0:=(HB.out.cell (World.block_lt_of_cell? w _ hx229_0)).trans hx229_0;replace hx229_1:=(HB.out.cell (World.block_lt_of_cell? w _ hx229_1)).trans hx229_1;replace hx229_2:=(HB.out.cell (World.block_lt_of_cell? w _ hx229_2)).trans hx229_2;replace p229:=eq_true p229;replace q229:=eq_true q229))
          repeat (go_quiet (first|(go_at_call 36;(with_reducible refine (jobshellref23_one.calls k1 ((rd_T36 l0 x3_1).f0) ((rd_T36 l0 x3_1).f1) ((rd_T36 l0 x3_1).f2) t227 _ A4.out).mono ?_);rintro e w11 ⟨rfl,hb⟩;have n0_:=Zk (zL (by repeat (first|(with_reducible first|exact HB.out|apply zG|apply zC|apply zH)|exact HB.out)) hb);clear HB;have HB:=n0_;clear n0_;(try clear hb);(try clear hb2);(try clear hk);(try clear hi);have p228:0≤(x3_1:Int):=of_decide_eq_true (by first|(with_reducible assumption)|assumption);have q228:x3_1 < (l0.length:Int):=of_decide_eq_true (by first|(with_reducible assumption)|assumption);obtain ⟨ad228,e228,hx228_0,hx228_1,hx228_2⟩:=at_T36 HR0.out x3_1 p228 q228;obtain rfl:ad226=ad228:=(by injection e228);replace hx228_0:=(HB.out.cell (World.block_lt_of_cell? w _ hx228_0)).trans hx228_0;replace hx228_1:=(HB.out.cell (World.block_lt_of_cell? w _ hx228_1)).trans hx228_1;replace hx228_2:=(HB.out.cell (World.block_lt_of_cell? w _ hx228_2)).trans hx228_2;replace p228:=eq_true p228;replace q228:=eq_true q228;have p229:0≤((ji7):Int):=of_decide_eq_true (by first|(with_reducible assumption)|assumption);have q229:(ji7) < (l0.length:Int):=of_decide_eq_true (by first|(with_reducible assumption)|assumption);obtain ⟨ad229,e229,hx229_0,hx229_1,hx229_2⟩:=at_T36 HR0.out (ji7) p229 q229;obtain rfl:ad226=ad229:=(by injection e229);replace hx229_0:=(HB.out.cell (World.block_lt_of_cell? w _ hx229_0)).trans hx229_0;replace hx229_1:=(HB.out.cell (World.block_lt_of_cell? w _ hx229_1)).trans hx229_1;replace hx229_2:=(HB.out.cell (World.block_lt_of_cell? w _ hx229_2)).trans hx229_2;replace p229:=eq_true p229;replace q229:=eq_true q229));try go_wp2_with (first|(go_at_call 36;(with_reducible refine (jobshellref23_one.calls k1 ((rd_T36 l0 x3_1).f0) ((rd_T36 l0 x3_1).f1) ((rd_T36 l0 x3_1).f2) t227 _ A4.out).mono ?_);rintro e w11 ⟨rfl,hb⟩;have n0_:=Zk (zL (by repeat (first|(with_reducible first|exact HB.out|apply zG|apply zC|apply zH)|exact HB.out)) hb);clear HB;have HB:=n0_;clear n0_;(try clear hb);(try clear hb2);(try clear hk);(try clear hi);have p228:0≤(x3_1:Int):=of_decide_eq_true (by first|(with_reducible assumption)|assumption);have q228:x3_1 < (l0.length:Int):=of_decide_eq_true (by first|(with_reducible assumption)|assumption);obtain ⟨ad228,e228,hx228_0,hx228_1,hx228_2⟩:=at_T36 HR0.out x3_1 p228 q228;obtain rfl:ad226=ad228:=(by injection e228);replace hx228_0:=(HB.out.cell (World.block_lt_of_cell? w _ hx228_0)).trans hx228_0;replace hx228_1:=(HB.out.cell (World.block_lt_of_cell? w _ hx228_1)).trans hx228_1;replace hx228_2:=(HB.out.cell (World.block_lt_of_cell? w _ hx228_2)).trans hx228_2;replace p228:=eq_true p228;replace q228:=eq_true q228;have p229:0≤((ji7):Int):=of_decide_eq_true (by first|(with_reducible assumption)|assumption);have q229:(ji7) < (l0.length:Int):=of_decide_eq_true (by first|(with_reducible assumption)|assumption);obtain ⟨ad229,e229,hx229_0,hx229_1,hx229_2⟩:=at_T36 HR0.out (ji7) p229 q229;obtain rfl:ad226=ad229:=(by injection e229);replace hx229_0:=(HB.out.cell (World.block_lt_of_cell? w _ hx229_0)).trans hx229_0;replace hx229_1:=(HB.out.cell (World.block_lt_of_cell? w _ hx229_1)).trans hx229_1;replace hx229_2:=(HB.out.cell (World.block_lt_of_cell? w _ hx229_2)).trans hx229_2;replace p229:=eq_true p229;replace q229:=eq_true q229)))
          go_ret
          exact ⟨by first|rfl|(simp [errW_none,errW_some] <;> rfl)|(simp only [← hji7];first|rfl|(simp [errW_none,errW_some] <;> rfl))|(simp [*,errW_none,errW_some] <;> rfl),by repeat (first|(with_reducible first|exact HB.out|apply zG|apply zC|apply zH)|exact HB.out)⟩
         ·rw [if_neg c10] at H
          have c10b0:decide (((rd_T36 l0 x3_1).f0)≤((rd_T36 l0 (ji7)).f0))=false:=decide_eq_false c10
          clear c10
          have H':=Zk H
          clear H
          have p226:0≤(x3_1:Int):=of_decide_eq_true (by first|(with_reducible assumption)|assumption)
          have q226:x3_1 < (l0.length:Int):=of_decide_eq_true (by first|(with_reducible assumption)|assumption)
          obtain ⟨ad226,e226,hx226_0,hx226_1,hx226_2⟩:=at_T36 HR0.out x3_1 p226 q226
          cases e226
          replace hx226_0:=(HB.out.cell (World.block_lt_of_cell? w _ hx226_0)).trans hx226_0
          replace hx226_1:=(HB.out.cell (World.block_lt_of_cell? w _ hx226_1)).trans hx226_1
          replace hx226_2:=(HB.out.cell (World.block_lt_of_cell? w _ hx226_2)).trans hx226_2
          replace p226:=eq_true p226
          replace q226:=eq_true q226
          go_wp2_with (first|(go_at_call 36;(with_reducible refine (jobshellref23_one.calls k1 ((rd_T36 l0 x3_1).f0) ((rd_T36 l0 x3_1).f1) ((rd_T36 l0 x3_1).f2) t227 _ A4.out).mono ?_);rintro e w12 ⟨rfl,hb⟩;have n0_:=Zk (zL (by repeat (first|(with_reducible first|exact HB.out|apply zG|apply zC|apply zH)|exact HB.out)) hb);clear HB;have HB:=n0_;clear n0_;(try clear hb);(try clear hb2);(try clear hk);(try clear hi);have p228:0≤(x3_1:Int):=of_decide_eq_true (by first|(with_reducible assumption)|assumption);have q228:x3_1 < (l0.length:Int):=of_decide_eq_true (by first|(with_reducible assumption)|assumption);obtain ⟨ad228,e228,hx228_0,hx228_1,hx228_2⟩:=at_T36 HR0.out x3_1 p228 q228;obtain rfl:ad226=ad228:=(by injection e228);replace hx228_0:=(HB.out.cell (World.block_lt_of_cell? w _ hx228_0)).trans hx228_0;replace hx228_1:=(HB.out.cell (World.block_lt_of_cell? w _ hx228_1)).trans hx228_1;replace hx228_2:=(HB.out.cell (World.block_lt_of_cell? w _ hx228_2)).trans hx228_2;replace p228:=eq_true p228;replace q228:=eq_true q228;have p229:0≤((ji7):Int):=of_decide_eq_true (by first|(with_reducible assumption)|assumption);have q229:(ji7) < (l0.length:Int):=of_decide_eq_true (by first|(with_reducible assumption)|assumption);obtain ⟨ad229,e229,hx229_0,hx229_1,hx229_2⟩:=at_T36 HR0.out (ji7) p229 q229;obtain rfl:ad226=ad229:=(by injection e229);replace hx229_0:=(HB.out.cell (World.block_lt_of_cell? w _ hx229_0)).trans hx229_0;replace hx229_1:=(HB.out.cell (World.block_lt_of_cell? w _ hx229_1)).trans hx229_1;replace hx229_2:=(HB.out.cell (World.block_lt_of_cell? w _ hx229_2)).trans hx229_2;replace p229:=eq_true p229;replace q229:=eq_true q229))
          repeat (go_quiet (first|(go_at_call 36;(with_reducible refine (jobshellref23_one.calls k1 ((rd_T36 l0 x3_1).f0) ((rd_T36 l0 x3_1).f1) ((rd_T36 l0 x3_1).f2) t227 _ A4.out).mono ?_);rintro e w12 ⟨rfl,hb⟩;have n0_:=Zk (zL (by repeat (first|(with_reducible first|exact HB.out|apply zG|apply zC|apply zH)|exact HB.out)) hb);clear HB;have HB:=n0_;clear n0_;(try clear hb);(try clear hb2);(try clear hk);(try clear hi);have p228:0≤(x3_1:Int):=of_decide_eq_true (by first|(with_reducible assumption)|assumption);have q228:x3_1 < (l0.length:Int):=of_decide_eq_true (by first|(with_reducible assumption)|assumption);obtain ⟨ad228,e228,hx228_0,hx228_1,hx228_2⟩:=at_T36 HR0.out x3_1 p228 q228;obtain rfl:ad226=ad228:=(by injection e228);replace hx228_0:=(HB.out.cell (World.block_lt_of_cell? w _ hx228_0)).trans hx228_0;replace hx228_1:=(HB.out.cell (World.block_lt_of_cell? w _ hx228_1)).trans hx228_1;replace hx228_2:=(HB.out.cell (World.block_lt_of_cell? w _ hx228_2)).trans hx228_2;replace p228:=eq_true p228;replace q228:=eq_true q228;have p229:0≤((ji7):Int):=of_decide_eq_true (by first|(with_reducible assumption)|assumption);have q229:(ji7) < (l0.length:Int):=of_decide_eq_true (by first|(with_reducible assumption)|assumption);obtain ⟨ad229,e229,hx229_0,hx229_1,hx229_2⟩:=at_T36 HR0.out (ji7) p229 q229;obtain rfl:ad226=ad229:=(by injection e229);replace hx229_0:=(HB.out.cell (World.block_lt_of_cell? w _ hx229_0)).trans hx229_0;replace hx229_1:=(HB.out.cell (World.block_lt_of_cell? w _ hx229_1)).trans hx229_1;replace hx229_2:=(HB.out.cell (World.block_lt_of_cell? w _ hx229_2)).trans hx229_2;replace p229:=eq_true p229;replace q229:=eq_true q229));try go_wp2_with (first|(go_at_call 36;(with_reducible refine (jobshellref23_one.calls k1 ((rd_T36 l0 x3_1).f0) ((rd_T36 l0 x3_1).f1) ((rd_T36 l0 x3_1).f2) t227 _ A4.out).mono ?_);rintro e w12 ⟨rfl,hb⟩;have n0_:=Zk (zL (by repeat (first|(with_reducible first|exact HB.out|apply zG|apply zC|apply zH)|exact HB.out)) hb);clear HB;have HB:=n0_;clear n0_;(try clear hb);(try clear hb2);(try clear hk);(try clear hi);have p228:0≤(x3_1:Int):=of_decide_eq_true (by first|(with_reducible assumption)|assumption);have q228:x3_1 < (l0.length:Int):=of_decide_eq_true (by first|(with_reducible assumption)|assumption);obtain ⟨ad228,e228,hx228_0,hx228_1,hx228_2⟩:=at_T36 HR0.out x3_1 p228 q228;obtain rfl:ad226=ad228:=(by injection e228);replace hx228_0:=(HB.out.cell (World.block_lt_of_cell? w _ hx228_0)).trans hx228_0;replace hx228_1:=(HB.out.cell (World.block_lt_of_cell? w _ hx228_1)).trans hx228_1;replace hx228_2:=(HB.out.cell (World.block_lt_of_cell? w _ hx228_2)).trans hx228_2;replace p228:=eq_true p228;replace q228:=eq_true q228;have p229:0≤((ji7):Int):=of_decide_eq_true (by first|(with_reducible assumption)|assumption);have q229:(ji7) < (l0.length:Int):=of_decide_eq_true (by first|(with_reducible assumption)|assumption);obtain ⟨ad229,e229,hx229_0,hx229_1,hx229_2⟩:=at_T36 HR0.out (ji7) p229 q229;obtain rfl:ad226=ad229:=(by injection e229);replace hx229_0:=(HB.out.cell (World.block_lt_of_cell? w _ hx229_0)).trans hx229_0;replace hx229_1:=(HB.out.cell (World.block_lt_of_cell? w _ hx229_1)).trans hx229_1;replace hx229_2:=(HB.out.cell (World.block_lt_of_cell? w _ hx229_2)).trans hx229_2;replace p229:=eq_true p229;replace q229:=eq_true q229)))
          go_roundg k1
          case measure=>have:=HK1.out;omega
          case rel=>exact ⟨(wrap64 (x3_1 + 1)),(by first|rfl|(simp;done)|(simp [*];done)|(generalize ByteArray.toList _=l_;cases l_ <;> rfl)),H',⟨by have:=HK1.out;omega⟩,⟨by repeat (first|(with_reducible first|exact HB.out|apply zG|apply zC|apply zH)|exact HB.out)⟩⟩
        ·rw [if_neg c9] at H
         exact absurd H (by simp)
       ·rw [if_neg c8] at H
        exact absurd H (by simp)
      ·rw [if_neg c6] at H
       have c6b0:decide (0 < x3_1)=false:=decide_eq_false c6
       clear c6
       have H':=Zk H
       clear H
       have p226:0≤(x3_1:Int):=of_decide_eq_true (by first|(with_reducible assumption)|assumption)
       have q226:x3_1 < (l0.length:Int):=of_decide_eq_true (by first|(with_reducible assumption)|assumption)
       obtain ⟨ad226,e226,hx226_0,hx226_1,hx226_2⟩:=at_T36 HR0.out x3_1 p226 q226
       cases e226
       replace hx226_0:=(HB.out.cell (World.block_lt_of_cell? w _ hx226_0)).trans hx226_0
       replace hx226_1:=(HB.out.cell (World.block_lt_of_cell? w _ hx226_1)).trans hx226_1
       replace hx226_2:=(HB.out.cell (World.block_lt_of_cell? w _ hx226_2)).trans hx226_2
       replace p226:=eq_true p226
       replace q226:=eq_true q226
       go_wp2_with (first|(go_at_call 36;(with_reducible refine (jobshellref23_one.calls k1 ((rd_T36 l0 x3_1).f0) ((rd_T36 l0 x3_1).f1) ((rd_T36 l0 x3_1).f2) t227 _ A4.out).mono ?_);rintro e w13 ⟨rfl,hb⟩;have n0_:=Zk (zL (by repeat (first|(with_reducible first|exact HB.out|apply zG|apply zC|apply zH)|exact HB.out)) hb);clear HB;have HB:=n0_;clear n0_;(try clear hb);(try clear hb2);(try clear hk);(try clear hi)))
       repeat (go_quiet (first|(go_at_call 36;(with_reducible refine (jobshellref23_one.calls k1 ((rd_T36 l0 x3_1).f0) ((rd_T36 l0 x3_1).f1) ((rd_T36 l0 x3_1).f2) t227 _ A4.out).mono ?_);rintro e w13 ⟨rfl,hb⟩;have n0_:=Zk (zL (by repeat (first|(with_reducible first|exact HB.out|apply zG|apply zC|apply zH)|exact HB.out)) hb);clear HB;have HB:=n0_;clear n0_;(try clear hb);(try clear hb2);(try clear hk);(try clear hi)));try go_wp2_with (first|(go_at_call 36;(with_reducible refine (jobshellref23_one.calls k1 ((rd_T36 l0 x3_1).f0) ((rd_T36 l0 x3_1).f1) ((rd_T36 l0 x3_1).f2) t227 _ A4.out).mono ?_);rintro e w13 ⟨rfl,hb⟩;have n0_:=Zk (zL (by repeat (first|(with_reducible first|exact HB.out|apply zG|apply zC|apply zH)|exact HB.out)) hb);clear HB;have HB:=n0_;clear n0_;(try clear hb);(try clear hb2);(try clear hk);(try clear hi))))
       go_roundg k1
       case measure=>have:=HK1.out;omega
       case rel=>exact ⟨(wrap64 (x3_1 + 1)),(by first|rfl|(simp;done)|(simp [*];done)|(generalize ByteArray.toList _=l_;cases l_ <;> rfl)),H',⟨by have:=HK1.out;omega⟩,⟨by repeat (first|(with_reducible first|exact HB.out|apply zG|apply zC|apply zH)|exact HB.out)⟩⟩
     ·rw [if_neg c5] at H
      have c5b0:(t227 == 0)=false:=beq_eq_false_iff_ne.mpr c5
      have c5b1:(t227 != 0)=true:=bne_iff_ne.mpr c5
      obtain rfl:=Option.some.inj H
      have p226:0≤(x3_1:Int):=of_decide_eq_true (by first|(with_reducible assumption)|assumption)
      have q226:x3_1 < (l0.length:Int):=of_decide_eq_true (by first|(with_reducible assumption)|assumption)
      obtain ⟨ad226,e226,hx226_0,hx226_1,hx226_2⟩:=at_T36 HR0.out x3_1 p226 q226
      cases e226
      replace hx226_0:=(HB.out.cell (World.block_lt_of_cell? w _ hx226_0)).trans hx226_0
      replace hx226_1:=(HB.out.cell (World.block_lt_of_cell? w _ hx226_1)).trans hx226_1
      replace hx226_2:=(HB.out.cell (World.block_lt_of_cell? w _ hx226_2)).trans hx226_2
      replace p226:=eq_true p226
      replace q226:=eq_true q226
      go_wp2_with (first|(go_at_call 36;(with_reducible refine (jobshellref23_one.calls k1 ((rd_T36 l0 x3_1).f0) ((rd_T36 l0 x3_1).f1) ((rd_T36 l0 x3_1).f2) t227 _ A4.out).mono ?_);rintro e w14 ⟨rfl,hb⟩;have n0_:=Zk (zL (by repeat (first|(with_reducible first|exact HB.out|apply zG|apply zC|apply zH)|exact HB.out)) hb);clear HB;have HB:=n0_;clear n0_;(try clear hb);(try clear hb2);(try clear hk);(try clear hi)))
      repeat (go_quiet (first|(go_at_call 36;(with_reducible refine (jobshellref23_one.calls k1 ((rd_T36 l0 x3_1).f0) ((rd_T36 l0 x3_1).f1) ((rd_T36 l0 x3_1).f2) t227 _ A4.out).mono ?_);rintro e w14 ⟨rfl,hb⟩;have n0_:=Zk (zL (by repeat (first|(with_reducible first|exact HB.out|apply zG|apply zC|apply zH)|exact HB.out)) hb);clear HB;have HB:=n0_;clear n0_;(try clear hb);(try clear hb2);(try clear hk);(try clear hi)));try go_wp2_with (first|(go_at_call 36;(with_reducible refine (jobshellref23_one.calls k1 ((rd_T36 l0 x3_1).f0) ((rd_T36 l0 x3_1).f1) ((rd_T36 l0 x3_1).f2) t227 _ A4.out).mono ?_);rintro e w14 ⟨rfl,hb⟩;have n0_:=Zk (zL (by repeat (first|(with_reducible first|exact HB.out|apply zG|apply zC|apply zH)|exact HB.out)) hb);clear HB;have HB:=n0_;clear n0_;(try clear hb);(try clear hb2);(try clear hk);(try clear hi))))
      go_ret
      exact ⟨by first|rfl|(simp [errW_none,errW_some] <;> rfl)|(simp [*,errW_none,errW_some] <;> rfl),by repeat (first|(with_reducible first|exact HB.out|apply zG|apply zC|apply zH)|exact HB.out)⟩
    ·rw [if_neg c3] at H
     exact absurd H (by simp)
   ·rw [if_neg c2] at H
    have c2b0:decide (x3_1 < (l0.length:Int))=false:=decide_eq_false c2
    clear c2
    obtain rfl:=Option.some.inj H
    go_wp2
    repeat (go_quiet (fail);try go_wp2)
    go_ret
    exact ⟨by first|rfl|(simp [errW_none,errW_some] <;> rfl)|(simp [*,errW_none,errW_some] <;> rfl),by repeat (first|(with_reducible first|exact HB.out|apply zG|apply zC|apply zH)|exact HB.out)⟩
end Go.Proofs.Ytpljggoogodhlaa.Q
end
section
namespace Go.Proofs.Ytpljggoogodhlaa.Ix
open Go.RowKit Go.Proofs.YtpljggoogodhlaaW.PrintWords Go.Proofs.YtpljggoogodhlaaW.PrintLast Go.Proofs.YtpljggoogodhlaaW.PrintMore Go.Proofs.Ytpljggoogodhlaa.Q Go.Proofs.YtpljggoogodhlaaM
set_option linter.unusedVariables false
set_option linter.unusedSimpArgs false
set_option maxHeartbeats 1000000 in
set_option maxRecDepth 100000 in
theorem any (g:Nat) (lb:Array Value) (eg:∀ args (w:World),(callFunc g args).run Try.prog w=.ok (.enter g args) w) (p:S36→Bool) (A0:Option Addr) (c0:Nat) (l0:List S36) (w:World) (hr0:Kd.C k36 w A0 l0.length l0) (hc0:l0.length≤c0)
    (hp:∀ (W:World) (x:S36),Below w.heap.size w W→Calls Try.prog g (#[.agg #[.int .i64 x.f0,.int .i64 x.f1,.bool x.f2]] ++ lb) W fun e w'=>e=.returned (.bool (p x))∧Below W.heap.size W w') :
    Calls Try.prog 43 #[.slice A0 l0.length c0,.func (.func g) #[] lb] w fun e w'=>e=.returned (.int .i64 (idxP p l0 0))∧Below w.heap.size w w':=by
  obtain ⟨n,hn⟩:∃ n,n=l0.length:=⟨_,rfl⟩
  have hu36:=Try.underlying36
  have hmax:n≤9223372036854775807:=by have:=hr0.2.1;omega
  have hA:0 < n→∃ ad,A0=some ad:=fun h=>by obtain ⟨ad,h1,_⟩:=hr0.2.2 (by omega);exact ⟨ad,h1⟩
  rw [← hn] at hr0 ⊢
  have HN:=zR.mk hn
  have HP:=zR.mk hp
  have HR:=zR.mk hr0
  clear hp hr0 hn hc0
  by_cases h0:0 < n
  · obtain ⟨ad,rfl⟩:=hA h0
    clear hA h0
    go_enter Try.func43,Try.ntmps43
    go_wp2
    go_loopg [5,8] n (fun gg _ s8 wr=>∃ kk:Nat,kk≤n∧n - kk≤gg∧s8=.int .i64 kk∧zR (Below w.heap.size w wr)∧zR (∀ j,j < kk→p (l0.getD j z36)=false))
    case atStart=>exact ⟨0,Nat.zero_le _,by omega,rfl,⟨Below.refl _ w⟩,⟨fun j hj=>absurd hj (Nat.not_lt_zero _)⟩⟩
    case round=>
      obtain ⟨kk,hkk,hg,rfl,BW,A⟩:=hrel
      by_cases hlt:kk < n
      · have hltz:(kk:Int) < (n:Int):=by omega
        obtain ⟨ad',e',x0,x1,x2⟩:=at_T36 (Kd.C_below HR.out BW.out) (kk:Int) (by omega) hltz
        injection e' with e'
        subst e'
        rw [Int.toNat_natCast] at x0 x1 x2
        have hcall:=HP.out wr (rd_T36 l0 (kk:Int)) BW.out
        have hy:rd_T36 l0 (kk:Int)=l0.getD kk z36:=rfl
        rw [hy] at hcall x0 x1 x2
        generalize hy2:l0.getD kk z36=y at hcall x0 x1 x2
        have B:=zR.mk hy2
        clear hy2 hy
        cases hq:p y with
        |true=>
          have HQ:=zR.mk hq
          rw [hq] at hcall
          clear hq
          go_wp2_with ((with_reducible refine hcall.mono ?_);rintro e w' ⟨rfl,hb'⟩)
          go_ret
          refine ⟨?_,zL BW.out hb'⟩
          rw [idxP_hit p z36 l0 0 kk (by have:=HN.out;omega) A.out (by rw [B.out];exact HQ.out),Nat.zero_add]
          rfl
        |false=>
          have HQ:=zR.mk hq
          rw [hq] at hcall
          clear hq
          go_wp2_with ((with_reducible refine hcall.mono ?_);rintro e w' ⟨rfl,hb'⟩)
          go_roundg (n - (kk + 1))
          case measure=>omega
          case rel=>
            refine ⟨kk + 1,by omega,by omega,by go_num,⟨zL BW.out hb'⟩,⟨fun j hj=>?_⟩⟩
            by_cases e:j=kk
            · subst e
              rw [B.out];exact HQ.out
            · exact A.out j (by omega)
      · have hltz:¬ (kk:Int) < (n:Int):=by omega
        have:kk=n:=by omega
        subst this
        go_wp2
        go_ret
        refine ⟨?_,BW.out⟩
        rw [idxP_miss p z36 l0 0 (by rw [← HN.out];exact A.out)]
        rfl
  · have hz:n=0:=by omega
    subst hz
    have hl:l0=[]:=List.eq_nil_of_length_eq_zero HN.out.symm
    subst hl
    clear hA h0
    go_enter Try.func43,Try.ntmps43
    go_wp2
    go_loopg [5,8] 0 (fun gg _ s8 wr=>s8=.int .i64 0∧zR (w=wr))
    case atStart=>exact ⟨rfl,⟨rfl⟩⟩
    case round=>
      obtain ⟨rfl,hw⟩:=hrel
      obtain rfl:=hw.out
      go_wp2
      go_ret
      exact ⟨rfl,Below.refl _ _⟩
set_option maxHeartbeats 1000000 in
theorem cl (B:Nat) (n:Int) (W:World) (x:S36) (hc:W.cell? ⟨B,0,none⟩=some (.int .i64 n)) :
    Calls Try.prog 44 #[.agg #[.int .i64 x.f0,.int .i64 x.f1,.bool x.f2],.pointer (some ⟨B,0,none⟩)] W fun e w'=>e=.returned (.bool (x.f0 == n))∧Below W.heap.size W w':=by
  have hu36:=Try.underlying36
  have hB:B < W.heap.size:=World.block_lt_of_cell? W _ hc
  have hne:¬ (W.heap.size=B):=by omega
  go_enter Try.func44,Try.ntmps44
  go_wp2
  go_ret
  exact ⟨by rfl,(Below.refl _ _).alloc (Nat.le_refl _) _⟩
def index.f (l0:List S36) (a1:Int):Option (Int):=some (idxP (fun x=>x.f0 == a1) l0 0)
theorem index.calls (A0:Option Addr) (c0:Nat) (l0:List S36) (a1:Int) (r:Int) (w:World) (hr0:Kd.C k36 w A0 l0.length l0) (hc0:l0.length≤c0) (h:index.f l0 a1=some r) :
    Calls Try.prog 34 #[.slice A0 l0.length c0,.int .i64 a1] w fun e w'=>e=.returned (.int .i64 r)∧Below w.heap.size w w':=by
  obtain rfl:=Option.some.inj h
  clear h
  have HR:=zR.mk hr0
  have HC:=zR.mk hc0
  clear hr0 hc0
  have eg:∀ args (w:World),(callFunc 44 args).run Try.prog w=.ok (.enter 44 args) w:=Go.Proofs.enters_of Try.func44 (by kernel_rfl) rfl
  go_enter Try.func34,Try.ntmps34
  go_wp2_with (go_at_call 43;refine (any 44 #[.pointer (some ⟨w.heap.size,0,none⟩)] eg (fun x=>x.f0 == a1) A0 c0 l0 _ (Kd.yC HR.out _) HC.out (fun W x hW=>cl _ _ _ _ ((hW.cell (p:=⟨w.heap.size,0,none⟩) (by simp)).trans (by simp)))).mono ?_;rintro e w' ⟨rfl,hb⟩)
  go_ret
  exact ⟨rfl,zL (zG (Below.refl _ _) _) hb⟩
end Go.Proofs.Ytpljggoogodhlaa.Ix

end
section
namespace Go.Proofs.Ytpljggoogodhlaa.Ix
open Go.RowKit Go.Lib Go.Proofs.YtpljggoogodhlaaW.PrintWords Go.Proofs.YtpljggoogodhlaaW.PrintLast Go.Proofs.YtpljggoogodhlaaW.PrintMore Go.Proofs.YtpljggoogodhlaaM
set_option linter.unusedVariables false
set_option linter.unusedSimpArgs false
theorem run_copy_k {P:Program} (w:World) (dT sT ty elem:TypeId) (s b o dLen dCap:Nat) (a:Addr) (sLen sCap:Nat) (cs:List Value)
    (hu:P.underlying dT=some (.slice elem)) (hs:(P.info? elem).map (·.size)=some s) (hn:cs.length=Nat.min sLen dLen * s)
    (hsrc:∀ j v,cs[j]?=some v→w.cell? (a.add j)=some v) (hc:∀ j,j < cs.length→(w.cell? ⟨b,o + j,none⟩).isSome=true) (hf:∀ j,j < cs.length→w.frozen? ⟨b,o + j,none⟩=false) (h1:∀ v ∈ cs,v.oneCell'=true) :
    (Builtin.copy_ #[dT,sT] ty #[.slice (some ⟨b,o,none⟩) dLen dCap,.slice (some a) sLen sCap]).run P w=.ok (goInt (Nat.min sLen dLen)) (w.setCells b o cs):=by
  have hl:=run_loadCells_list (P:=P) w a cs hsrc
  have hst:=run_storeCells_cells (P:=P) b o cs 0 w (by simpa using hc) (by simpa using hf) h1
  cases hq:P.info? elem with
  |none=>simp [hq] at hs
  |some i=>
    have hi:i.size=s:=by simpa [hq] using hs
    rw [hn] at hl
    simp [Builtin.copy_,run_underlying hu,Builtin.lenOf,Builtin.firstCells,sizeOf,typeInfo,hq,hi,hl,hst]
theorem insInfo:(Try.prog.info? 36).map (fun i=>(i.zero,i.size,i.bytes))=some (some (.agg #[(.int .i64 0),(.int .i64 0),(.bool false)]),3,24):=by kernel_rfl
theorem insMixed:Try.prog.follows Departure.mixedOrders=true:=by kernel_rfl
theorem insSize:(Try.prog.info? 36).map (·.size)=some 3:=by
  obtain ⟨i,hi,h0⟩:=Option.map_eq_some_iff.1 insInfo
  simp only [Prod.mk.injEq] at h0
  rw [hi];simp [h0.2.1]
set_option maxHeartbeats 4000000 in
set_option maxRecDepth 1000000 in
theorem ins_shift (b n c i vb m vc:Nat) (cs vs:List Value) (w:World) (hi:i < n) (hm:0 < m) (hroom:n + m≤c) (hc63:c≤9223372036854775807) (hvb:vb≠b)
    (hcl:cs.length=n * 3) (hvl:vs.length=m * 3)
    (hcs:∀ j v,cs[j]?=some v→w.cell? ⟨b,j,none⟩=some v) (hsp:∀ j,j < (n + m) * 3→(w.cell? ⟨b,j,none⟩).isSome=true) (hfz:∀ j,w.frozen? ⟨b,j,none⟩=false)
    (hvs:∀ j v,vs[j]?=some v→w.cell? ⟨vb,j,none⟩=some v) (h1c:∀ v ∈ cs,v.oneCell'=true) (h1v:∀ v ∈ vs,v.oneCell'=true)
    (tA tB:TypeId) (kA kB:Nat) (hsa:w.shape? vb=some (tA,kA)) (hsb:w.shape? b=some (tB,kB)) (hkB:kB≠0) (hfa:w.frozen? ⟨vb,0,none⟩=false) (hfe:w.frozen? ⟨vb,kA,none⟩=false) :
    Calls Try.prog 41 #[.slice (some ⟨b,0,none⟩) n c,.int .i64 i,.slice (some ⟨vb,0,none⟩) m vc] w fun e w'=>
      e=.returned (.slice (some ⟨b,0,none⟩) (n + m) c)∧w'=(w.drew.setCells b ((i + m) * 3) (cs.drop (i * 3))).setCells b (i * 3) vs:=by
  have uS:=run_underlying Try.underlying34
  have uE:=run_underlying Try.underlying36
  have u3:=run_underlying Try.underlying3
  have u4:=run_underlying Try.underlying4
  have mixed:=insMixed
  have hz1:¬ ((m:Int)=0):=by omega
  have hz2:¬ ((i:Int)=(n:Int)):=by omega
  have hov:∀ lb cb,(callFunc 45 #[.slice (some ⟨vb,0,none⟩) m vc,.slice (some ⟨b,(i + m) * 3,none⟩) lb cb]).run Try.prog w=.ok (.value (.bool false)) w:=fun lb cb=>by
    rw [run_callFunc_extern Try.func45 (by kernel_rfl) (by kernel_rfl) (by kernel_rfl) (e:=Extern.SlicesOverlaps.overlaps #[34,34] #[4]) (by kernel_rfl),
      Lib.run_overlaps_apart w 34 4 36 Try.underlying34 3 Try.sizeOf36 ⟨vb,0,none⟩ ⟨b,(i + m) * 3,none⟩ m vc lb cb hvb tA tB kA kB hsa hsb hkB hfa hfe]
    rfl
  have hdl:(cs.drop (i * 3)).length=(n - i) * 3:=by rw [List.length_drop,hcl];omega
  have hw1:IntKind.i64.wrap ((i:Int) + (m:Int))=(i:Int) + (m:Int):=by rw [IntKind.wrap_i64];omega
  have hb1:(0:Int)≤(i:Int) + (m:Int):=by omega
  have hin:i≤n:=by omega
  have htn:((i:Int) + (m:Int)).toNat=i + m:=by omega
  have hb2:¬ (c=i + m):=by omega
  have hb3:(i:Int)≤(n:Int) + (m:Int):=by omega
  have hb4:¬ (c=i):=by omega
  have hcp1:∀ ty dc sc,(Builtin.copy_ #[34,34] ty #[.slice (some ⟨b,(i + m) * 3,none⟩) (n + m - (i + m)) dc,.slice (some ⟨b,i * 3,none⟩) (n + m - i) sc]).run Try.prog w.drew=.ok (goInt (Nat.min (n + m - i) (n + m - (i + m)))) (w.drew.setCells b ((i + m) * 3) (cs.drop (i * 3))):=fun ty dc sc=>
    run_copy_k w.drew _ _ ty 36 3 b ((i + m) * 3) (n + m - (i + m)) dc ⟨b,i * 3,none⟩ (n + m - i) sc (cs.drop (i * 3)) Try.underlying34 insSize (by rw [hdl];simp only [Nat.min_def];split <;> omega)
      (fun j v hj=>by rw [Addr.add_lit];exact hcs (i * 3 + j) v (by rwa [List.getElem?_drop] at hj))
      (fun j hj=>hsp _ (by omega)) (fun j hj=>hfz _) (fun v hv=>h1c v (List.mem_of_mem_drop hv))
  obtain ⟨W1,hW1⟩:∃ W1,W1=w.drew.setCells b ((i + m) * 3) (cs.drop (i * 3)):=⟨_,rfl⟩
  have hsp1:∀ k,k < (n + m) * 3→(W1.cell? ⟨b,k,none⟩).isSome=true:=fun k hk=>by
    rw [hW1]
    exact isSome_setCells b (cs.drop (i * 3)) ((i + m) * 3) w.drew (fun j hj=>hsp _ (by rw [hdl] at hj;omega)) _ (hsp k hk)
  have hcp2:∀ (W:World),(∀ x,W.cell? x=W1.cell? x)→(∀ x,W.frozen? x=W1.frozen? x)→∀ ty dc,(Builtin.copy_ #[34,34] ty #[.slice (some ⟨b,i * 3,none⟩) (n + m - i) dc,.slice (some ⟨vb,0,none⟩) m vc]).run Try.prog W=.ok (goInt (Nat.min m (n + m - i))) (W.setCells b (i * 3) vs):=fun W hWc hWf ty dc=>
    run_copy_k W _ _ ty 36 3 b (i * 3) (n + m - i) dc ⟨vb,0,none⟩ m vc vs Try.underlying34 insSize (by rw [hvl];simp only [Nat.min_def];split <;> omega)
      (fun j v hj=>by
        rw [Addr.add_lit,Nat.zero_add,hWc,hW1,World.cell?_setCells_out b _ _ _ _ (fun h _=>absurd h hvb)]
        exact hvs j v hj)
      (fun j hj=>by rw [hWc];exact hsp1 _ (by omega)) (fun j hj=>by rw [hWf,hW1,World.frozen?_setCells];exact hfz _) h1v
  rw [← hW1] at hcp1
  go_enter Try.func41,Try.ntmps41
  go_wp2_with (simp only [hov])
  go_region_law_o (refine step_copy_runI rfl _ _ 34 34 rfl _ _ (by simp [Act.eval,Act.put]) (by simp [Act.eval,Act.put]) (hcp1 _ _ _) ?_)
  go_wp2_with (at_builtin;refine wpList_copy_runI _ rfl _ _ 34 34 rfl _ _ rfl rfl (hcp2 _ (fun _=>rfl) (fun _=>rfl) _ _) ?_)
  go_ret
  first|exact ⟨rfl,rfl⟩|exact ⟨rfl,by rw [hW1]⟩
set_option maxHeartbeats 4000000 in
set_option maxRecDepth 1000000 in
theorem ins_end_room (b n c vb m vc:Nat) (vs:List Value) (w:World) (hm:0 < m) (hroom:n + m≤c) (hc63:c≤9223372036854775807)
    (hvl:vs.length=m * 3) (hsp:∀ j,j < m * 3→(w.cell? ⟨b,n * 3 + j,none⟩).isSome=true) (hfz:∀ j,w.frozen? ⟨b,j,none⟩=false)
    (hvs:∀ j v,vs[j]?=some v→w.cell? ⟨vb,j,none⟩=some v) (h1v:∀ v ∈ vs,v.oneCell'=true) :
    Calls Try.prog 41 #[.slice (some ⟨b,0,none⟩) n c,.int .i64 n,.slice (some ⟨vb,0,none⟩) m vc] w fun e w'=>
      e=.returned (.slice (some ⟨b,0,none⟩) (n + m) c)∧w'=w.setCells b (n * 3) vs:=by
  have uS:=run_underlying Try.underlying34
  have uE:=run_underlying Try.underlying36
  have u3:=run_underlying Try.underlying3
  have u4:=run_underlying Try.underlying4
  have mixed:=insMixed
  have hz1:¬ ((m:Int)=0):=by omega
  obtain ⟨i0,hi0,h0⟩:=Option.map_eq_some_iff.1 insInfo
  simp only [Prod.mk.injEq] at h0
  have hsrc:Src Try.prog i0.size 34 (.slice (some ⟨vb,0,none⟩) m vc) m vs w:=Src.ofSlice w Try.underlying34 ⟨vb,0,none⟩ m vc vs (by rw [h0.2.1];exact hvl) (fun j u hj=>by rw [Addr.add_lit,Nat.zero_add];exact hvs j u hj) h1v
  have hrun:∀ ty,(Builtin.append_ #[34,34] ty #[.slice (some ⟨b,0,none⟩) n c,.slice (some ⟨vb,0,none⟩) m vc]).run Try.prog w=.ok (.slice (some ⟨b,0,none⟩) (n + m) c) (w.setCells b (n * 3) vs):=fun ty=>by
    have h:=run_append_room_src (P:=Try.prog) (w:=w) 34 34 ty 36 i0 Try.underlying34 hi0 b 0 n c _ m vs hsrc hroom (by rw [h0.2.1,Nat.zero_add,hvl];exact hsp) (fun j hj=>hfz _)
    rw [h0.2.1,Nat.zero_add] at h
    exact h
  clear hsrc h0 hi0
  go_enter Try.func41,Try.ntmps41
  go_wp2_with (at_builtin;refine Lib.wpList_append_run _ rfl _ _ _ _ rfl _ _ rfl rfl _ _ (hrun _) ?_)
  go_ret
  exact ⟨rfl,rfl⟩
set_option maxHeartbeats 4000000 in
set_option maxRecDepth 1000000 in
theorem ins_end_grow (base:Option Addr) (n c vb m vc:Nat) (cs vs:List Value) (w:World) (hm:0 < m) (hnc:n≤c) (hroom:c < n + m) (hbig:(n + m) * 24≤140737488355328)
    (hcl:cs.length=n * 3) (hvl:vs.length=m * 3) (hnil:base=none→n=0)
    (hcs:∀ a,base=some a→∀ j v,cs[j]?=some v→w.cell? (a.add j)=some v)
    (hvs:∀ j v,vs[j]?=some v→w.cell? ⟨vb,j,none⟩=some v) (h1v:∀ v ∈ vs,v.oneCell'=true) :
    Calls Try.prog 41 #[.slice base n c,.int .i64 n,.slice (some ⟨vb,0,none⟩) m vc] w fun e w'=>
      e=.returned (.slice (some ⟨w.heap.size,0,none⟩) (n + m) (grownCap w (n + m) c 36))∧
      w'=w.drew.alloc (.cells ((cs ++ vs).toArray ++ Builtin.zeroCells (.agg #[(.int .i64 0),(.int .i64 0),(.bool false)]:Value).cells (grownCap w (n + m) c 36 - (n + m))) 36):=by
  have uS:=run_underlying Try.underlying34
  have uE:=run_underlying Try.underlying36
  have u3:=run_underlying Try.underlying3
  have u4:=run_underlying Try.underlying4
  have mixed:=insMixed
  obtain ⟨i0,hi0,h0⟩:=Option.map_eq_some_iff.1 insInfo
  simp only [Prod.mk.injEq] at h0
  obtain ⟨hz0,hzs,hzb⟩:=h0
  have hz1:¬ ((m:Int)=0):=by omega
  have hsrc:Src Try.prog i0.size 34 (.slice (some ⟨vb,0,none⟩) m vc) m vs w:=Src.ofSlice w Try.underlying34 ⟨vb,0,none⟩ m vc vs (by rw [hzs];exact hvl) (fun j u hj=>by rw [Addr.add_lit,Nat.zero_add];exact hvs j u hj) h1v
  have hold:(Builtin.firstCells i0.size n (.slice base n c)).run Try.prog w.drew=.ok cs.toArray w.drew:=by
    rw [hzs]
    cases base with
    |none=>
      have h0:=hnil rfl
      subst h0
      obtain rfl:cs=[]:=List.length_eq_zero_iff.1 (by omega)
      exact run_firstCells_none w.drew 3 0 0 c
    |some a=>exact run_firstCells_some w.drew 3 n a n c cs hcl (fun j v hj=>hcs a rfl j v hj)
  have hrun:∀ ty,(Builtin.append_ #[34,34] ty #[.slice base n c,.slice (some ⟨vb,0,none⟩) m vc]).run Try.prog w=_:=fun ty=>
    run_append_grow_src w 34 34 ty 36 i0 _ Try.underlying34 hi0 hz0 base n c cs hold _ m vs hsrc hroom (by omega) (by rw [hzb];exact growslice_fits hroom hbig)
  clear hsrc hold hz0 hzs hzb hi0
  go_enter Try.func41,Try.ntmps41
  cases base with
  |none=>
    have h0:=hnil rfl
    subst h0
    go_wp2_with (at_builtin;refine Lib.wpList_append_run _ rfl _ _ _ _ rfl _ _ rfl rfl _ _ (hrun _) ?_)
    go_ret
    exact ⟨rfl,rfl⟩
  |some a=>
    obtain ⟨ab,ao,asp⟩:=a
    go_wp2_with (at_builtin;refine Lib.wpList_append_run _ rfl _ _ _ _ rfl _ _ rfl rfl _ _ (hrun _) ?_)
    all_goals (go_ret;exact ⟨rfl,rfl⟩)
set_option maxHeartbeats 4000000 in
set_option maxRecDepth 1000000 in
theorem ins_grow (b n c i vb m vc:Nat) (cs vs:List Value) (w:World) (hi:i < n) (hm:0 < m) (hnc:n≤c) (hroom:c < n + m) (hbig:(n + m) * 24≤140737488355328)
    (hcl:cs.length=n * 3) (hvl:vs.length=m * 3)
    (hcs:∀ j v,cs[j]?=some v→w.cell? ⟨b,j,none⟩=some v)
    (hvs:∀ j v,vs[j]?=some v→w.cell? ⟨vb,j,none⟩=some v) (h1c:∀ v ∈ cs,v.oneCell'=true) (h1v:∀ v ∈ vs,v.oneCell'=true) :
    Calls Try.prog 41 #[.slice (some ⟨b,0,none⟩) n c,.int .i64 i,.slice (some ⟨vb,0,none⟩) m vc] w fun e w'=>
      e=.returned (.slice (some ⟨w.heap.size,0,none⟩) (n + m) (grownCap w (n + m) c 36))∧
      w'=(((w.alloc (.cells ((cs.take (i * 3)).toArray ++ Builtin.zeroCells (.agg #[(.int .i64 0),(.int .i64 0),(.bool false)]:Value).cells (n + m - i) ++ Builtin.zeroCells (.agg #[(.int .i64 0),(.int .i64 0),(.bool false)]:Value).cells (grownCap w (n + m) c 36 - (n + m))) 36)).drew.setCells w.heap.size (i * 3) vs).drew).setCells w.heap.size ((i + m) * 3) (cs.drop (i * 3)):=by
  have uS:=run_underlying Try.underlying34
  have uE:=run_underlying Try.underlying36
  have u3:=run_underlying Try.underlying3
  have u4:=run_underlying Try.underlying4
  have mixed:=insMixed
  obtain ⟨i0,hi0,h0⟩:=Option.map_eq_some_iff.1 insInfo
  simp only [Prod.mk.injEq] at h0
  obtain ⟨hz0,hzs,hzb⟩:=h0
  have hz1:¬ ((m:Int)=0):=by omega
  have hz2:¬ ((i:Int)=(n:Int)):=by omega
  have hz3:(c:Int) < (n:Int) + (m:Int):=by omega
  have hbw:b < w.heap.size:=block_lt_of_cell (hcs 0 _ (List.getElem?_eq_getElem (by omega)))
  have hvw:vb < w.heap.size:=block_lt_of_cell (hvs 0 _ (List.getElem?_eq_getElem (by omega)))
  have hkk:(n:Int) + (m:Int) - (i:Int)=((n + m - i:Nat):Int):=by omega
  have hik:i + (n + m - i)=n + m:=by omega
  have hold:(Builtin.firstCells i0.size i (.slice (some ⟨b,0,none⟩) i c)).run Try.prog w.drew=.ok (cs.take (i * 3)).toArray w.drew:=by
    rw [hzs]
    exact run_firstCells_some w.drew 3 i ⟨b,0,none⟩ i c (cs.take (i * 3)) (by rw [List.length_take];omega) (fun j v hj=>by
      rw [Addr.add_lit,Nat.zero_add]
      rw [List.getElem?_take] at hj
      split at hj
      · exact hcs j v hj
      · cases hj)
  have hrz:∀ ty,(Builtin.append_ #[34,3] ty #[.slice (some ⟨b,0,none⟩) i c,.int .i64 ((n:Int) + (m:Int) - (i:Int))]).run Try.prog w =
      .ok (.slice (some ⟨w.heap.size,0,none⟩) (n + m) (grownCap w (n + m) c 36)) (w.drew.alloc (.cells ((cs.take (i * 3)).toArray ++ Builtin.zeroCells (.agg #[(.int .i64 0),(.int .i64 0),(.bool false)]:Value).cells (n + m - i) ++ Builtin.zeroCells (.agg #[(.int .i64 0),(.int .i64 0),(.bool false)]:Value).cells (grownCap w (n + m) c 36 - (n + m))) 36)):=fun ty=>by
    have h:=Lib.run_append_grow_zeros w 34 3 ty 36 i0 _ .i64 .i64 Try.underlying34 Try.underlying3 hi0 hz0 (some ⟨b,0,none⟩) i c (cs.take (i * 3)) hold (n + m - i) (by omega) (by omega) (by omega) (by omega) (by rw [hzb];omega) (by rw [hzb,hik];exact growslice_fits hroom hbig)
    rw [hik] at h
    rw [hkk]
    exact h
  obtain ⟨G,hG⟩:∃ G,G=grownCap w (n + m) c 36:=⟨_,rfl⟩
  obtain ⟨ROW,hROW⟩:∃ ROW:Array Value,ROW=(cs.take (i * 3)).toArray ++ Builtin.zeroCells (.agg #[(.int .i64 0),(.int .i64 0),(.bool false)]:Value).cells (n + m - i) ++ Builtin.zeroCells (.agg #[(.int .i64 0),(.int .i64 0),(.bool false)]:Value).cells (G - (n + m)):=⟨_,rfl⟩
  rw [← hG] at hrz ⊢
  rw [← hROW] at hrz ⊢
  have hRl:(n + m) * 3≤ROW.size:=by
    rw [hROW]
    simp [Builtin.zeroCells,Value.cells]
    omega
  obtain ⟨W1,hW1⟩:∃ W1,W1=w.drew.alloc (.cells ROW 36):=⟨_,rfl⟩
  rw [← hW1] at hrz
  have hN:∀ j,j < (n + m) * 3→(W1.cell? ⟨w.heap.size,j,none⟩).isSome=true:=fun j hj=>by
    rw [hW1,World.cell?_alloc_at (w:=w.drew) ROW _ w.heap.size j rfl,Array.getElem?_eq_getElem (by omega)];rfl
  have hNf:∀ j,W1.frozen? ⟨w.heap.size,j,none⟩=false:=fun j=>by rw [hW1];exact World.frozen?_alloc_at (w:=w.drew) ROW _ w.heap.size j rfl
  have hOb:∀ j v,w.cell? ⟨b,j,none⟩=some v→W1.cell? ⟨b,j,none⟩=some v:=fun j v h=>by rw [hW1,World.cell?_alloc_past (w:=w.drew) _ b j hbw];exact h
  have hOv:∀ j v,w.cell? ⟨vb,j,none⟩=some v→W1.cell? ⟨vb,j,none⟩=some v:=fun j v h=>by rw [hW1,World.cell?_alloc_past (w:=w.drew) _ vb j hvw];exact h
  have hcpA:∀ (W:World),(∀ x,W.cell? x=W1.cell? x)→(∀ x,W.frozen? x=W1.frozen? x)→∀ ty dc,(Builtin.copy_ #[34,34] ty #[.slice (some ⟨w.heap.size,i * 3,none⟩) (n + m - i) dc,.slice (some ⟨vb,0,none⟩) m vc]).run Try.prog W=.ok (goInt (Nat.min m (n + m - i))) (W.setCells w.heap.size (i * 3) vs):=fun W hWc hWf ty dc=>
    run_copy_k W _ _ ty 36 3 w.heap.size (i * 3) (n + m - i) dc ⟨vb,0,none⟩ m vc vs Try.underlying34 insSize (by rw [hvl];simp only [Nat.min_def];split <;> omega)
      (fun j v hj=>by rw [Addr.add_lit,Nat.zero_add,hWc];exact hOv _ v (hvs j v hj))
      (fun j hj=>by rw [hWc];exact hN _ (by omega)) (fun j hj=>by rw [hWf];exact hNf _) h1v
  have hGn:n + m≤G:=by rw [hG];exact grownCap_ge w _ _ _
  have hG63:G≤9223372036854775807:=by
    have:=grownCap_le_maxLen w (n + m) c 36 (by unfold maxLen;omega)
    rw [← hG] at this
    unfold maxLen at this
    omega
  have hGi:¬ (G=i):=by omega
  have hGim:¬ (G=i + m):=by omega
  have hci:¬ (c=i):=by omega
  have hbN:b≠w.heap.size:=by omega
  have hdl:(cs.drop (i * 3)).length=(n - i) * 3:=by rw [List.length_drop,hcl];omega
  have hcpB:∀ (W:World),(∀ x,W.cell? x=(W1.setCells w.heap.size (i * 3) vs).cell? x)→(∀ x,W.frozen? x=(W1.setCells w.heap.size (i * 3) vs).frozen? x)→∀ ty dc sc,(Builtin.copy_ #[34,34] ty #[.slice (some ⟨w.heap.size,(i + m) * 3,none⟩) (n + m - (i + m)) dc,.slice (some ⟨b,i * 3,none⟩) (n - i) sc]).run Try.prog W=.ok (goInt (Nat.min (n - i) (n + m - (i + m)))) (W.setCells w.heap.size ((i + m) * 3) (cs.drop (i * 3))):=fun W hWc hWf ty dc sc=>
    run_copy_k W _ _ ty 36 3 w.heap.size ((i + m) * 3) (n + m - (i + m)) dc ⟨b,i * 3,none⟩ (n - i) sc (cs.drop (i * 3)) Try.underlying34 insSize (by rw [hdl];simp only [Nat.min_def];split <;> omega)
      (fun j v hj=>by
        rw [Addr.add_lit,hWc,World.cell?_setCells_out _ _ _ _ _ (fun h _=>absurd h hbN)]
        exact hOb _ v (hcs (i * 3 + j) v (by rwa [List.getElem?_drop] at hj)))
      (fun j hj=>by rw [hdl] at hj;rw [hWc];exact isSome_setCells w.heap.size vs (i * 3) W1 (fun t ht=>hN _ (by rw [hvl] at ht;omega)) _ (hN _ (by omega)))
      (fun j hj=>by rw [hWf,World.frozen?_setCells];exact hNf _) (fun v hv=>h1c v (List.mem_of_mem_drop hv))
  subst hW1
  have hE1:∀ x,((w.alloc (.cells ROW 36)).drew).cell? x=(w.drew.alloc (.cells ROW 36)).cell? x:=fun x=>rfl
  have hE2:∀ x,((w.alloc (.cells ROW 36)).drew).frozen? x=(w.drew.alloc (.cells ROW 36)).frozen? x:=fun x=>rfl
  have hF1:∀ x,(((w.alloc (.cells ROW 36)).drew.setCells w.heap.size (i * 3) vs).drew).cell? x=((w.drew.alloc (.cells ROW 36)).setCells w.heap.size (i * 3) vs).cell? x:=fun x=>rfl
  have hF2:∀ x,(((w.alloc (.cells ROW 36)).drew.setCells w.heap.size (i * 3) vs).drew).frozen? x=((w.drew.alloc (.cells ROW 36)).setCells w.heap.size (i * 3) vs).frozen? x:=fun x=>rfl
  have hw1:IntKind.i64.wrap ((i:Int) + (m:Int))=(i:Int) + (m:Int):=by rw [IntKind.wrap_i64];omega
  have hb1:(0:Int)≤(i:Int) + (m:Int):=by omega
  have hin:i≤n:=by omega
  have htn:((i:Int) + (m:Int)).toNat=i + m:=by omega
  have hb3:(i:Int)≤(n:Int):=by omega
  clear hkk hik hold hROW hG hRl hz0 hzs hzb hi0
  go_enter Try.func41,Try.ntmps41
  go_wp2_with (first
    |(at_builtin;refine Lib.wpList_append_run _ rfl _ _ _ _ rfl _ _ rfl rfl _ _ (hrz _) ?_)
    |(at_builtin;refine wpList_copy_runI _ rfl _ _ 34 34 rfl _ _ rfl rfl (hcpA _ hE1 hE2 _ _) ?_)
    |(at_builtin;refine wpList_copy_runI _ rfl _ _ 34 34 rfl _ _ rfl rfl (hcpB _ (fun _=>rfl) (fun _=>rfl) _ _ _) ?_))
  go_region_law_o (refine step_copy_runI rfl _ _ 34 34 rfl (.slice (some ⟨w.heap.size,(i + m) * 3,none⟩) (n + m - (i + m)) (G - (i + m))) (.slice (some ⟨b,i * 3,none⟩) (n - i) (c - i)) (by simp [Act.eval,Act.put]) (by simp [Act.eval,Act.put]) (hcpB _ hF1 hF2 3 (G - (i + m)) (c - i)) ?_)
  go_wp2
  go_ret
  exact ⟨rfl,rfl⟩
theorem own_setCells {w:World} {g:Nat} {cur:Array Value} (base n cap o:Nat) (vs xs:List Value) (hh:w.heap[g]?=some (.cells cur 36 (0,0))) (hb:base≤g) (hn:n≤cap) (hm:cap≤maxLen) (hcs:cur.size=cap * 3) (ho:o + vs.length≤cap * 3)
    (hx:(cur.toList.take o ++ vs ++ cur.toList.drop (o + vs.length)).take (n * 3)=xs) (hl:xs.length=n * 3):(w.setCells g o vs).ownsRow base 36 3 (.slice (some ⟨g,0,none⟩) n cap) n xs:=by
  obtain ⟨cur',h3,h4,h5⟩:=setCells_row vs o w cur hh (by omega)
  exact ⟨hl,.inr ⟨g,cap,cur',rfl,hb,h3,hn,hm,by omega,by rw [h5];exact hx⟩⟩
theorem below_setCells {w0 w:World} (hB:Below w0.heap.size w0 w) (g o:Nat) (vs:List Value) (hg:w0.heap.size≤g):Below w0.heap.size w0 (w.setCells g o vs):=by
  have hsame:=setCells_same g vs o w
  exact pw_below_grown hB (some g) hB.size ⟨hsame.1,hsame.2.1,hsame.2.2.1,by rw [hsame.2.2.2];exact Nat.le_refl _,fun i _ hne=>setCells_far vs o i (fun he=>hne (by rw [he]))⟩ (fun k hk=>by injection hk with hk;subst hk;exact hg)
def Held (w w1:World) (row:Option Nat):Prop:=w.heap.size≤w1.heap.size∧∀ k,k < w.heap.size→some k≠row→w1.heap[k]?=w.heap[k]?
theorem Held.refl (w:World) (row:Option Nat):Held w w row:=⟨Nat.le_refl _,fun _ _ _=>rfl⟩
theorem Held.set {w w1:World} {row:Option Nat} (h:Held w w1 row) (g o:Nat) (vs:List Value) (hg:row=some g∨w.heap.size≤g):Held w (w1.setCells g o vs) row:=by
  have hsame:=setCells_same g vs o w1
  refine ⟨by rw [hsame.2.2.2];exact h.1,fun k hk hne=>(setCells_far vs o k (fun he=>?_)).trans (h.2 k hk hne)⟩
  rcases hg with hg|hg
  · exact hne (by rw [he,hg])
  · omega
theorem Held.drew {w w1:World} {row:Option Nat} (h:Held w w1 row):Held w w1.drew row:=h
theorem Held.alloc {w w1:World} {row:Option Nat} (h:Held w w1 row) (o:Obj):Held w (w1.alloc o) row:=
  ⟨Nat.le_trans h.1 (zG (Below.refl _ _) o).size,fun k hk hne=>by rw [← h.2 k hk hne];exact (zG (Below.refl _ _) o).block k (Nat.lt_of_lt_of_le hk h.1)⟩
theorem reps_one {α:Type} {R:α→List Value→Prop} {size:Nat} {ps:List α} {cs:List Value} (h:Reps R size ps cs) (hs:0 < size) (h1:∀ p c,R p c→∀ u ∈ c,u.oneCell'=true):∀ u ∈ cs,u.oneCell'=true:=by
  intro u hu
  obtain ⟨k,hk,e⟩:=List.getElem_of_mem hu
  have hj:k / size < ps.length:=by rw [Nat.div_lt_iff_lt_mul hs,← h.1];exact hk
  refine h1 _ _ (h.2 (k / size) _ (List.getElem?_eq_getElem hj)) u ?_
  have hm:=Nat.mod_lt k hs
  have hk2:k / size * size + k % size=k:=by rw [Nat.mul_comm];exact Nat.div_add_mod k size
  refine List.mem_of_getElem? (i:=k % size) ?_
  rw [List.getElem?_take,if_pos hm,List.getElem?_drop,hk2,List.getElem?_eq_getElem hk,e]
set_option maxHeartbeats 1000000 in
theorem ins_own (w0 w:World) (u:Value) (vb vc:Nat) (X:List Value) (i n:Nat) (cs:List Value) (hB:Below w0.heap.size w0 w) (ho:w.ownsRow w0.heap.size 36 3 u n cs) (h1c:∀ v ∈ cs,v.oneCell'=true) (hX:X.length=3) (h1v:∀ v ∈ X,v.oneCell'=true) (hi:i≤n) (hlim:(n + 1) * 24≤140737488355328)
    (hvh:w.heap[vb]?=some (.cells X.toArray 36 (0,0))) (hvu:u.ownBlock≠some vb) :
    Calls Try.prog 41 #[u,.int .i64 i,.slice (some ⟨vb,0,none⟩) 1 vc] w fun e w'=>∃ v0_:Value,e=.returned v0_∧w'.ownsRow w0.heap.size 36 3 v0_ (n + 1) (cs.take (i * 3) ++ X ++ cs.drop (i * 3))∧Below w0.heap.size w0 w'∧Held w w' u.ownBlock∧(v0_.ownBlock=u.ownBlock∨∃ b,v0_.ownBlock=some b∧w.heap.size≤b):=by
  have hel:cs.length=n * 3:=ho.1
  have hvs:∀ j v,X[j]?=some v→w.cell? ⟨vb,j,none⟩=some v:=by
    intro j v hj
    rw [zJ hvh,← hj]
    simp
  have hlen:(cs.take (i * 3) ++ X ++ cs.drop (i * 3)).length=(n + 1) * 3:=by simp;omega
  rcases ho.2 with ⟨rfl,rfl⟩|⟨g,cap,cur,rfl,hb,hh,hn,hm,hcz,ht⟩
  · obtain rfl:cs=[]:=List.eq_nil_of_length_eq_zero (by omega)
    obtain rfl:i=0:=by omega
    refine (ins_end_grow none 0 0 vb 1 vc [] X w (by omega) (by omega) (by omega) (by omega) rfl (by omega) (fun _=>rfl) (fun a ha=>by cases ha) hvs h1v).mono ?_
    rintro e w' ⟨rfl,rfl⟩
    refine ⟨_,rfl,⟨hlen,.inr ⟨w.heap.size,_,_,rfl,hB.size,heap_alloc_new w.drew _,grownCap_ge w _ _ _,grownCap_le_maxLen w _ _ _ (by unfold maxLen;omega),?_,?_⟩⟩,zG (below_drew hB) _,(Held.refl w _).alloc _,.inr ⟨_,rfl,Nat.le_refl _⟩⟩
    · have:=grownCap_ge w 1 0 36
      simp [Builtin.zeroCells,Value.cells]
      omega
    · simp
      rw [List.take_append_of_le_length (by omega),List.take_of_length_le (by omega)]
  · have hroomc:∀ j,j < cap * 3→(w.cell? ⟨g,j,none⟩).isSome=true:=fun j hj=>by rw [zJ hh,Array.getElem?_eq_getElem (by omega)];rfl
    have hfz:∀ j,w.frozen? ⟨g,j,none⟩=false:=fun j=>zI hh j
    have hm63:cap≤9223372036854775807:=hm
    have hcl:∀ j v,cs[j]?=some v→w.cell? ⟨g,j,none⟩=some v:=by
      intro j v hj
      rw [zJ hh,← hj,← ht,List.getElem?_take,if_pos (by have:=(List.getElem?_eq_some_iff.1 hj).1;omega)]
      simp
    have hvg:vb≠g:=fun h=>hvu (by rw [h];rfl)
    have hcl2:cur.toList.length=cap * 3:=Array.length_toList.trans hcz
    have hcapn:n * 3≤cap * 3:=by omega
    by_cases hin:i=n
    · subst hin
      have hd:cs.drop (i * 3)=[]:=List.drop_eq_nil_of_le (by omega)
      have htk:cs.take (i * 3)=cs:=List.take_of_length_le (by omega)
      rw [hd,htk,List.append_nil] at hlen ⊢
      by_cases hroom:i + 1≤cap
      · refine (ins_end_room g i cap vb 1 vc X w (by omega) hroom hm63 (by omega) (fun j hj=>hroomc _ (by omega)) hfz hvs h1v).mono ?_
        rintro e w' ⟨rfl,rfl⟩
        refine ⟨_,rfl,own_setCells _ _ _ _ _ _ hh hb hroom hm hcz (by omega) ?_ hlen,below_setCells hB _ _ _ hb,(Held.refl w _).set _ _ _ (.inl rfl),.inl rfl⟩
        rw [ht,List.take_append_of_le_length (by first|omega|(simp;omega)),List.take_of_length_le (by first|omega|(simp;omega))]
      · refine (ins_end_grow (some ⟨g,0,none⟩) i cap vb 1 vc cs X w (by omega) (by omega) (by omega) (by omega) hel (by omega) (fun h=>by cases h) (fun a ha j v hj=>by injection ha with ha;subst ha;rw [Addr.add_lit,Nat.zero_add];exact hcl j v hj) hvs h1v).mono ?_
        rintro e w' ⟨rfl,rfl⟩
        refine ⟨_,rfl,⟨hlen,.inr ⟨w.heap.size,_,_,rfl,hB.size,heap_alloc_new w.drew _,grownCap_ge w _ _ _,grownCap_le_maxLen w _ _ _ (by unfold maxLen;omega),?_,?_⟩⟩,zG (below_drew hB) _,(Held.refl w _).alloc _,.inr ⟨_,rfl,Nat.le_refl _⟩⟩
        · have:=grownCap_ge w (i + 1) cap 36
          simp [Builtin.zeroCells,Value.cells]
          omega
        · simp only [Array.toList_append,List.toList_toArray]
          rw [List.take_append_of_le_length (by first|omega|(simp;omega)),List.take_of_length_le (by first|omega|(simp;omega))]
    · have hlt:i < n:=by omega
      by_cases hroom:n + 1≤cap
      · obtain ⟨tA,kA,hsa,_⟩:=World.shape?_of_cell? (hvs 0 _ (List.getElem?_eq_getElem (by omega)))
        obtain ⟨tB,kB,hsb,hkb,_⟩:=World.shape?_of_cell? (hcl 0 _ (List.getElem?_eq_getElem (by omega)))
        refine (ins_shift g n cap i vb 1 vc cs X w hlt (by omega) hroom hm63 hvg hel (by omega) hcl (fun j hj=>hroomc _ (by omega)) hfz hvs h1c h1v tA tB kA kB hsa hsb (by omega) (zI hvh _) (zI hvh _)).mono ?_
        rintro e w' ⟨rfl,rfl⟩
        obtain ⟨cur1,h3,h4,h5⟩:=setCells_row (cs.drop (i * 3)) ((i + 1) * 3) w.drew cur hh (by first|omega|(simp;omega))
        have hs:(cs.drop (i * 3)).length=(n - i) * 3:=by simp;omega
        have e1:cur.toList.take (i * 3)=cs.take (i * 3):=by rw [← ht,List.take_take,Nat.min_eq_left (by omega)]
        have e2:cur1.toList.take (i * 3)=cs.take (i * 3):=by
          rw [h5,List.append_assoc,List.take_append_of_le_length (by first|omega|(simp;omega)),List.take_take,Nat.min_eq_left (by omega),e1]
        have e3:cur1.toList.drop ((i + 1) * 3)=cs.drop (i * 3) ++ cur.toList.drop ((n + 1) * 3):=by
          rw [h5,List.append_assoc,List.drop_append_of_le_length (by first|omega|(simp;omega)),List.drop_eq_nil_of_le (by first|omega|(simp;omega)),List.nil_append,hs]
          congr 2
          omega
        refine ⟨_,rfl,own_setCells _ _ _ _ _ _ h3 hb hroom hm (by omega) (by first|omega|(simp;omega)) ?_ hlen,below_setCells (below_setCells (below_drew hB) _ _ _ hb) _ _ _ hb,((Held.refl w _).set (w1:=w.drew) _ _ _ (.inl rfl)).set _ _ _ (.inl rfl),.inl rfl⟩
        rw [e2,hX,show i * 3 + 3=(i + 1) * 3 by omega,e3,← List.append_assoc,List.take_append_of_le_length (by first|omega|(simp;omega)),List.take_of_length_le (by first|omega|(simp;omega))]
      · refine (ins_grow g n cap i vb 1 vc cs X w hlt (by omega) (by omega) (by omega) (by omega) hel (by omega) hcl hvs h1c h1v).mono ?_
        rintro e w' ⟨rfl,rfl⟩
        have hG:=grownCap_ge w (n + 1) cap 36
        have hGm:=grownCap_le_maxLen w (n + 1) cap 36 (by unfold maxLen;omega)
        generalize grownCap w (n + 1) cap 36=G at hG hGm ⊢
        obtain ⟨R0,hR0⟩:∃ R0:Array Value,R0=(cs.take (i * 3)).toArray ++ Builtin.zeroCells (.agg #[(.int .i64 0),(.int .i64 0),(.bool false)]:Value).cells (n + 1 - i) ++ Builtin.zeroCells (.agg #[(.int .i64 0),(.int .i64 0),(.bool false)]:Value).cells (G - (n + 1)):=⟨_,rfl⟩
        rw [← hR0]
        have hRs:R0.size=G * 3:=by
          rw [hR0]
          simp [Builtin.zeroCells,Value.cells]
          omega
        have hRl:R0.toList.length=G * 3:=Array.length_toList.trans hRs
        have hRt:R0.toList.take (i * 3)=cs.take (i * 3):=by
          rw [hR0]
          simp only [Array.toList_append,List.toList_toArray,List.append_assoc]
          rw [List.take_append_of_le_length (by first|omega|(simp;omega)),List.take_of_length_le (by first|omega|(simp;omega))]
        obtain ⟨cur1,h3,h4,h5⟩:=setCells_row X (i * 3) (w.alloc (.cells R0 36)).drew R0 (heap_alloc_new w _) (by omega)
        have hs:(cs.drop (i * 3)).length=(n - i) * 3:=by simp;omega
        have e2:cur1.toList.take ((i + 1) * 3)=cs.take (i * 3) ++ X:=by
          rw [h5,hRt,List.take_append_of_le_length (by first|omega|(simp;omega)),List.take_of_length_le (by first|omega|(simp;omega))]
        refine ⟨_,rfl,own_setCells _ _ _ _ _ _ h3 hB.size hG hGm (by omega) (by rw [hs];omega) ?_ hlen,below_setCells (below_drew (below_setCells (below_drew (zG hB _)) _ _ _ hB.size)) _ _ _ hB.size,((((Held.refl w _).alloc _).set (w1:=(w.alloc _).drew) _ _ _ (.inr (Nat.le_refl _))).drew).set _ _ _ (.inr (Nat.le_refl _)),.inr ⟨_,rfl,Nat.le_refl _⟩⟩
        rw [e2,List.take_append_of_le_length (by first|omega|(simp;omega)),List.take_of_length_le (by first|omega|(simp;omega))]
end Go.Proofs.Ytpljggoogodhlaa.Ix

end
section
namespace Go.Proofs.Ytpljggoogodhlaa.Ix
open Go.RowKit Go.Proofs.YtpljggoogodhlaaW.PrintWords Go.Proofs.YtpljggoogodhlaaW.PrintLast Go.Proofs.YtpljggoogodhlaaW.PrintMore Go.Proofs.Ytpljggoogodhlaa.Q Go.Proofs.YtpljggoogodhlaaM
set_option linter.unusedVariables false
set_option linter.unusedSimpArgs false
theorem idxP_spec (p:S36→Bool):∀ (l:List S36) (i:Nat),(idxP p l i=-1∧∀ x ∈ l,p x=false)∨∃ k:Nat,k < l.length∧idxP p l i=((i + k:Nat):Int)∧p (l.getD k z36)=true∧∀ j,j < k→p (l.getD j z36)=false
  |[],i=>.inl ⟨rfl,fun x hx=>absurd hx (by simp)⟩
  |x :: l,i=>by
    cases hx:p x with
    |true=>exact .inr ⟨0,by simp,by rw [idxP,if_pos hx];rfl,hx,fun j hj=>absurd hj (Nat.not_lt_zero _)⟩
    |false=>
      have e:idxP p (x :: l) i=idxP p l (i + 1):=by rw [idxP,if_neg (by simp [hx])]
      rcases idxP_spec p l (i + 1) with ⟨h1,h2⟩|⟨k,h1,h2,h3,h4⟩
      · refine .inl ⟨e.trans h1,fun y hy=>?_⟩
        rcases List.mem_cons.1 hy with rfl|hy
        · exact hx
        · exact h2 y hy
      · refine .inr ⟨k + 1,by simpa using h1,by rw [e,h2];congr 1;omega,h3,fun j hj=>?_⟩
        cases j with
        |zero=>exact hx
        |succ j=>exact h4 j (by omega)
theorem filter_take (p:S36→Bool) (l:List S36) (j:Nat) (hj:j < l.length):(l.take (j + 1)).filter (fun x=>!p x)=(l.take j).filter (fun x=>!p x) ++ (if p (l.getD j z36)=true then [] else [l.getD j z36]):=by
  rw [List.take_succ_eq_append_getElem hj,List.filter_append,List.getD_eq_getElem?_getD,List.getElem?_eq_getElem hj]
  congr 1
  simp only [Option.getD_some,List.filter_cons,List.filter_nil]
  cases p l[j] <;> simp
theorem filter_none (p:S36→Bool) (l:List S36) (k:Nat) (h:∀ j,j < k→p (l.getD j z36)=false) (hk:k≤l.length):(l.take k).filter (fun x=>!p x)=l.take k:=by
  rw [List.filter_eq_self]
  intro x hx
  obtain ⟨j,hj,e⟩:=List.getElem_of_mem hx
  have hj2:j < k:=by rw [List.length_take] at hj;omega
  have:=h j hj2
  rw [List.getD_eq_getElem?_getD,List.getElem?_eq_getElem (by omega)] at this
  rw [List.getElem_take] at e
  rw [← e]
  simpa using this
def old36 (xs:List S36) (i:Nat):List Value:=[.int .i64 (xs.getD i z36).f0,.int .i64 (xs.getD i z36).f1,.bool (xs.getD i z36).f2]
theorem old36_at {W:World} {base b n cap:Nat} {ok:Nat→Prop} {xs:List S36} (h:Kd.R k36 36 W base ok (.slice (some ⟨b,0,none⟩) n cap) xs) (i:Nat) (hi:i < n):∀ j u,(old36 xs i)[j]?=some u→W.cell? ⟨b,(i:Int).toNat * k36.sz + j,none⟩=some u:=by
  obtain ⟨rfl,_,hC⟩:=Kd.R_reads' h
  obtain ⟨ad,c,e,_,hK,hc⟩:=Kd.C_get hC z36 (i:Int) (by omega) (by omega)
  injection e with e
  subst e
  obtain rfl:=k36_open hK
  intro j u hj
  have:=hc j u hj
  rwa [Addr.add_lit,Nat.zero_add] at this
set_option maxHeartbeats 4000000 in
set_option maxRecDepth 1000000 in
theorem del_any (g:Nat) (lb:Array Value) (eg:∀ args (w:World),(callFunc g args).run Try.prog w=.ok (.enter g args) w) (p:S36→Bool) (Q:World→Prop) (P0_:Nat→Prop) (u:Value) (l0:List S36) (w0 w:World) (hB:Below w0.heap.size w0 w) (ho0:Kd.R k36 36 w w0.heap.size P0_ u l0)
    (hQ:Q w) (hQb:∀ W W',Q W→Below W.heap.size W W'→Q W') (hQg:∀ b,u.ownBlock=some b→∀ W W',Q W→W.grownBy W' (some b)→Q W')
    (hp:∀ (W:World) (x:S36),Q W→Calls Try.prog g (#[.agg #[.int .i64 x.f0,.int .i64 x.f1,.bool x.f2]] ++ lb) W fun e w'=>e=.returned (.bool (p x))∧Below W.heap.size W w') :
    Calls Try.prog 38 #[u,.func (.func g) #[] lb] w fun e w'=>∃ v0_:Value,e=.returned v0_∧Kd.R k36 36 w' w0.heap.size P0_ v0_ (l0.filter fun x=>!p x)∧Below w0.heap.size w0 w'∧Q w'∧v0_.ownBlock=u.ownBlock:=by
  obtain ⟨A,cap,rfl⟩:=Kd.R_slice ho0
  have hrd:=Kd.R_reads' ho0
  have hidx:=any g lb eg p A cap l0 w hrd.2.2 hrd.2.1 (fun W x hW=>hp _ x (hQb _ _ hQ hW))
  rcases idxP_spec p l0 0 with ⟨e1,hall⟩|⟨k0,hk0,e1,hk1,hk2⟩
  · rw [e1] at hidx
    have hf:(l0.filter fun x=>!p x)=l0:=List.filter_eq_self.2 (fun x hx=>by simp [hall x hx])
    rw [hf]
    have HX:=zR.mk hidx
    have HO:=zR.mk ho0
    have HB:=zR.mk hB
    have HQ:=zR.mk hQ
    have HQb:=zR.mk hQb
    clear hidx ho0 hB hrd hall hf e1 hQ hQb hQg hp
    go_enter Try.func38,Try.ntmps38
    go_wp2_with ((with_reducible refine HX.out.mono ?_);rintro e w' ⟨rfl,hb⟩)
    go_ret
    exact ⟨_,rfl,Kd.R_below HO.out hb,zL HB.out hb,HQb.out _ _ HQ.out hb,rfl⟩
  · obtain ⟨b,rfl⟩:∃ b,A=some ⟨b,0,none⟩:=by
      obtain ⟨_,inner,⟨_,h2⟩,_⟩:=ho0
      rcases h2 with ⟨h2,_⟩|⟨g',cap',cur,hv,_⟩
      · injection h2 with h2 h3
        omega
      · injection hv with hv
        exact ⟨g',hv⟩
    have hQg':=hQg b rfl
    have hroom:=R_room _ ho0
    obtain ⟨n,hn⟩:∃ n,n=l0.length:=⟨_,rfl⟩
    have hcap:n≤cap:=by rw [hn];exact hroom.2.2.2.2.2.1
    have hmax:cap≤9223372036854775807:=hroom.2.2.2.2.2.2
    have hge:w0.heap.size≤b:=hroom.2.2.2.1
    have hw0:=hB.size
    rw [e1,Nat.zero_add] at hidx
    rw [← hn] at hidx ho0 hk0 ⊢
    have HX:=zR.mk hidx
    have HO:=zR.mk ho0
    have HB:=zR.mk hB
    have HN:=zR.mk hn
    have HQ:=zR.mk hQ
    have HQb:=zR.mk hQb
    have HQg:=zR.mk hQg'
    have HP:=zR.mk hp
    have HK1:=zR.mk hk1
    have HK2:=zR.mk hk2
    have HG:=zR.mk hge
    have HU36:=zR.mk Try.underlying36
    clear hidx ho0 hB hrd e1 hQ hQb hQg hQg' hp hroom hn hge hw0 hk1 hk2
    have hu36:=Try.underlying36
    go_enter Try.func38,Try.ntmps38
    go_wp2_with ((with_reducible refine HX.out.mono ?_);rintro e w' ⟨rfl,hb⟩)
    go_loopg [5,6,7] n (fun gg s5 s6 _ wr=>∃ (ii jj:Nat) (xs:List S36),jj≤n∧ii < jj∧n - jj≤gg∧s5=.int .i64 ii∧s6=.int .i64 jj∧zR (Kd.R k36 36 wr w0.heap.size P0_ (.slice (some ⟨b,0,none⟩) n cap) xs)∧zR (xs.length=n)∧zR (xs.take ii=(l0.take jj).filter fun x=>!p x)∧zR (xs.drop jj=l0.drop jj)∧zR (Q wr)∧zR (Below w0.heap.size w0 wr))
    case atStart=>
      refine ⟨k0,k0 + 1,l0,by omega,by omega,by omega,rfl,by go_num,⟨Kd.R_below HO.out hb⟩,⟨HN.out.symm⟩,⟨?_⟩,⟨rfl⟩,⟨HQb.out _ _ HQ.out hb⟩,⟨zL HB.out hb⟩⟩
      rw [filter_take p l0 k0 (by have:=HN.out;omega),if_pos HK1.out,List.append_nil,filter_none p l0 k0 HK2.out (by have:=HN.out;omega)]
    case round=>
      obtain ⟨ii,jj,xs,hjj,hii,hg,rfl,rfl,HR,HL,HF,HD,HQ1,HB1⟩:=hrel
      by_cases hlt:jj < n
      · have hltz:(jj:Int) < (n:Int):=by omega
        have hitz:(ii:Int) < (n:Int):=by omega
        have x0:wr.cell? ⟨b,jj * 3,none⟩=some (.int .i64 (xs.getD jj z36).f0):=old36_at HR.out jj hlt 0 _ rfl
        have x1:wr.cell? ⟨b,jj * 3 + 1,none⟩=some (.int .i64 (xs.getD jj z36).f1):=old36_at HR.out jj hlt 1 _ rfl
        have x2:wr.cell? ⟨b,jj * 3 + 2,none⟩=some (.bool (xs.getD jj z36).f2):=old36_at HR.out jj hlt 2 _ rfl
        have hgd:xs.getD jj z36=l0.getD jj z36:=by
          have h1:=congrArg (fun z=>z.getD 0 z36) HD.out
          simpa [List.getD_eq_getElem?_getD] using h1
        rw [hgd] at x0 x1 x2
        generalize hy:l0.getD jj z36=y at x0 x1 x2
        have HY:=zR.mk hy
        clear hy hgd
        have hdd:xs.drop (jj + 1)=l0.drop (jj + 1):=by
          have h1:=congrArg (List.drop 1) HD.out
          rwa [List.drop_drop,List.drop_drop] at h1
        have HDD:=zR.mk hdd
        clear hdd
        have hcall:=fun W hW=>HP.out W y hW
        cases hq:p y with
        |true=>
          have HPY:=zR.mk hq
          rw [hq] at hcall
          have HC:=zR.mk hcall
          clear hq hcall
          go_wp2_with (first|((with_reducible refine yE (N:=7) rfl ?_);refine box2_event 36 ?hg ?hg2 (N:=7) ?hd ?hd2 (.tmp 25) ?ho2 (cs0:=#[.int .i64 0,.int .i64 0,.bool false]) (cs:=#[.int .i64 y.f0,.int .i64 y.f1,.bool y.f2]) ?hr ?hi ?hs ?h1 ?hp ?hv ?_;(case hd=>rfl);(case hd2=>rfl);(case hg=>rfl);(case hg2=>rfl);(case ho2=>rfl);(case hr=>first|(go_simp;done)|(go_simp;rfl));(case hi=>kernel_rfl);(case hs=>rfl);(case h1=>rfl);(case hp=>intro v_;rfl);(case hv=>intro v_;rfl);intro gb hgb w5 hbox hb5;have hz0:w5.cell? ⟨gb,0,none⟩=some (.int .i64 y.f0):=(zJ hbox 0).trans rfl;have hz1:w5.cell? ⟨gb,1,none⟩=some (.int .i64 y.f1):=(zJ hbox 1).trans rfl;have hz2:w5.cell? ⟨gb,2,none⟩=some (.bool y.f2):=(zJ hbox 2).trans rfl;have HB5:=zR.mk hb5;clear hb5 hbox hgb)|((with_reducible refine (HC.out _ (HQb.out _ _ HQ1.out HB5.out)).mono ?_);rintro e w6 ⟨rfl,hb6⟩;have HB6:=zR.mk hb6;clear hb6))
          go_roundg (n - (jj + 1))
          case measure=>omega
          case rel=>
            refine ⟨ii,jj + 1,xs,by omega,by omega,by omega,rfl,by go_num,⟨Kd.R_below (Kd.R_below HR.out HB5.out) HB6.out⟩,HL,⟨?_⟩,⟨HDD.out⟩,⟨HQb.out _ _ (HQb.out _ _ HQ1.out HB5.out) HB6.out⟩,⟨zL (zL HB1.out HB5.out) HB6.out⟩⟩
            rw [filter_take p l0 jj (by have:=HN.out;omega),HY.out,if_pos HPY.out,List.append_nil]
            exact HF.out
        |false=>
          have HPY:=zR.mk hq
          rw [hq] at hcall
          have HC:=zR.mk hcall
          clear hq hcall
          go_wp2_with (first|((with_reducible refine yE (N:=7) rfl ?_);refine box2_event 36 ?hg ?hg2 (N:=7) ?hd ?hd2 (.tmp 25) ?ho2 (cs0:=#[.int .i64 0,.int .i64 0,.bool false]) (cs:=#[.int .i64 y.f0,.int .i64 y.f1,.bool y.f2]) ?hr ?hi ?hs ?h1 ?hp ?hv ?_;(case hd=>rfl);(case hd2=>rfl);(case hg=>rfl);(case hg2=>rfl);(case ho2=>rfl);(case hr=>first|(go_simp;done)|(go_simp;rfl));(case hi=>kernel_rfl);(case hs=>rfl);(case h1=>rfl);(case hp=>intro v_;rfl);(case hv=>intro v_;rfl);intro gb hgb w5 hbox hb5;have hz0:w5.cell? ⟨gb,0,none⟩=some (.int .i64 y.f0):=(zJ hbox 0).trans rfl;have hz1:w5.cell? ⟨gb,1,none⟩=some (.int .i64 y.f1):=(zJ hbox 1).trans rfl;have hz2:w5.cell? ⟨gb,2,none⟩=some (.bool y.f2):=(zJ hbox 2).trans rfl;have HB5:=zR.mk hb5;have HBX:=zR.mk hbox;clear hb5 hbox hgb)|((with_reducible refine (HC.out _ (HQb.out _ _ HQ1.out HB5.out)).mono ?_);rintro e w6 ⟨rfl,hb6⟩;have hbox6:=(hb6.block gb (zX HBX.out)).trans HBX.out;have hy0:w6.cell? ⟨gb,0,none⟩=some (.int .i64 y.f0):=(zJ hbox6 0).trans rfl;have hy1:w6.cell? ⟨gb,1,none⟩=some (.int .i64 y.f1):=(zJ hbox6 1).trans rfl;have hy2:w6.cell? ⟨gb,2,none⟩=some (.bool y.f2):=(zJ hbox6 2).trans rfl;have HB6:=zR.mk hb6;have HR6:=zR.mk (Kd.R_below (Kd.R_below HR.out HB5.out) hb6);have HW6:=zR.mk (zL (zL HB1.out HB5.out) hb6);clear hb6 hbox6)|((with_reducible refine gate_store (p:=33) rfl ?_);refine Kd.R_store k36 (w0:=w0) w0.heap.size rfl rfl 36 (.tmp 33) (.tmp 32) rfl 36 (g:=b) (n:=n) (cap:=cap) (o':=ii * 3) (ii:Int) 0 xs y (.agg #[.int .i64 y.f0,.int .i64 y.f1,.bool y.f2]) [.int .i64 y.f0,.int .i64 y.f1,.bool y.f2] (old36 xs ii) P0_ (fun _=>False) rfl rfl rfl rfl (by kernel_rfl) (by simp [Value.oneCell']) HR6.out (by omega) hitz rfl (old36_at HR6.out ii (by omega)) (Nat.le_refl 3) (k36_mkM _ _ _ _) (fun _ h=>h.elim) HW6.out ?_;intro w7 hR7 hB7 hG7;have HR7:=zR.mk hR7;have HB7:=zR.mk hB7;have HG7:=zR.mk hG7;clear hR7 hB7 hG7))
          go_roundg (n - (jj + 1))
          case measure=>omega
          case rel=>
            have hput:=HR7.out
            rw [Int.toNat_natCast] at hput
            refine ⟨ii + 1,jj + 1,xs.set ii y,by omega,by omega,by omega,by go_num,by go_num,⟨hput⟩,⟨by rw [List.length_set];exact HL.out⟩,⟨?_⟩,⟨?_⟩,⟨HQg.out _ _ (HQb.out _ _ (HQb.out _ _ HQ1.out HB5.out) HB6.out) HG7.out⟩,⟨HB7.out⟩⟩
            · have hil:ii < (xs.set ii y).length:=by rw [List.length_set,HL.out];omega
              rw [filter_take p l0 jj (by have:=HN.out;omega),HY.out,if_neg (by simp [HPY.out]),← HF.out,List.take_succ_eq_append_getElem hil,List.getElem_set_self,List.take_set_of_le (Nat.le_refl _)]
            · rw [List.drop_set_of_lt (by omega)]
              exact HDD.out
      · have hje:jj=n:=by omega
        subst hje
        have hrm:=R_room _ HR.out
        have ht:=Kd.R_take HR.out (m:=ii) (by rw [HL.out];omega)
        have hne:¬ cap=ii:=by omega
        have hltz:¬ (jj:Int) < (jj:Int):=by omega
        have hsz:Kd.sz k36=3:=rfl
        have hcz:(Value.cells (.agg #[.int .i64 0,.int .i64 0,.bool false])).size=3:=rfl
        obtain ⟨zs,hz,hcl⟩:=run_clear_k (P:=Try.prog) wr 34 36 (.agg #[.int .i64 0,.int .i64 0,.bool false]) Try.underlying34 (fun w=>by rfl) (by simp [Value.cells,Value.oneCell']) b (ii * 3) (jj - ii) (cap - ii) (by omega) (fun q hq=>hrm.1 _ (by rw [hcz] at hq;rw [hsz];omega)) (fun q hq=>hrm.2.1 _)
        have ht2:=zR.mk (R_tail _ ht zs (ii * 3) (by rw [hsz];exact Nat.le_refl _) (by rw [hz,hcz,hsz];omega))
        have hfin:xs.take ii=l0.filter fun x=>!p x:=by
          rw [HF.out,List.take_of_length_le (by have:=HN.out;omega)]
        have HFF:=zR.mk hfin
        have HZ:=zR.mk hz
        have HRR:=zR.mk hrm
        clear hz hrm hsz hcz ht hfin
        go_wp2
        go_ret
        have hW1:w0.heap.size≤wr.heap.size:=HB1.out.size
        refine ⟨_,rfl,?_,pw_below_grown HB1.out (some b) hW1 ht2.out.2 (fun k hk=>by injection hk with hk;subst hk;exact HG.out),HQg.out _ _ HQ1.out ht2.out.2,rfl⟩
        rw [← HFF.out]
        exact ht2.out.1
end Go.Proofs.Ytpljggoogodhlaa.Ix

end
section
namespace Go.Proofs.Ytpljggoogodhlaa.Ix
open Go.RowKit Go.Proofs.YtpljggoogodhlaaW.PrintWords Go.Proofs.YtpljggoogodhlaaW.PrintLast Go.Proofs.YtpljggoogodhlaaW.PrintMore Go.Proofs.Ytpljggoogodhlaa.Q Go.Proofs.YtpljggoogodhlaaM
set_option linter.unusedVariables false
set_option linter.unusedSimpArgs false
theorem k36_world {w w':World} {b b':Nat} {ok ok':Nat→Prop} {x:S36} {c:List Value} (h:k36.M w b ok x c):k36.M w' b' ok' x c:=by
  obtain rfl:=k36_openM h
  exact k36_mkM _ _ _ _
theorem ins36 (w0 w:World) (u:Value) (vb vc:Nat) (x:S36) (i:Nat) (l:List S36) (P0_:Nat→Prop) (hB:Below w0.heap.size w0 w) (ho:Kd.R k36 36 w w0.heap.size P0_ u l) (hi:i≤l.length) (hlim:l.length < 1000000)
    (hvh:w.heap[vb]?=some (.cells #[.int .i64 x.f0,.int .i64 x.f1,.bool x.f2] 36 (0,0))) (hvu:u.ownBlock≠some vb) (hfresh:∀ k,w.heap.size≤k→P0_ k) :
    Calls Try.prog 41 #[u,.int .i64 i,.slice (some ⟨vb,0,none⟩) 1 vc] w fun e w'=>∃ v0_:Value,e=.returned v0_∧Kd.R k36 36 w' w0.heap.size P0_ v0_ (l.take i ++ x :: l.drop i)∧Below w0.heap.size w0 w':=by
  obtain ⟨h0,inner,hown,hrep⟩:=ho
  have h1c:=reps_one hrep (show 0 < k36.sz by decide) (fun p c hp=>k36.K_one (k36.K_of_M hp))
  refine (ins_own w0 w u vb vc [.int .i64 x.f0,.int .i64 x.f1,.bool x.f2] i l.length inner hB hown h1c rfl (by simp [Value.oneCell']) hi (by omega) hvh hvu).mono ?_
  rintro e w' ⟨v0,rfl,hown',hB',_,hob⟩
  have hlen:(l.take i ++ x :: l.drop i).length=l.length + 1:=by simp;omega
  refine ⟨v0,rfl,⟨?_,inner.take (i * 3) ++ [.int .i64 x.f0,.int .i64 x.f1,.bool x.f2] ++ inner.drop (i * 3),by rw [hlen];exact hown',?_⟩,hB'⟩
  · intro k hk
    rcases hob with hob|⟨b,hb,hle⟩
    · exact h0 k (hob ▸ hk)
    · rw [hb] at hk
      injection hk with hk
      exact hfresh k (hk ▸ hle)
  · have h1:=(Kd.reps_take hrep hi).imp_ (R':=k36.M w' w0.heap.size (fun k=>P0_ k∧some k≠v0.ownBlock)) (fun _ _ h=>k36_world h)
    have h2:=(Kd.reps_drop (m:=i) hrep).imp_ (R':=k36.M w' w0.heap.size (fun k=>P0_ k∧some k≠v0.ownBlock)) (fun _ _ h=>k36_world h)
    have h3:=Kd.reps_append (Reps.snoc h1 (k36_mkM _ _ _ x) rfl) h2
    rw [List.append_assoc] at h3
    exact h3
def fdIns (x:S36):List S36→List S36
  |[]=>[x]
  |y :: l=>if y.f0 < x.f0 then y :: fdIns x l else x :: y :: l
theorem fdIns_at (x:S36):∀ (l:List S36) (k:Nat),k≤l.length→(∀ j,j < k→(l.getD j z36).f0 < x.f0)→(k < l.length→¬ (l.getD k z36).f0 < x.f0)→fdIns x l=l.take k ++ x :: l.drop k
  |[],k,hk,_,_=>by
    obtain rfl:k=0:=by simpa using hk
    rfl
  |y :: l,0,_,_,h=>by
    have:¬ y.f0 < x.f0:=h (by simp)
    rw [fdIns,if_neg this]
    rfl
  |y :: l,k + 1,hk,h1,h2=>by
    have h0:y.f0 < x.f0:=h1 0 (by omega)
    rw [fdIns,if_pos h0,fdIns_at x l k (by simpa using hk) (fun j hj=>h1 (j + 1) (by omega)) (fun hj=>h2 (by simpa using hj))]
    rfl
set_option maxHeartbeats 1000000 in
theorem cl40 (B:Nat) (x:S36) (W:World) (y:S36) (hc:W.heap[B]?=some (.cells #[.int .i64 x.f0,.int .i64 x.f1,.bool x.f2] 36 (0,0))) :
    Calls Try.prog 40 #[.agg #[.int .i64 y.f0,.int .i64 y.f1,.bool y.f2],.pointer (some ⟨B,0,none⟩)] W fun e w'=>e=.returned (.bool (y.f0 == x.f0))∧Below W.heap.size W w':=by
  have hu36:=Try.underlying36
  have hB:B < W.heap.size:=zX hc
  have hne:¬ (W.heap.size=B):=by omega
  have hx0:W.cell? ⟨B,0,none⟩=some (.int .i64 x.f0):=(zJ hc 0).trans rfl
  clear hc
  go_enter Try.func40,Try.ntmps40
  go_wp2
  go_ret
  exact ⟨by rfl,(Below.refl _ _).alloc (Nat.le_refl _) _⟩
theorem del_put (x:S36) (l0 lo:List S36) (hlo:lo=l0.filter fun y=>!(y.f0 == x.f0)) (gb:Nat) (w wc w7:World) (v7:Value) (hB:Below w.heap.size w w7) (hR:Kd.R k36 36 w7 w.heap.size (fun _=>True) v7 l0) (hx:w7.heap[gb]?=some (.cells #[.int .i64 x.f0,.int .i64 x.f1,.bool x.f2] 36 (0,0)))
    (hgb:gb < wc.heap.size) (hR2:Kd.R k36 36 w7 wc.heap.size (fun _=>True) v7 l0) :
    Calls Try.prog 38 #[v7,.func (.func 40) #[] #[.pointer (some ⟨gb,0,none⟩)]] w7 fun e w'=>∃ v0_:Value,e=.returned v0_∧Kd.R k36 36 w' w.heap.size (fun _=>True) v0_ lo∧Below w.heap.size w w'∧w'.heap[gb]?=some (.cells #[.int .i64 x.f0,.int .i64 x.f1,.bool x.f2] 36 (0,0)):=by
  subst hlo
  refine (del_any 40 #[.pointer (some ⟨gb,0,none⟩)] (Go.Proofs.enters_of Try.func40 (by kernel_rfl) rfl) (fun y=>y.f0 == x.f0) (fun W=>W.heap[gb]?=some (.cells #[.int .i64 x.f0,.int .i64 x.f1,.bool x.f2] 36 (0,0))) (fun _=>True) v7 l0 w w7 hB hR hx (fun W W' h hb=>(hb.block gb (zX h)).trans h) (fun b hb W W' h hg=>(hg.block gb (zX h) (fun he=>by injection he with he;have:=Kd.R_base hR2 b hb;omega)).trans h) (fun W y h=>cl40 gb x W y h)).mono ?_
  rintro e w' ⟨v0,rfl,h1,h2,h3,_⟩
  exact ⟨v0,rfl,h1,h2,h3⟩
theorem R_ownlt {w:World} {base:Nat} {ok:Nat→Prop} {v:Value} {l:List S36} (h:Kd.R k36 36 w base ok v l):v.ownBlock≠some w.heap.size:=by
  obtain ⟨_,inner,hown,_⟩:=h
  exact fun h=>absurd (own_lt hown _ h) (Nat.lt_irrefl _)
set_option maxHeartbeats 8000000 in
set_option maxRecDepth 1000000 in
theorem put_ok (A0:Option Addr) (c0:Nat) (l0:List S36) (x:S36) (w:World) (hlim:l0.length < 1000)
    (hck:∀ W,Calls Try.prog 35 #[.agg #[.int .i64 x.f0,.int .i64 x.f1,.bool x.f2]] W fun e w'=>e=.returned (.int .i64 0)∧Below W.heap.size W w')
    (hcl:∀ W,Below w.heap.size w W→Calls Try.prog 39 #[.slice A0 l0.length c0] W fun e w'=>∃ v0_:Value,e=.returned v0_∧Kd.R k36 36 w' W.heap.size (fun _=>True) v0_ l0∧Below W.heap.size W w') :
    Calls Try.prog 24 #[.slice A0 l0.length c0,.agg #[.int .i64 x.f0,.int .i64 x.f1,.bool x.f2]] w fun e w'=>∃ v0_:Value,e=.returned (.tuple #[v0_,.int .i64 0])∧Kd.R k36 36 w' w.heap.size (fun _=>True) v0_ (fdIns x (l0.filter fun y=>!(y.f0 == x.f0)))∧Below w.heap.size w w':=by
  have hu36:=Try.underlying36
  obtain ⟨lo,hlo⟩:∃ lo,lo=l0.filter fun y=>!(y.f0 == x.f0):=⟨_,rfl⟩
  have hll:lo.length < 1000:=by rw [hlo];exact Nat.lt_of_le_of_lt (List.length_filter_le _ _) hlim
  rw [← hlo]
  have HL:=zR.mk hll
  have HLO:=zR.mk hlo
  have HCK:=zR.mk hck
  have HCL:=zR.mk hcl
  clear hlim hck hcl hlo hll
  go_enter Try.func24,Try.ntmps24
  go_wp2_with (first
    |((with_reducible refine yE (N:=3) rfl ?_);refine yG ?hg (N:=3) ?hd (cs:=#[.int .i64 x.f0,.int .i64 x.f1,.bool x.f2]) (t:=36) ?hr ?_;(case hd=>rfl);(case hg=>rfl);(case hr=>first|(go_simp;done)|(go_simp;rfl));intro gb hgb w5 hbox hb5;have hz0:w5.cell? ⟨gb,0,none⟩=some (.int .i64 x.f0):=(zJ hbox 0).trans rfl;have hz1:w5.cell? ⟨gb,1,none⟩=some (.int .i64 x.f1):=(zJ hbox 1).trans rfl;have hz2:w5.cell? ⟨gb,2,none⟩=some (.bool x.f2):=(zJ hbox 2).trans rfl;have HB5:=zR.mk hb5;have HBX:=zR.mk hbox;clear hb5 hbox hgb)
    |((with_reducible refine (HCK.out _).mono ?_);rintro e w6 ⟨rfl,hb6⟩;have HBX6:=zR.mk ((hb6.block gb (zX HBX.out)).trans HBX.out);have HB6:=zR.mk (zL HB5.out hb6);clear hb6)
    |((with_reducible refine (HCL.out _ HB6.out).mono ?_);rintro e w7 ⟨v7,rfl,hR7,hB7⟩;have HD8:=zR.mk (del_put x l0 lo HLO.out gb w w6 w7 v7 (zL HB6.out hB7) (Kd.R_lower hR7 HB6.out.size) ((hB7.block gb (zX HBX6.out)).trans HBX6.out) (zX HBX6.out) hR7);clear hR7 hB7)
    |((with_reducible refine HD8.out.mono ?_);rintro e w8 ⟨v8,rfl,hR8,hB8,hq8⟩;obtain ⟨A8,c8,rfl⟩:=Kd.R_slice hR8;have HR8:=zR.mk hR8;have HB8:=zR.mk hB8;have HQ8:=zR.mk hq8;have hy0:w8.cell? ⟨gb,0,none⟩=some (.int .i64 x.f0):=(zJ hq8 0).trans rfl;have hy1:w8.cell? ⟨gb,1,none⟩=some (.int .i64 x.f1):=(zJ hq8 1).trans rfl;have hy2:w8.cell? ⟨gb,2,none⟩=some (.bool x.f2):=(zJ hq8 2).trans rfl;clear hR8 hB8 hq8))
  go_loopg [8] lo.length (fun gg s8 wr=>∃ kk:Nat,kk≤lo.length∧lo.length - kk≤gg∧s8=.int .i64 kk∧zR (Kd.R k36 36 wr w.heap.size (fun _=>True) (.slice A8 lo.length c8) lo)∧zR (Below w.heap.size w wr)∧zR (wr.heap[gb]?=some (.cells #[.int .i64 x.f0,.int .i64 x.f1,.bool x.f2] 36 (0,0)))∧zR (∀ j,j < kk→(lo.getD j z36).f0 < x.f0))
  case atStart=>exact ⟨0,Nat.zero_le _,by omega,rfl,HR8,HB8,HQ8,⟨fun j hj=>absurd hj (Nat.not_lt_zero _)⟩⟩
  case round=>
    obtain ⟨kk,hkk,hg,rfl,HRr,HBr,HQr,HK⟩:=hrel
    clear hy0 hy1 hy2
    have hy0:wr.cell? ⟨gb,0,none⟩=some (.int .i64 x.f0):=(zJ HQr.out 0).trans rfl
    have hy1:wr.cell? ⟨gb,1,none⟩=some (.int .i64 x.f1):=(zJ HQr.out 1).trans rfl
    have hy2:wr.cell? ⟨gb,2,none⟩=some (.bool x.f2):=(zJ HQr.out 2).trans rfl
    have hbnd:=HL.out
    have HI:=zR.mk (fun m=>ins36 w ((wr.drewN m).alloc (.cells #[.int .i64 x.f0,.int .i64 x.f1,.bool x.f2] 36)) (.slice A8 lo.length c8) wr.heap.size 1 x kk lo (fun _=>True) (zG (zC HBr.out m) _) (Kd.yA (Kd.zZ HRr.out m) _) hkk (by omega) (blk_new (wr.drewN m) _) (R_ownlt HRr.out) (fun _ _=>trivial))
    by_cases hlt:kk < lo.length
    · have hltz:(kk:Int) < (lo.length:Int):=by omega
      obtain ⟨g,rfl⟩:∃ g,A8=some ⟨g,0,none⟩:=by
        obtain ⟨_,inner,⟨_,h2⟩,_⟩:=HRr.out
        rcases h2 with ⟨h2,_⟩|⟨g',cap',cur,hv,_⟩
        · injection h2 with h2 h3
          omega
        · injection hv with hv
          exact ⟨g',hv⟩
      have x0:wr.cell? ⟨g,kk * 3,none⟩=some (.int .i64 (lo.getD kk z36).f0):=old36_at HRr.out kk hlt 0 _ rfl
      by_cases hcmp:(lo.getD kk z36).f0 < x.f0
      · have HC:=zR.mk hcmp
        generalize (lo.getD kk z36).f0=y0 at x0 hcmp
        go_wp2
        repeat (go_quiet (fail);try go_wp2)
        go_roundg (lo.length - (kk + 1))
        case measure=>omega
        case rel=>
          refine ⟨kk + 1,by omega,by omega,by go_num,⟨Kd.zZ HRr.out _⟩,⟨zC HBr.out _⟩,⟨HQr.out⟩,⟨fun j hj=>?_⟩⟩
          by_cases e:j=kk
          · subst e;exact HC.out
          · exact HK.out j (by omega)
      · have HC:=zR.mk hcmp
        generalize (lo.getD kk z36).f0=y0 at x0 hcmp
        go_wp2_with ((with_reducible refine (HI.out _).mono ?_);rintro e w9 ⟨v9,rfl,hR9,hB9⟩;have HR9:=zR.mk hR9;have HB9:=zR.mk hB9;clear hR9 hB9)
        repeat (go_quiet (fail);try go_wp2_with ((with_reducible refine (HI.out _).mono ?_);rintro e w9 ⟨v9,rfl,hR9,hB9⟩;have HR9:=zR.mk hR9;have HB9:=zR.mk hB9;clear hR9 hB9))
        go_ret2
        refine ⟨_,rfl,?_,HB9.out⟩
        rw [fdIns_at x lo kk hkk HK.out (fun _=>by have:=HC.out;omega)]
        exact HR9.out
    · have hltz:¬ (kk:Int) < (lo.length:Int):=by omega
      go_wp2_with ((with_reducible refine (HI.out _).mono ?_);rintro e w9 ⟨v9,rfl,hR9,hB9⟩;have HR9:=zR.mk hR9;have HB9:=zR.mk hB9;clear hR9 hB9)
      repeat (go_quiet (fail);try go_wp2_with ((with_reducible refine (HI.out _).mono ?_);rintro e w9 ⟨v9,rfl,hR9,hB9⟩;have HR9:=zR.mk hR9;have HB9:=zR.mk hB9;clear hR9 hB9))
      go_ret2
      refine ⟨_,rfl,?_,HB9.out⟩
      rw [fdIns_at x lo kk hkk HK.out (fun h=>absurd h hlt)]
      exact HR9.out
set_option maxHeartbeats 8000000 in
set_option maxRecDepth 1000000 in
theorem put_err (A0:Option Addr) (c0 n:Nat) (x:S36) (r:Int) (hr:r≠0) (w:World)
    (hck:∀ W,Calls Try.prog 35 #[.agg #[.int .i64 x.f0,.int .i64 x.f1,.bool x.f2]] W fun e w'=>e=.returned (.int .i64 r)∧Below W.heap.size W w') :
    Calls Try.prog 24 #[.slice A0 n c0,.agg #[.int .i64 x.f0,.int .i64 x.f1,.bool x.f2]] w fun e w'=>e=.returned (.tuple #[.slice A0 n c0,.int .i64 r])∧Below w.heap.size w w':=by
  have hu36:=Try.underlying36
  have HCK:=zR.mk hck
  clear hck
  go_enter Try.func24,Try.ntmps24
  go_wp2_with (first
    |((with_reducible refine yE (N:=3) rfl ?_);refine yG ?hg (N:=3) ?hd (cs:=#[.int .i64 x.f0,.int .i64 x.f1,.bool x.f2]) (t:=36) ?hr ?_;(case hd=>rfl);(case hg=>rfl);(case hr=>first|(go_simp;done)|(go_simp;rfl));intro gb hgb w5 hbox hb5;have hz0:w5.cell? ⟨gb,0,none⟩=some (.int .i64 x.f0):=(zJ hbox 0).trans rfl;have hz1:w5.cell? ⟨gb,1,none⟩=some (.int .i64 x.f1):=(zJ hbox 1).trans rfl;have hz2:w5.cell? ⟨gb,2,none⟩=some (.bool x.f2):=(zJ hbox 2).trans rfl;have HB5:=zR.mk hb5;clear hb5 hbox hgb)
    |((with_reducible refine (HCK.out _).mono ?_);rintro e w6 ⟨rfl,hb6⟩;have HB6:=zR.mk (zL HB5.out hb6);clear hb6))
  go_ret2
  exact ⟨rfl,HB6.out⟩
end Go.Proofs.Ytpljggoogodhlaa.Ix

end
section

namespace Go.Proofs.Ytpljggoogodhlaa.Q
open Go.RowKit Go.Proofs.YtpljggoogodhlaaW.PrintWords Go.Proofs.YtpljggoogodhlaaW.PrintLast Go.Proofs.YtpljggoogodhlaaW.PrintMore Go.Proofs.YtpljggoogodhlaaM
open Kd
attribute [local go_sem] max2_int min2_int max_two min_two max_three min_three max_four min_four
set_option linter.unusedVariables false
set_option linter.unusedSimpArgs false
def api_Fd_39.f (l0:List S36):Option (List S36):=if l0.length < 5864062014805 then some l0 else none
set_option maxHeartbeats 8000000 in
set_option maxRecDepth 100000 in
theorem api_Fd_39.calls (A0:Option Addr) (c0:Nat) (l0:List S36) (r:List S36) (w:World) (hr0:Kd.C k36 w A0 l0.length l0) (hc0:l0.length≤c0) (h:api_Fd_39.f l0=some r) :
  Calls Try.prog 39 #[.slice A0 l0.length c0] w fun e w'=>∃ v0_:Value,e=.returned (v0_)∧Kd.R k36 36 w' w.heap.size (fun _=>True) v0_ r∧Below w.heap.size w w':=by
 unfold api_Fd_39.f at h
 by_cases c2:l0.length < 5864062014805
 ·rw [if_pos c2] at h
  obtain rfl:=Option.some.inj h
  clear h
  cases A0 with
  |none=>
   have hl:l0=[]:=by
    rcases l0 with _|⟨x,xs⟩
    ·rfl
    ·obtain ⟨ad,h1,_⟩:=hr0.2.2 (by simp)
     cases h1
   subst hl
   clear hr0 c2
   have heq:∀ W:World,(binOp .eql 34 (.slice none 0 c0) (.slice none 0 0)).run Try.prog W=.ok (.bool true) W:=fun W=>Lib.run_eql_slice_nil W 34 36 none _ _ _ _ Try.underlying34
   go_enter Try.func39,Try.ntmps39
   go_wp2
   go_ret
   exact ⟨_,rfl,R_nil _ _ _ _ _,Below.refl _ _⟩
  |some ad=>
   have HR0:=Zk hr0
   have HC0:=Zk hc0
   have LMc2:=Zk c2
   clear hr0 hc0 c2
   have HB:=Zk (Below.refl w.heap.size w)
   have heq:∀ W:World,(binOp .eql 34 (.slice (some ad) l0.length c0) (.slice none 0 0)).run Try.prog W=.ok (.bool false) W:=fun W=>Lib.run_eql_slice_nil W 34 36 (some ad) _ _ _ _ Try.underlying34
   go_enter Try.func39,Try.ntmps39
   go_wp2_with (first|((with_reducible refine yE (N:=5) rfl ?_);refine R_lit k36 _ 36 ?hg (N:=5) ?hd (xs:=([]:List S36)) (inner:=[]) (ok:=fun _=>True) (okp:=fun _=>True) ?hr ?hp (fun _ hk=>hk) trivial (Below.refl _ _) (Nat.le_refl _) (by simp) ?_;(case hd=>rfl);(case hg=>rfl);(case hr=>first|(go_simp;done)|(go_simp;rfl));(case hp=>exact (Reps.none _ _));intro v111 w3 ho4 hb hg_ hnew_;clear hg_ hnew_;have n0_:=Zk (R_lower ho4 (zM (by repeat (first|(with_reducible first|exact HB.out|apply zG|apply zC|apply zH)|exact HB.out))));have n1_:=Zk (zL (by repeat (first|(with_reducible first|exact HB.out|apply zG|apply zC|apply zH)|exact HB.out)) hb);clear HB;have HO112:=n0_;have HB:=n1_;clear n0_ n1_;clear hb ho4)|((with_reducible refine gate_builtin (b:=.append) (xs:=#[.tmp 5,.tmp 6]) rfl ?_);at_builtin;refine R_append_rows k36 (w0:=w) w.heap.size rfl (.tmp 5) (.tmp 6) 34 36 (.agg #[(.int .i64 0),(.int .i64 0),(.bool false)]) 24 rfl Try.underlying34 info36 rfl (by decide) (by omega) v111 [] l0 _ _ _ (fun _=>True) (fun _=>False) rfl rfl ?aO ?aR (fun _ _ h=>h) (fun _ h=>h.elim) ?aF ?aB ?aS ?aL ?_;(case aR=>repeat (first|exact (C_below HR0.out HB.out)|(with_reducible refine yC ?_ _)|(with_reducible refine yD ?_ _)|(with_reducible refine C_drew ?_)));(case aB=>exact (by repeat (first|(with_reducible first|exact HB.out|apply zG|apply zC|apply zH)|exact HB.out)));(case aF=>exact (fun _ _=>trivial));(case aO=>exact (by (with_reducible repeat (first|apply yA|apply zZ|apply yB));exact HO112.out));(case aS=>exact (zM (by repeat (first|(with_reducible first|exact HB.out|apply zG|apply zC|apply zH)|exact HB.out))));(case aL=>have:=LMc2.out;simp only [List.length_nil];omega);intro v114 w5 ho hb hg hat;rw [List.nil_append] at ho;have n0_:=Zk (hb);have n1_:=Zk (ho);clear HB;clear HO112;have HB:=n0_;have HO115:=n1_;clear n0_ n1_;clear ho hb hg hat))
   go_ret
   exact ⟨_,by first|rfl|(simp [errW_none,errW_some] <;> rfl)|(simp [*,errW_none,errW_some] <;> rfl),by (with_reducible repeat (first|apply yA|apply zZ|apply yB));exact HO115.out,(by repeat (first|(with_reducible first|exact HB.out|apply zG|apply zC|apply zH)|exact HB.out))⟩
 ·rw [if_neg c2] at h
  exact absurd h (by simp)
def fdtab_Put.f (k:Nat) (l0:List S36) (a1_0:Int) (a1_1:Int) (a1_2:Bool):Option (List S36 × Int):=(fdtab_check.f k a1_0 a1_1 a1_2).bind fun e=>if e=0 then (if l0.length < 1000 then some (Go.Proofs.Ytpljggoogodhlaa.Ix.fdIns ⟨a1_0,a1_1,a1_2⟩ (l0.filter fun y=>!(y.f0 == a1_0)),0) else none) else some (l0,e)
theorem fdtab_Put.mono:∀ a0 a1 a2 a3 k,LeO (fdtab_Put.f k a0 a1 a2 a3) (fdtab_Put.f (k + 1) a0 a1 a2 a3):=by
 intro a0 a1 a2 a3 k
 unfold fdtab_Put.f
 exact LeO.bind (fdtab_check.mono _ _ _ _) (fun _=>LeO.refl _)
theorem fdtab_Put.calls (k:Nat) (P0_:Nat→Prop) (A0:Option Addr) (c0:Nat) (l0:List S36) (a1_0:Int) (a1_1:Int) (a1_2:Bool) (r1:List S36) (r2:Int) (w:World) (hs0:Kd.V k36 36 w w.heap.size (fun k_=>P0_ k_) (.slice A0 l0.length c0) l0) (h:fdtab_Put.f k l0 a1_0 a1_1 a1_2=some (r1,r2)) :
  Calls Try.prog 24 #[.slice A0 l0.length c0,.agg #[.int .i64 a1_0,.int .i64 a1_1,.bool a1_2]] w fun e w'=>∃ v0_:Value,e=.returned (.tuple #[v0_,.int .i64 r2])∧Kd.V k36 36 w' w.heap.size (fun k_=>(P0_ k_∨w.heap.size≤k_)) v0_ r1∧Below w.heap.size w w':=by
 unfold fdtab_Put.f at h
 obtain ⟨e,hc,h⟩:=Option.bind_eq_some_iff.mp h
 by_cases e0:e=0
 ·rw [if_pos e0] at h
  subst e0
  by_cases hl:l0.length < 1000
  ·rw [if_pos hl] at h
   simp only [Option.some.injEq,Prod.mk.injEq] at h
   obtain ⟨rfl,rfl⟩:=h
   refine (Go.Proofs.Ytpljggoogodhlaa.Ix.put_ok A0 c0 l0 ⟨a1_0,a1_1,a1_2⟩ w hl (fun W=>fdtab_check.calls k a1_0 a1_1 a1_2 0 W hc) (fun W hW=>api_Fd_39.calls A0 c0 l0 l0 W (C_below (zY hs0).2.2 hW) (zY hs0).2.1 (by unfold api_Fd_39.f;rw [if_pos (by omega)]))).mono ?_
   rintro e w' ⟨v0,rfl,hR,hB⟩
   exact ⟨v0,rfl,zU (R_V (R_newM (M:=fun k_=>w.heap.size≤k_) hR (Nat.le_refl _) (fun _ h=>h))) (fun k_ hk=>.inr hk.1),hB⟩
  ·rw [if_neg hl] at h;cases h
 ·rw [if_neg e0] at h
  simp only [Option.some.injEq,Prod.mk.injEq] at h
  obtain ⟨rfl,rfl⟩:=h
  refine (Go.Proofs.Ytpljggoogodhlaa.Ix.put_err A0 c0 l0.length ⟨a1_0,a1_1,a1_2⟩ e e0 w (fun W=>fdtab_check.calls k a1_0 a1_1 a1_2 e W hc)).mono ?_
  rintro e w' ⟨rfl,hB⟩
  exact ⟨_,rfl,zU (zT hs0 hB) (fun k_ hk=>.inl hk),hB⟩
theorem api_Fd_42.zero:∀ w:World,(zeroValue 36).run Try.prog w=.ok (.agg #[(.int .i64 0),(.int .i64 0),(.bool false)]) w:=fun w=>by rfl
def api_Fd_42.f (l0:List S36) (a1:Int) (a2:Int):Option (List S36):=if 0≤a1 then (if a1 < (l0.length:Int) then (if a2=a1 + 1 then some (l0.eraseIdx a1.toNat) else none) else none) else none
set_option maxHeartbeats 8000000 in
set_option maxRecDepth 1000000 in
theorem api_Fd_42.calls (P0_:Nat→Prop) (u9000_:Value) (l0:List S36) (a1:Int) (a2:Int) (r:List S36) (w0 w:World) (hB:Below w0.heap.size w0 w) (ho0:Kd.R k36 36 w w0.heap.size P0_ u9000_ l0) (h:api_Fd_42.f l0 a1 a2=some r) :
  Calls Try.prog 42 #[u9000_,.int .i64 a1,.int .i64 a2] w fun e w'=>∃ v0_:Value,e=.returned (v0_)∧Kd.R k36 36 w' w0.heap.size (fun k_=>(P0_ k_∨w.heap.size≤k_)) v0_ r∧Below w0.heap.size w0 w'∧Kept w w' (fun k_=>P0_ k_):=by
 unfold api_Fd_42.f at h
 by_cases h1:0≤a1
 ·rw [if_pos h1] at h
  by_cases h2:a1 < (l0.length:Int)
  ·rw [if_pos h2] at h
   by_cases h3:a2=a1 + 1
   ·rw [if_pos h3] at h
    obtain rfl:=Option.some.inj h
    clear h
    obtain ⟨i,rfl⟩:=Int.eq_ofNat_of_zero_le h1
    obtain ⟨j,hj⟩:∃ j:Nat,j=i + 1:=⟨_,rfl⟩
    obtain rfl:a2=(j:Int):=by omega
    clear h1 h3
    have hi:i < l0.length:=by omega
    clear h2
    obtain ⟨A,cap,rfl⟩:=R_slice ho0
    have hA:∃ g,A=some ⟨g,0,none⟩:=by
     obtain ⟨_,inner,⟨_,h2⟩,_⟩:=ho0
     rcases h2 with ⟨h2,_⟩|⟨g,cap',cur,hv,_⟩
     ·injection h2 with h2 h3
      omega
     ·injection hv with hv
      exact ⟨g,hv⟩
    obtain ⟨g,rfl⟩:=hA
    have hroom:=Go.Proofs.YtpljggoogodhlaaM.R_room _ ho0
    have hcap:l0.length≤cap:=hroom.2.2.2.2.2.1
    have hmax:cap≤9223372036854775807:=hroom.2.2.2.2.2.2
    have hw0:=hB.size
    have hP:P0_ g:=ho0.1 g rfl
    obtain ⟨n,hn⟩:∃ n,n=l0.length:=⟨_,rfl⟩
    rw [← hn] at ho0 hi hcap ⊢
    have HN:=Zk hn
    have HO:=Zk ho0
    have HB:=Zk hB
    have HW:=Zk hw0
    have HP:=Zk hP
    have HJ:=Zk hj
    have hij:i < j:=by omega
    have hjn:j≤n:=by omega
    have hjc:j≤cap:=by omega
    have hic:i≤cap:=by omega
    have hne:((i:Int) == (j:Int))=false:=beq_eq_false_iff_ne.2 (by omega)
    obtain ⟨A,hA,hA2⟩:∃ A:Addr,(if cap=j then some (⟨g,0,none⟩:Addr) else some ⟨g,j * 3,none⟩)=some A∧zR (some A=if cap=i + 1 then some (⟨g,0,none⟩:Addr) else (some (⟨g,0,none⟩:Addr)).map (·.add ((i + 1) * Kd.sz k36))):=by
     by_cases hc:cap=j
     ·exact ⟨⟨g,0,none⟩,by rw [if_pos hc],⟨by rw [if_pos (by omega)]⟩⟩
     ·exact ⟨⟨g,j * 3,none⟩,by rw [if_neg hc],⟨by rw [if_neg (by omega),← hj,Option.map_some,show Kd.sz k36=3 from rfl,add_plain]⟩⟩
    have hM:zR (n - j=n - (i + 1)):=⟨by omega⟩
    have hI:zR (i < n):=⟨hi⟩
    have hW2:zR (Below w0.heap.size w0 w.drew):=⟨below_drew hB⟩
    have hR2:zR (Kd.R k36 36 w.drew w0.heap.size P0_ (.slice (some ⟨g,0,none⟩) n cap) l0):=⟨yB ho0⟩
    have hS:zR ((Try.prog.info? 36).map (·.size)=some (Kd.sz k36)):=⟨by obtain ⟨i0,e1,e2⟩:=Option.map_eq_some_iff.1 info36;rw [e1];simp only [Prod.mk.injEq] at e2;simp [e2.2.1];rfl⟩
    clear hn ho0 hB hw0 hP hj hroom
    go_enter Try.func42,Try.ntmps42
    go_wp2_with fail
    go_region_law (refine R_delete_step k36 (w0:=w0) w0.heap.size rfl (.tmp 22) (.tmp 25) 34 36 rfl Try.underlying34 hS.out (g:=g) (n:=n) (c:=cap) (k:=i) (m:=n - j) (c2:=cap - j) (A:=some A) (xs:=l0) (ok:=P0_) (by simp [Act.eval,Act.put]) (by simp [Act.eval,Act.put]) hA2.out hM.out hR2.out hI.out hW2.out (by exact HW.out) ?_;intro w1 ho1 hb1 hg1)
    have hroom1:=Go.Proofs.YtpljggoogodhlaaM.R_room _ ho1
    have hsz:Kd.sz k36=3:=rfl
    have hcz:(Value.cells (.agg #[(.int .i64 0),(.int .i64 0),(.bool false)])).size=3:=rfl
    obtain ⟨zs,hz,hcl⟩:=Go.Proofs.YtpljggoogodhlaaM.run_clear_k (P:=Try.prog) w1 34 36 (.agg #[(.int .i64 0),(.int .i64 0),(.bool false)]) Try.underlying34 api_Fd_42.zero (by simp [Value.cells,Value.oneCell']) g ((n - 1) * 3) (n - (n - 1)) (cap - (n - 1)) (by omega) (fun q hq=>hroom1.1 _ (by rw [hcz] at hq;rw [hsz];have h1_:n - (n - 1)=1:=(by omega);rw [h1_] at hq;have h2_:n * 3≤cap * 3:=Nat.mul_le_mul_right _ hcap;omega)) (fun q hq=>hroom1.2.1 _)
    have ht:=Zk (Go.Proofs.YtpljggoogodhlaaM.R_tail _ ho1 zs ((n - 1) * 3) (by rw [hsz];exact Nat.le_refl _) (by rw [hz,hcz,hsz];have h1_:n - (n - 1)=1:=(by omega);rw [h1_];have h2_:n * 3≤cap * 3:=Nat.mul_le_mul_right _ hcap;omega))
    have HB1:=Zk hb1
    have HG1:=Zk hg1
    have HZ:=Zk hz
    have HRR:=Zk hroom1
    clear hb1 hg1 hz hroom1 ho1 hsz hcz
    go_wp2
    go_ret
    have hW1:w0.heap.size≤w1.heap.size:=HB1.out.size
    refine ⟨_,rfl,R_mono (by rw [Int.toNat_natCast];exact ht.out.1) (fun _ hk=>.inl hk),pw_below_grown HB1.out (some g) hW1 ht.out.2 (fun k hk=>by injection hk with hk;subst hk;exact HRR.out.2.2.2.1),?_⟩
    have k1:Kept w w1 (fun k_=>P0_ k_):=Kept.of_grown HG1.out (Kept.refl w _) (fun k hk=>by injection hk with hk;subst hk;exact .inl HP.out)
    exact Kept.of_grown ht.out.2 k1 (fun k hk=>by injection hk with hk;subst hk;exact .inl HP.out)
   ·rw [if_neg h3] at h;cases h
  ·rw [if_neg h2] at h;cases h
 ·rw [if_neg h1] at h;cases h
def fdtab_Drop.f (l0:List (S36)) (a1:Int):Option ((List (S36)) × Int):=(fdtab_index.f l0 a1).bind fun t343=>(if t343 < 0 then (some (l0,15)) else ((api_Fd_39.f l0).bind fun t344=>((api_Fd_42.f t344 t343 (wrap64 (t343 + 1))).bind fun t347=>(some (t347,0)))))
set_option maxHeartbeats 8000000 in
set_option maxRecDepth 10000000 in
theorem fdtab_Drop.calls (P0_:Nat→Prop) (A0:Option Addr) (c0:Nat) (l0:List (S36)) (a1:Int) (r1:List (S36)) (r2:Int) (w:World) (hs0:Kd.V k36 36 w w.heap.size (fun k_=>P0_ k_) (.slice A0 l0.length c0) l0) (h:fdtab_Drop.f l0 a1=some (r1,r2)) :
  Calls Try.prog 26 #[.slice A0 l0.length c0,.int .i64 a1] w fun e w'=>∃ v0_:Value,e=.returned (.tuple #[v0_,.int .i64 r2])∧Kd.V k36 36 w' w.heap.size (fun k_=>(P0_ k_∨w.heap.size≤k_)) v0_ r1∧Below w.heap.size w w':=by
 have HO0:=Zk (show Kd.V k36 36 w w.heap.size (fun k_=>(P0_ k_∨w.heap.size≤k_)) (.slice A0 l0.length c0) l0 from zU hs0 (fun k_ hk=>.inl hk))
 have HB:=Zk (Below.refl w.heap.size w)
 have H:((fdtab_index.f l0 a1).bind fun t343=>(if t343 < 0 then (some (l0,15)) else ((api_Fd_39.f l0).bind fun t344=>((api_Fd_42.f t344 t343 (wrap64 (t343 + 1))).bind fun t347=>(some (t347,0))))))=some (r1,r2):=h
 clear h
 replace H:=Option.bind_eq_some_iff.mp H
 obtain ⟨t343,A30,H⟩:=H
 replace H:(if t343 < 0 then (some (l0,15)) else ((api_Fd_39.f l0).bind fun t344=>((api_Fd_42.f t344 t343 (wrap64 (t343 + 1))).bind fun t347=>(some (t347,0)))))=some (r1,r2):=H
 have A3:=Zk A30
 clear A30
 by_cases c4:t343 < 0
 ·rw [if_pos c4] at H
  have c4b0:decide (t343 < 0)=true:=decide_eq_true c4
  clear c4
  simp only [Option.some.injEq,Prod.mk.injEq] at H
  obtain ⟨rfl,rfl⟩:=H
  go_enter Try.func26,Try.ntmps26
  go_wp2_with (first|((with_reducible refine zW (f:=34) rfl ?_);refine yF (some 9) rfl rfl Try.func34 (by kernel_rfl) rfl #[.slice A0 l0.length c0,.int .i64 a1] rfl (by (try simp only [List.map_toArray,List.map_cons,List.map_nil]);first|done|rfl|(simp only [List.length_drop,List.length_take];rfl)) ?_;(with_reducible refine (fdtab_index.calls _ _ l0 a1 t343 _ ?side1 ?side2 A3.out).mono ?_);(case side1=>repeat (first|exact (zY HO0.out).2.2|(with_reducible refine yC ?_ _)|(with_reducible refine yD ?_ _)|(with_reducible refine C_drew ?_)));(case side2=>exact (zY HO0.out).2.1);rintro e w5 ⟨rfl,hb⟩;refine ⟨_,rfl,?_⟩;have n0_:=Zk (zT (by (with_reducible repeat (first|apply zN|apply zO|apply zQ));exact HO0.out) hb);have n1_:=Zk (zL (by repeat (first|(with_reducible first|exact HB.out|apply zG|apply zC|apply zH)|exact HB.out)) hb);clear HO0;clear HB;have HO0:=n0_;have HB:=n1_;clear n0_ n1_;(try clear hb);(try clear hb2);(try clear hk);(try clear hi)))
  go_ret2
  exact ⟨_,by first|rfl|(simp [errW_none,errW_some] <;> rfl)|(simp [*,errW_none,errW_some] <;> rfl),by (with_reducible repeat (first|apply zN|apply zO|apply zQ));exact HO0.out,by repeat (first|(with_reducible first|exact HB.out|apply zG|apply zC|apply zH)|exact HB.out)⟩
 ·rw [if_neg c4] at H
  have c4b0:decide (t343 < 0)=false:=decide_eq_false c4
  clear c4
  replace H:=Option.bind_eq_some_iff.mp H
  obtain ⟨t344,A60,H⟩:=H
  replace H:((api_Fd_42.f t344 t343 (wrap64 (t343 + 1))).bind fun t347=>(some (t347,0)))=some (r1,r2):=H
  have A6:=Zk A60
  clear A60
  replace H:=Option.bind_eq_some_iff.mp H
  obtain ⟨t347,A70,H⟩:=H
  replace H:(some (t347,0))=some (r1,r2):=H
  have A7:=Zk A70
  clear A70
  simp only [Option.some.injEq,Prod.mk.injEq] at H
  obtain ⟨rfl,rfl⟩:=H
  go_enter Try.func26,Try.ntmps26
  go_wp2_with (first|((with_reducible refine zW (f:=34) rfl ?_);refine yF (some 9) rfl rfl Try.func34 (by kernel_rfl) rfl #[.slice A0 l0.length c0,.int .i64 a1] rfl (by (try simp only [List.map_toArray,List.map_cons,List.map_nil]);first|done|rfl|(simp only [List.length_drop,List.length_take];rfl)) ?_;(with_reducible refine (fdtab_index.calls _ _ l0 a1 t343 _ ?side1 ?side2 A3.out).mono ?_);(case side1=>repeat (first|exact (zY HO0.out).2.2|(with_reducible refine yC ?_ _)|(with_reducible refine yD ?_ _)|(with_reducible refine C_drew ?_)));(case side2=>exact (zY HO0.out).2.1);rintro e w8 ⟨rfl,hb⟩;refine ⟨_,rfl,?_⟩;have n0_:=Zk (zT (by (with_reducible repeat (first|apply zN|apply zO|apply zQ));exact HO0.out) hb);have n1_:=Zk (zL (by repeat (first|(with_reducible first|exact HB.out|apply zG|apply zC|apply zH)|exact HB.out)) hb);clear HO0;clear HB;have HO0:=n0_;have HB:=n1_;clear n0_ n1_;(try clear hb);(try clear hb2);(try clear hk);(try clear hi))|((with_reducible refine zW (f:=39) rfl ?_);refine yF (some 14) rfl rfl Try.func39 (by kernel_rfl) rfl #[.slice A0 l0.length c0] rfl (by (try simp only [List.map_toArray,List.map_cons,List.map_nil]);first|done|rfl|(simp only [List.length_drop,List.length_take];rfl)) ?_;(with_reducible refine (api_Fd_39.calls _ _ l0 t344 _ ?side1 ?side2 A6.out).mono ?_);(case side1=>repeat (first|exact (zY HO0.out).2.2|(with_reducible refine yC ?_ _)|(with_reducible refine yD ?_ _)|(with_reducible refine C_drew ?_)));(case side2=>exact (zY HO0.out).2.1);rintro e w9 ⟨v345,rfl,ho0,hb⟩;refine ⟨_,rfl,?_⟩;have n0_:=Zk (V_elder' (by (with_reducible repeat (first|apply zN|apply zO|apply zQ));exact HO0.out) (R_base ho0) hb);have n1_:=Zk (R_lower (R_newM (M:=fun k_=>(w.heap.size≤k_)) ho0 (zM (by repeat (first|(with_reducible first|exact HB.out|apply zG|apply zC|apply zH)|exact HB.out))) (fun k_ h_=>h_)) (zM (by repeat (first|(with_reducible first|exact HB.out|apply zG|apply zC|apply zH)|exact HB.out))));have n2_:=Zk (zL (by repeat (first|(with_reducible first|exact HB.out|apply zG|apply zC|apply zH)|exact HB.out)) hb);clear HO0;clear HB;have HO0:=n0_;have HO346:=n1_;have HB:=n2_;clear n0_ n1_ n2_;(try clear hb);(try clear hb2);(try clear hk);(try clear hi);(try clear ho0);obtain ⟨Ao10,co10,eo10⟩:=R_slice HO346.out;subst eo10)|((with_reducible refine zW (f:=42) rfl ?_);refine yF (some 18) rfl rfl Try.func42 (by kernel_rfl) rfl #[.slice Ao10 t344.length co10,.int .i64 t343,.int .i64 (wrap64 (t343 + 1))] rfl (by (try simp only [List.map_toArray,List.map_cons,List.map_nil]);first|done|rfl|(simp only [List.length_drop,List.length_take];rfl)) ?_;(with_reducible refine (api_Fd_42.calls (fun k_=>some k_=(.slice Ao10 t344.length co10:Value).ownBlock) (.slice Ao10 t344.length co10) t344 t343 (wrap64 (t343 + 1)) t347 w _ ?side1 ?side2 A7.out).mono ?_);(case side1=>repeat (first|(with_reducible first|exact HB.out|apply zG|apply zC|apply zH)|exact HB.out));(case side2=>exact R_tight rfl HO346.out);rintro e w11 ⟨v348,rfl,ho0,hb,hkp⟩;refine ⟨_,rfl,?_⟩;have n0_:=Zk (zU (ok':=fun k_=>(P0_ k_∨w.heap.size≤k_)∧some k_≠(v348:Value).ownBlock) (V_keptB (HO0.out) hkp (fun k_ hk_ hs_=>(hk_.2) hs_)) (fun k_ hk_=>⟨hk_.1.1,fun e_=>Or.elim (ho0.1 k_ e_.symm) (fun hs_=>hk_.2.1 hs_) (fun hn_=>Nat.not_le.2 hk_.2.2 hn_)⟩));have n1_:=Zk (R_mono (ok':=fun k_=>(w.heap.size≤k_)) ho0 (fun k_ hk_=>Or.elim hk_ (fun hs_=>(HO346.out.1 k_ (hs_).symm).1) (fun hn_=>(Nat.le_trans (zM (by repeat (first|(with_reducible first|exact HB.out|apply zG|apply zC|apply zH)|exact HB.out))) hn_))));have n2_:=Zk (hb);clear HO0;clear HB;clear HO346;have HO0:=n0_;have HO349:=n1_;have HB:=n2_;clear n0_ n1_ n2_;(try clear hb);(try clear hkp);(try clear ho0)))
  go_ret2
  exact ⟨_,by first|rfl|(simp [errW_none,errW_some] <;> rfl)|(simp [*,errW_none,errW_some] <;> rfl),zU (R_V (by (with_reducible repeat (first|apply yA|apply zZ|apply yB));exact HO349.out)) (fun k_ hk=>by first|exact ⟨(.inr (hk.1)),hk.2⟩|exact (.inr (hk))),by repeat (first|(with_reducible first|exact HB.out|apply zG|apply zC|apply zH)|exact HB.out)⟩
end Go.Proofs.Ytpljggoogodhlaa.Q
end
section

namespace Go.Proofs.Ytpljggoogodhlaa.Q
open Go.RowKit Go.Proofs.YtpljggoogodhlaaW.PrintWords Go.Proofs.YtpljggoogodhlaaW.PrintLast Go.Proofs.YtpljggoogodhlaaW.PrintMore Go.Proofs.YtpljggoogodhlaaM
open Kd
attribute [local go_sem] max2_int min2_int max_two min_two max_three min_three max_four min_four
set_option linter.unusedVariables false
set_option linter.unusedSimpArgs false
attribute [local go_sem high] eqA36
def jobshellref23_Same.l0:Nat→List (S36)→List (S36)→Int→Option (Bool)
 |0,_,_,_=>none
 |k + 1,x0,x1,x5=>if x5 < (x0.length:Int) then (if 0≤x5 then (if x5 < (x1.length:Int) then (if (!(((rd_T36 x0 x5).f0) == ((rd_T36 x1 x5).f0)) ||(!(((rd_T36 x0 x5).f1) == ((rd_T36 x1 x5).f1)) ||(!(((rd_T36 x0 x5).f2) == ((rd_T36 x1 x5).f2)))))=true then (some false) else (jobshellref23_Same.l0 k x0 x1 (wrap64 (x5 + 1)))) else (none)) else (none)) else (some true)
def jobshellref23_Same.f (k:Nat) (l0:List (S36)) (l1:List (S36)):Option (Bool):=if (l0.length:Int)=(l1.length:Int) then (jobshellref23_Same.l0 k l0 l1 0) else (some false)
theorem jobshellref23_Same.mono_l:∀ k,(∀ y0 y1 y2,LeO (jobshellref23_Same.l0 k y0 y1 y2) (jobshellref23_Same.l0 (k + 1) y0 y1 y2))
 |0=>fun _ _ _ r h=>by simp [jobshellref23_Same.l0] at h
 |k + 1=>by
  have ih0:=jobshellref23_Same.mono_l k
  ·intro y0 y1 y2
   unfold jobshellref23_Same.l0
   repeat' first
   |(with_reducible exact ih0 _ _ _)
   |(with_reducible exact LeO.refl _)
   |(with_reducible exact LeO.none _)
   |(with_reducible refine LeO.ite ?_ ?_)
   |(with_reducible refine LeO.bind ?_ (fun _=>?_))
   |exact ih0 _ _ _
   |exact LeO.none _
   |refine LeO.ite ?_ ?_
   |refine LeO.bind ?_ (fun _=>?_)
theorem jobshellref23_Same.mono:∀ a0 a1 k,LeO (jobshellref23_Same.f k a0 a1) (jobshellref23_Same.f (k + 1) a0 a1):=by
 intro a0 a1 k
 have ih0:=jobshellref23_Same.mono_l k
 unfold jobshellref23_Same.f
 repeat' first
   |(with_reducible exact ih0 _ _ _)
   |(with_reducible exact LeO.refl _)
   |(with_reducible exact LeO.none _)
   |(with_reducible refine LeO.ite ?_ ?_)
   |(with_reducible refine LeO.bind ?_ (fun _=>?_))
   |exact ih0 _ _ _
   |exact LeO.none _
   |refine LeO.ite ?_ ?_
   |refine LeO.bind ?_ (fun _=>?_)
set_option maxHeartbeats 8000000 in
set_option maxRecDepth 10000000 in
theorem jobshellref23_Same.calls (k:Nat) (A0:Option Addr) (c0:Nat) (l0:List (S36)) (A1:Option Addr) (c1:Nat) (l1:List (S36)) (r:Bool) (w:World) (hr0:Kd.C k36 w A0 l0.length l0) (hc0:l0.length≤c0) (hr1:Kd.C k36 w A1 l1.length l1) (hc1:l1.length≤c1) (h:jobshellref23_Same.f k l0 l1=some r) :
  Calls Try.prog 30 #[.slice A0 l0.length c0,.slice A1 l1.length c1] w fun e w'=>e=.returned (.bool r)∧Drawn0 w w':=by
 have hu36:=Try.underlying36
 have HR0:=Zk hr0
 have HC0:=Zk hc0
 clear hr0 hc0
 have HR1:=Zk hr1
 have HC1:=Zk hc1
 clear hr1 hc1
 have H:(if (l0.length:Int)=(l1.length:Int) then (jobshellref23_Same.l0 k l0 l1 0) else (some false))=some r:=h
 clear h
 by_cases c3:(l0.length:Int)=(l1.length:Int)
 ·rw [if_pos c3] at H
  have c3b0:((l0.length:Int) == (l1.length:Int))=true:=beq_iff_eq.mpr c3
  have c3b1:((l0.length:Int) != (l1.length:Int))=false:=bne_eq_false_iff_eq.mpr c3
  have c3b2:(l0.length == l1.length)=true:=by first|simpa using c3|(simp at c3 ⊢;omega)
  clear c3
  have H':=Zk H
  clear H
  go_enter Try.func30,Try.ntmps30
  go_wp2
  repeat (go_quiet (fail);try go_wp2)
  go_loopg [5] k (fun kq v5 w'=>∃ (x5_1:Int),v5=.int .i64 x5_1∧zR (jobshellref23_Same.l0 kq l0 l1 x5_1=some r)∧zR (kq≤k)∧Drawn0 w w')
  case atStart=>exact ⟨(0),(by first|rfl|(simp;done)|(simp [*];done)|(generalize ByteArray.toList _=l_;cases l_ <;> rfl)),H',⟨Nat.le_refl _⟩,by repeat (first|exact Drawn0.refl _|apply Drawn0.step)⟩
  case round=>
   clear H'
   try clear c1
   try clear p2
   try clear c3
   try clear c3b0
   try clear c3b1
   try clear c3b2
   obtain ⟨x5_1,rfl,HA,HK1,⟨m1,rfl⟩⟩:=hrel
   cases gk with
   |zero=>exact absurd HA.out (by simp [jobshellref23_Same.l0])
   |succ k1=>
    have H:=HA.out
    clear HA
    simp only [jobshellref23_Same.l0] at H
    by_cases c4:x5_1 < (l0.length:Int)
    ·rw [if_pos c4] at H
     have c4b0:decide (x5_1 < (l0.length:Int))=true:=decide_eq_true c4
     clear c4
     by_cases c5:0≤x5_1
     ·rw [if_pos c5] at H
      have c5b0:decide (0≤x5_1)=true:=decide_eq_true c5
      clear c5
      by_cases c6:x5_1 < (l1.length:Int)
      ·rw [if_pos c6] at H
       have c6b0:decide (x5_1 < (l1.length:Int))=true:=decide_eq_true c6
       clear c6
       by_cases c7:(!(((rd_T36 l0 x5_1).f0) == ((rd_T36 l1 x5_1).f0)) ||(!(((rd_T36 l0 x5_1).f1) == ((rd_T36 l1 x5_1).f1)) ||(!(((rd_T36 l0 x5_1).f2) == ((rd_T36 l1 x5_1).f2)))))=true
       ·rw [if_pos c7] at H
        have c7b0:(!(((rd_T36 l0 x5_1).f0) == ((rd_T36 l1 x5_1).f0)) ||(!(((rd_T36 l0 x5_1).f1) == ((rd_T36 l1 x5_1).f1)) ||(!(((rd_T36 l0 x5_1).f2) == ((rd_T36 l1 x5_1).f2)))))=true:=c7
        clear c7
        obtain rfl:=Option.some.inj H
        have p369:0≤(x5_1:Int):=of_decide_eq_true (by first|(with_reducible assumption)|assumption)
        have q369:x5_1 < (l0.length:Int):=of_decide_eq_true (by first|(with_reducible assumption)|assumption)
        obtain ⟨ad369,e369,hx369_0,hx369_1,hx369_2⟩:=at_T36 HR0.out x5_1 p369 q369
        cases e369
        replace p369:=eq_true p369
        replace q369:=eq_true q369
        have p370:0≤(x5_1:Int):=of_decide_eq_true (by first|(with_reducible assumption)|assumption)
        have q370:x5_1 < (l1.length:Int):=of_decide_eq_true (by first|(with_reducible assumption)|assumption)
        obtain ⟨ad370,e370,hx370_0,hx370_1,hx370_2⟩:=at_T36 HR1.out x5_1 p370 q370
        cases e370
        replace p370:=eq_true p370
        replace q370:=eq_true q370
        go_wp2
        repeat (go_quiet (fail);try go_wp2)
        go_ret
        exact ⟨by first|rfl|(simp;done)|(simp [*];done),by repeat (first|exact Drawn0.refl _|apply Drawn0.step)⟩
       ·rw [if_neg c7] at H
        have c7b0:(!(((rd_T36 l0 x5_1).f0) == ((rd_T36 l1 x5_1).f0)) ||(!(((rd_T36 l0 x5_1).f1) == ((rd_T36 l1 x5_1).f1)) ||(!(((rd_T36 l0 x5_1).f2) == ((rd_T36 l1 x5_1).f2)))))=false:=by simpa using c7
        clear c7
        have H':=Zk H
        clear H
        have p369:0≤(x5_1:Int):=of_decide_eq_true (by first|(with_reducible assumption)|assumption)
        have q369:x5_1 < (l0.length:Int):=of_decide_eq_true (by first|(with_reducible assumption)|assumption)
        obtain ⟨ad369,e369,hx369_0,hx369_1,hx369_2⟩:=at_T36 HR0.out x5_1 p369 q369
        cases e369
        replace p369:=eq_true p369
        replace q369:=eq_true q369
        have p370:0≤(x5_1:Int):=of_decide_eq_true (by first|(with_reducible assumption)|assumption)
        have q370:x5_1 < (l1.length:Int):=of_decide_eq_true (by first|(with_reducible assumption)|assumption)
        obtain ⟨ad370,e370,hx370_0,hx370_1,hx370_2⟩:=at_T36 HR1.out x5_1 p370 q370
        cases e370
        replace p370:=eq_true p370
        replace q370:=eq_true q370
        go_wp2
        repeat (go_quiet (fail);try go_wp2)
        go_roundg k1
        case measure=>have:=HK1.out;omega
        case rel=>exact ⟨(wrap64 (x5_1 + 1)),(by first|rfl|(simp;done)|(simp [*];done)|(generalize ByteArray.toList _=l_;cases l_ <;> rfl)),H',⟨by have:=HK1.out;omega⟩,by repeat (first|exact Drawn0.refl _|apply Drawn0.step)⟩
      ·rw [if_neg c6] at H
       exact absurd H (by simp)
     ·rw [if_neg c5] at H
      exact absurd H (by simp)
    ·rw [if_neg c4] at H
     have c4b0:decide (x5_1 < (l0.length:Int))=false:=decide_eq_false c4
     clear c4
     obtain rfl:=Option.some.inj H
     go_wp2
     repeat (go_quiet (fail);try go_wp2)
     go_ret
     exact ⟨by first|rfl|(simp;done)|(simp [*];done),by repeat (first|exact Drawn0.refl _|apply Drawn0.step)⟩
 ·rw [if_neg c3] at H
  have c3b0:((l0.length:Int) == (l1.length:Int))=false:=beq_eq_false_iff_ne.mpr c3
  have c3b1:((l0.length:Int) != (l1.length:Int))=true:=bne_iff_ne.mpr c3
  have c3b2:(l0.length == l1.length)=false:=by first|simpa using c3|(simp at c3 ⊢;omega)
  obtain rfl:=Option.some.inj H
  go_enter Try.func30,Try.ntmps30
  go_wp2
  repeat (go_quiet (fail);try go_wp2)
  go_ret
  exact ⟨by first|rfl|(simp;done)|(simp [*];done),by repeat (first|exact Drawn0.refl _|apply Drawn0.step)⟩
end Go.Proofs.Ytpljggoogodhlaa.Q
end
