/- Own texts of one claim, put one behind the other by wip/tool/pack.py: words beside the print's, what each printed function computes, and the plain laws. -/
import Derived.Test.YtpljggoogodhlaaKStA
import Derived.Lib.SliceRun
import Derived.Laws.IdiomCopy
import Derived.Deep.WholeRow
import Derived.Test.YtpljggoogodhlaaProg
import Derived.Below
import Derived.Deep.Draws
import Derived.Deep.AppendLies
import Derived.Maps.AppendAt
import Derived.OwnWalk
import Derived.Laws.BytesArg
import Derived.Laws.MakeOwn
import Derived.Laws.OwnMore
import Derived.Deep.OwnRows
import Derived.Tactics
import Derived.Lib.ConvBytes
import Derived.Laws.Slices
import Derived.WalkKit
import Derived.KernelRfl
import Derived.RowKit3
import Derived.Deep.LoopGhost
import Derived.Deep.QuietTactic
import Derived.BigQuiet
import Derived.WideLaws
import Derived.Deep.DeepCutAuto
import Derived.Deep.CutBlock
import Derived.Deep.RegionHeld3
import Derived.Laws.Rows
import Derived.Lib.AppendStr
import Derived.ArgAppend
import Derived.OrdersHeld
import Derived.Laws.BitsLemmas
import Derived.RowKit
import Derived.WalkSpells
import Derived.Deep.RegionLaw
import Derived.Shelf.Abstract
section
namespace Go.Proofs.YtpljggoogodhlaaM
open Go Go.RowKit Go.Proofs.YtpljggoogodhlaaW.PrintWords
theorem Zk {p:Prop} (h:p):zR p:=⟨h⟩
theorem zeroCells_size (z:Array Value) (n:Nat):(Builtin.zeroCells z n).toList.length=n * z.size:=by simp [Builtin.zeroCells]
theorem zeroCells_one (z:Array Value) (n:Nat) (h1:∀ u ∈ z.toList,u.oneCell'=true):∀ u ∈ (Builtin.zeroCells z n).toList,u.oneCell'=true:=by
  intro u hu
  simp only [Builtin.zeroCells,Array.toList_map,List.mem_map,Array.mem_toList_iff,Array.mem_range] at hu
  obtain ⟨i,hi,rfl⟩:=hu
  have hpos:0 < z.size:=by
    rcases Nat.eq_zero_or_pos z.size with h|h
    · rw [h] at hi;omega
    · exact h
  have hlt:i % z.size < z.size:=Nat.mod_lt _ hpos
  rw [getElem!_pos z (i % z.size) hlt]
  exact h1 _ (Array.mem_toList_iff.2 (Array.getElem_mem hlt))
theorem run_clear_k {P:Program} (w:World) (t e:TypeId) (z:Value) (ht:P.underlying t=some (.slice e)) (hv:∀ w,(zeroValue e).run P w=.ok z w) (h1:∀ u ∈ z.cells.toList,u.oneCell'=true) (b o n c:Nat) (hn:0 < n)
    (hc:∀ j,j < n * z.cells.size→(w.cell? ⟨b,o + j,none⟩).isSome=true) (hf:∀ j,j < n * z.cells.size→w.frozen? ⟨b,o + j,none⟩=false) :
    ∃ zs:List Value,zs.length=n * z.cells.size∧∀ ty,(Builtin.clear_ #[t] ty #[.slice (some ⟨b,o,none⟩) n c]).run P w=.ok (.tuple #[]) (w.setCells b o zs):=by
  refine ⟨(Builtin.zeroCells z.cells n).toList,zeroCells_size _ _,fun ty=>?_⟩
  have hst:=run_storeCells_cells (P:=P) b o (Builtin.zeroCells z.cells n).toList 0 w (by rw [zeroCells_size];simpa using hc) (by rw [zeroCells_size];simpa using hf) (zeroCells_one _ _ h1)
  simp only [Nat.add_zero] at hst
  obtain ⟨m,rfl⟩:∃ m,n=m + 1:=⟨n - 1,by omega⟩
  simp [Builtin.clear_,run_underlying ht,hv,hst]
section
variable {α:Type} (d:Kd α) {e base g m cap:Nat} {W:World} {ok:Nat→Prop} {xs:List α}
theorem R_room (h:d.R e W base ok (.slice (some ⟨g,0,none⟩) m cap) xs):(∀ j,j < cap * d.sz→(W.cell? ⟨g,j,none⟩).isSome=true)∧(∀ j,W.frozen? ⟨g,j,none⟩=false)∧g < W.heap.size∧base≤g∧xs.length=m∧m≤cap∧cap≤9223372036854775807:=by
  obtain ⟨h0,inner,⟨hl0,h2⟩,hr⟩:=h
  rcases h2 with ⟨h,_⟩|⟨g',cap',cur,hv,hb,hh,hn,hm,hcs,ht⟩
  · cases h
  · injection hv with h1 h2 h3
    injection h1 with h1
    injection h1 with h1
    subst h1 h3
    refine ⟨fun j hj=>?_,fun j=>zI hh j,zX hh,hb,h2.symm,by omega,hm⟩
    rw [zJ hh j,Array.getElem?_eq_getElem (by omega)]
    rfl
theorem R_tail (h:d.R e W base ok (.slice (some ⟨g,0,none⟩) m cap) xs) (zs:List Value) (o:Nat) (ho:m * d.sz≤o) (hl:o + zs.length≤cap * d.sz) :
    d.R e (W.setCells g o zs) base ok (.slice (some ⟨g,0,none⟩) m cap) xs∧W.grownBy (W.setCells g o zs) (some g):=by
  obtain ⟨h0,inner,⟨hl0,h2⟩,hr⟩:=h
  rcases h2 with ⟨h,_⟩|⟨g',cap',cur,hv,hb,hh,hn,hm,hcs,ht⟩
  · cases h
  · injection hv with h1 h2 h3
    injection h1 with h1
    injection h1 with h1
    subst h1 h3 h2
    obtain ⟨cur',h3,h4,h5⟩:=setCells_row zs o W cur hh (by omega)
    have hsame:=setCells_same g zs o W
    have hg:W.grownBy (W.setCells g o zs) (some g):=⟨hsame.1,hsame.2.1,hsame.2.2.1,by rw [hsame.2.2.2];exact Nat.le_refl _,fun i _ hne=>setCells_far zs o i (fun he=>hne (by rw [he]))⟩
    refine ⟨⟨h0,inner,⟨hl0,.inr ⟨g,cap,cur',rfl,hb,h3,hn,hm,by rw [h4];exact hcs,?_⟩⟩,?_⟩,hg⟩
    · rw [h5,List.append_assoc,List.take_append_of_le_length (by rw [List.length_take];exact Nat.le_min.2 ⟨ho,by have h9:cur.toList.length=cap * d.sz:=Array.length_toList.trans hcs;rw [h9];exact Nat.mul_le_mul_right _ hn⟩),List.take_take,Nat.min_eq_left ho]
      exact ht
    · exact hr.imp_ (fun p c hp=>Kd.M_grown hp hg (fun k hk he=>hk.2 (by rw [he];rfl)))
end
end Go.Proofs.YtpljggoogodhlaaM
namespace Go.Proofs.YtpljggoogodhlaaM
def idxP {α:Type} (p:α→Bool):List α→Nat→Int
  |[],_=>-1
  |x :: l,i=>if p x=true then (i:Int) else idxP p l (i + 1)
theorem idxP_hit {α:Type} (p:α→Bool) (z:α):∀ (l:List α) (i k:Nat),k < l.length→(∀ j,j < k→p (l.getD j z)=false)→p (l.getD k z)=true→idxP p l i=((i + k:Nat):Int)
  |[],_,_,h,_,_=>absurd h (by simp)
  |x :: l,i,0,_,_,h=>by
    have hx:p x=true:=h
    simp [idxP,hx]
  |x :: l,i,k + 1,hk,hj,h=>by
    have hx:p x=false:=hj 0 (by omega)
    rw [idxP,hx,if_neg (by simp),idxP_hit p z l (i + 1) k (by simpa using hk) (fun j hj'=>hj (j + 1) (by omega)) h]
    congr 1
    omega
theorem idxP_miss {α:Type} (p:α→Bool) (z:α):∀ (l:List α) (i:Nat),(∀ j,j < l.length→p (l.getD j z)=false)→idxP p l i=-1
  |[],_,_=>rfl
  |x :: l,i,h=>by
    have hx:p x=false:=h 0 (by simp)
    rw [idxP,hx,if_neg (by simp)]
    exact idxP_miss p z l (i + 1) (fun j hj=>h (j + 1) (by simpa using hj))
end Go.Proofs.YtpljggoogodhlaaM
namespace Go.Proofs.YtpljggoogodhlaaM
open Go Go.RowKit Go.Proofs.YtpljggoogodhlaaW.PrintWords
theorem C_unique {α:Type} {d:Kd α} (hu:∀ {w:World} {x y:α} {cs:List Value},d.K w x cs→d.K w y cs→x=y) {w:World} {A:Option Addr} {n:Nat} {xs ys:List α} (h1:d.C w A n xs) (h2:d.C w A n ys):xs=ys:=by
  obtain ⟨a1,_,b1⟩:=h1
  obtain ⟨a2,_,b2⟩:=h2
  refine List.ext_getElem (a1.trans a2.symm) (fun j hj1 hj2=>?_)
  obtain ⟨ad,e1,c1⟩:=b1 (by omega)
  obtain ⟨ad',e2,c2⟩:=b2 (by omega)
  have e3:ad=ad':=by rw [e1] at e2;injection e2
  subst e3
  obtain ⟨u,hu1,hu2,hu3⟩:=c1 j _ (List.getElem?_eq_getElem hj1)
  obtain ⟨v,hv1,hv2,hv3⟩:=c2 j _ (List.getElem?_eq_getElem hj2)
  have huv:u=v:=by
    refine List.ext_getElem (hu1.trans hv1.symm) (fun i hi1 hi2=>?_)
    have q1:=hu3 i _ (List.getElem?_eq_getElem hi1)
    have q2:=hv3 i _ (List.getElem?_eq_getElem hi2)
    rw [q1] at q2
    injection q2
  subst huv
  exact hu hu2 hv2
end Go.Proofs.YtpljggoogodhlaaM
namespace Go.Proofs.YtpljggoogodhlaaM
open Go Go.RowKit Go.Proofs.YtpljggoogodhlaaW.PrintWords
section
variable {P:Program} {ops:Array Oper} {rest:List Oper} {o o2:Oper} {a:Act} {Q:Exit→Act→World→Prop}
theorem box2_event {W:World} (t:TypeId) (hgd:o.guard=none) (hgd2:o2.guard=none) {N:Tmp} (_hd:o.dst=some N) (hd2:o2.dst=none) (v2:Operand) (ho2:o2.op=.store t (.tmp N) v2) {cs0 cs:Array Value}
    (hrun:(execOp a.eval o).run P W=.ok (.value (.pointer (some ⟨W.heap.size,0,none⟩))) (W.alloc (.cells cs0 t (0,0))))
    (hi:(P.info? t).map (·.size)=some cs.size) (hs:cs0.size=cs.size) (h1:cs.toList.all (·.oneCell')=true)
    (hp:∀ v,(a.put o.dst v).eval (.tmp N)=v) (hv:∀ v,(a.put o.dst v).eval v2=.agg cs)
    (h:∀ g,g=W.heap.size→∀ w1,w1.heap[g]?=some (.cells cs t (0,0))→Below W.heap.size W w1→wpList P ops Q rest (a.put o.dst (.pointer (some ⟨g,0,none⟩))) w1):wpList P ops Q (o :: o2 :: rest) a W:=by
  refine Kd.event_run hgd hrun (store_event (w1:=W.alloc (.cells cs t (0,0))) hgd2 ho2 hd2 ?_ (fun w' hw=>?_))
  · have hst:=run_storeAt_new (P:=P) W t cs0 cs hi hs (by rw [← Array.all_toList];exact h1)
    simp only [execOp,ho2,hp,hv,Sem.run_bind,hst,Result.andThen_ok,Sem.run_pure]
  · subst hw
    exact h _ rfl _ (blk_new W _) (zG (Below.refl _ _) _)
end
end Go.Proofs.YtpljggoogodhlaaM
namespace Go.Proofs.YtpljggoogodhlaaM
open Go
end Go.Proofs.YtpljggoogodhlaaM
namespace Go.Proofs.YtpljggoogodhlaaM
open Go Go.RowKit Go.Proofs.YtpljggoogodhlaaW.PrintWords
end Go.Proofs.YtpljggoogodhlaaM

end
section

namespace Go.Proofs.Ytpljggoogodhlaa.Q
open Go.RowKit Go.Proofs.YtpljggoogodhlaaW.PrintWords Go.Proofs.YtpljggoogodhlaaW.PrintLast Go.Proofs.YtpljggoogodhlaaW.PrintMore Go.Proofs.YtpljggoogodhlaaM
open Kd
attribute [local go_sem] max2_int min2_int max_two min_two max_three min_three max_four min_four
set_option linter.unusedVariables false
set_option linter.unusedSimpArgs false
def errW:Option Int→Value
 |none=>.nilIface
 |some c=>.iface 0 (.int .i64 c)
theorem errW_none:errW none=.nilIface:=rfl
theorem errW_some (c:Int):errW (some c)=.iface 0 (.int .i64 c):=rfl
theorem info3:(Try.prog.info? 3).map (fun i=>(i.zero,i.size,i.bytes))=some (some (.int .i64 0),1,8):=by kernel_rfl
theorem info24:(Try.prog.info? 24).map (fun i=>(i.zero,i.size,i.bytes))=some (some (.agg #[(.int .i64 0),(.int .i64 0),(.int .i64 0),(.int .i64 0),(.int .i64 0),(.string ⟨#[]⟩)]),6,56):=by kernel_rfl
theorem info36:(Try.prog.info? 36).map (fun i=>(i.zero,i.size,i.bytes))=some (some (.agg #[(.int .i64 0),(.int .i64 0),(.bool false)]),3,24):=by kernel_rfl
structure S36 where
 f0:Int
 f1:Int
 f2:Bool
def z36:S36:=⟨(0:Int),(0:Int),false⟩
def k36:Kd S36:=Kd.iso (Kd.pair (Kd.int .i64) (Kd.pair (Kd.int .i64) Kd.bool)) (fun x:S36=>(x.f0,x.f1,x.f2))
theorem k36_heap:Kd.Heap k36:=Kd.heap_iso _ (Kd.heap_pair (Kd.heap_int .i64) (Kd.heap_pair (Kd.heap_int .i64) Kd.heap_bool))
theorem k36_open {w:World} {x:S36} {cs:List Value} (h:k36.K w x cs):cs=[.int .i64 x.f0,.int .i64 x.f1,.bool x.f2]:=by
 obtain ⟨_,_,rfl,rfl,⟨_,_,rfl,rfl,rfl⟩⟩:=h
 exact rfl
theorem k36_openM {w:World} {base:Nat} {ok:Nat→Prop} {x:S36} {cs:List Value} (h:k36.M w base ok x cs):cs=[.int .i64 x.f0,.int .i64 x.f1,.bool x.f2]:=by
 obtain ⟨_,_,rfl,rfl,⟨_,_,rfl,rfl,rfl⟩⟩:=h
 exact rfl
theorem k36_mk (w:World) (x:S36)  : k36.K w x [.int .i64 x.f0,.int .i64 x.f1,.bool x.f2]:=⟨[.int .i64 x.f0],[.int .i64 x.f1,.bool x.f2],rfl,rfl,⟨[.int .i64 x.f1],[.bool x.f2],rfl,rfl,rfl⟩⟩
theorem k36_mkM (w:World) (base:Nat) (ok:Nat→Prop) (x:S36)  : k36.M w base ok x [.int .i64 x.f0,.int .i64 x.f1,.bool x.f2]:=⟨[.int .i64 x.f0],[.int .i64 x.f1,.bool x.f2],rfl,rfl,⟨[.int .i64 x.f1],[.bool x.f2],rfl,rfl,rfl⟩⟩
theorem k36_mkF (W:World) (ok:Nat→Prop) (x:S36):Kd.FK k36 W ok x [.int .i64 x.f0,.int .i64 x.f1,.bool x.f2]:=fun W2 _=>k36_mk W2 x
def rd_T36 (xs:List S36) (i:Int):S36:=xs.getD i.toNat z36
theorem at_T36 {w:World} {A:Option Addr} {n:Nat} {xs:List S36} (h:Kd.C k36 w A n xs) (i:Int) (h0:0≤i) (h1:i < n):∃ ad,A=some ad∧w.cell? (ad.add (i.toNat * 3))=some (.int .i64 (rd_T36 xs i).f0)∧w.cell? ⟨(ad.add (i.toNat * 3)).block,(ad.add (i.toNat * 3)).off + 1,none⟩=some (.int .i64 (rd_T36 xs i).f1)∧w.cell? ⟨(ad.add (i.toNat * 3)).block,(ad.add (i.toNat * 3)).off + 2,none⟩=some (.bool (rd_T36 xs i).f2):=by
 obtain ⟨ad,c,e,_,hK,hc0⟩:=C_get h z36 i h0 h1
 have hc:∀ j u,c[j]?=some u→w.cell? (ad.add (i.toNat * 3 + j))=some u:=hc0
 obtain rfl:=k36_open hK
 exact ⟨ad,e,hc 0 _ rfl,by rw [← add_field _ _ 1 (by omega)];exact hc 1 _ rfl,by rw [← add_field _ _ 2 (by omega)];exact hc 2 _ rfl⟩
structure S24 where
 f0:Int
 f1:Int
 f2:Int
 f3:Int
 f4:Int
 f5:ByteArray
def z24:S24:=⟨(0:Int),(0:Int),(0:Int),(0:Int),(0:Int),(⟨#[]⟩:ByteArray)⟩
def k24:Kd S24:=Kd.iso (Kd.pair (Kd.int .i64) (Kd.pair (Kd.int .i64) (Kd.pair (Kd.int .i64) (Kd.pair (Kd.int .i64) (Kd.pair (Kd.int .i64) Kd.string))))) (fun x:S24=>(x.f0,x.f1,x.f2,x.f3,x.f4,x.f5))
theorem k24_heap:Kd.Heap k24:=Kd.heap_iso _ (Kd.heap_pair (Kd.heap_int .i64) (Kd.heap_pair (Kd.heap_int .i64) (Kd.heap_pair (Kd.heap_int .i64) (Kd.heap_pair (Kd.heap_int .i64) (Kd.heap_pair (Kd.heap_int .i64) Kd.heap_string)))))
theorem k24_open {w:World} {x:S24} {cs:List Value} (h:k24.K w x cs):cs=[.int .i64 x.f0,.int .i64 x.f1,.int .i64 x.f2,.int .i64 x.f3,.int .i64 x.f4,.string x.f5]:=by
 obtain ⟨_,_,rfl,rfl,⟨_,_,rfl,rfl,⟨_,_,rfl,rfl,⟨_,_,rfl,rfl,⟨_,_,rfl,rfl,rfl⟩⟩⟩⟩⟩:=h
 exact rfl
theorem k24_openM {w:World} {base:Nat} {ok:Nat→Prop} {x:S24} {cs:List Value} (h:k24.M w base ok x cs):cs=[.int .i64 x.f0,.int .i64 x.f1,.int .i64 x.f2,.int .i64 x.f3,.int .i64 x.f4,.string x.f5]:=by
 obtain ⟨_,_,rfl,rfl,⟨_,_,rfl,rfl,⟨_,_,rfl,rfl,⟨_,_,rfl,rfl,⟨_,_,rfl,rfl,rfl⟩⟩⟩⟩⟩:=h
 exact rfl
theorem k24_mk (w:World) (x:S24)  : k24.K w x [.int .i64 x.f0,.int .i64 x.f1,.int .i64 x.f2,.int .i64 x.f3,.int .i64 x.f4,.string x.f5]:=⟨[.int .i64 x.f0],[.int .i64 x.f1,.int .i64 x.f2,.int .i64 x.f3,.int .i64 x.f4,.string x.f5],rfl,rfl,⟨[.int .i64 x.f1],[.int .i64 x.f2,.int .i64 x.f3,.int .i64 x.f4,.string x.f5],rfl,rfl,⟨[.int .i64 x.f2],[.int .i64 x.f3,.int .i64 x.f4,.string x.f5],rfl,rfl,⟨[.int .i64 x.f3],[.int .i64 x.f4,.string x.f5],rfl,rfl,⟨[.int .i64 x.f4],[.string x.f5],rfl,rfl,rfl⟩⟩⟩⟩⟩
theorem k24_mkM (w:World) (base:Nat) (ok:Nat→Prop) (x:S24)  : k24.M w base ok x [.int .i64 x.f0,.int .i64 x.f1,.int .i64 x.f2,.int .i64 x.f3,.int .i64 x.f4,.string x.f5]:=⟨[.int .i64 x.f0],[.int .i64 x.f1,.int .i64 x.f2,.int .i64 x.f3,.int .i64 x.f4,.string x.f5],rfl,rfl,⟨[.int .i64 x.f1],[.int .i64 x.f2,.int .i64 x.f3,.int .i64 x.f4,.string x.f5],rfl,rfl,⟨[.int .i64 x.f2],[.int .i64 x.f3,.int .i64 x.f4,.string x.f5],rfl,rfl,⟨[.int .i64 x.f3],[.int .i64 x.f4,.string x.f5],rfl,rfl,⟨[.int .i64 x.f4],[.string x.f5],rfl,rfl,rfl⟩⟩⟩⟩⟩
theorem k24_mkF (W:World) (ok:Nat→Prop) (x:S24):Kd.FK k24 W ok x [.int .i64 x.f0,.int .i64 x.f1,.int .i64 x.f2,.int .i64 x.f3,.int .i64 x.f4,.string x.f5]:=fun W2 _=>k24_mk W2 x
def rd_T24 (xs:List S24) (i:Int):S24:=xs.getD i.toNat z24
theorem at_T24 {w:World} {A:Option Addr} {n:Nat} {xs:List S24} (h:Kd.C k24 w A n xs) (i:Int) (h0:0≤i) (h1:i < n):∃ ad,A=some ad∧w.cell? (ad.add (i.toNat * 6))=some (.int .i64 (rd_T24 xs i).f0)∧w.cell? ⟨(ad.add (i.toNat * 6)).block,(ad.add (i.toNat * 6)).off + 1,none⟩=some (.int .i64 (rd_T24 xs i).f1)∧w.cell? ⟨(ad.add (i.toNat * 6)).block,(ad.add (i.toNat * 6)).off + 2,none⟩=some (.int .i64 (rd_T24 xs i).f2)∧w.cell? ⟨(ad.add (i.toNat * 6)).block,(ad.add (i.toNat * 6)).off + 3,none⟩=some (.int .i64 (rd_T24 xs i).f3)∧w.cell? ⟨(ad.add (i.toNat * 6)).block,(ad.add (i.toNat * 6)).off + 4,none⟩=some (.int .i64 (rd_T24 xs i).f4)∧w.cell? ⟨(ad.add (i.toNat * 6)).block,(ad.add (i.toNat * 6)).off + 5,none⟩=some (.string (rd_T24 xs i).f5):=by
 obtain ⟨ad,c,e,_,hK,hc0⟩:=C_get h z24 i h0 h1
 have hc:∀ j u,c[j]?=some u→w.cell? (ad.add (i.toNat * 6 + j))=some u:=hc0
 obtain rfl:=k24_open hK
 exact ⟨ad,e,hc 0 _ rfl,by rw [← add_field _ _ 1 (by omega)];exact hc 1 _ rfl,by rw [← add_field _ _ 2 (by omega)];exact hc 2 _ rfl,by rw [← add_field _ _ 3 (by omega)];exact hc 3 _ rfl,by rw [← add_field _ _ 4 (by omega)];exact hc 4 _ rfl,by rw [← add_field _ _ 5 (by omega)];exact hc 5 _ rfl⟩
end Go.Proofs.Ytpljggoogodhlaa.Q
end
section

namespace Go.Proofs.Ytpljggoogodhlaa.Q
open Go.RowKit Go.Proofs.YtpljggoogodhlaaW.PrintWords Go.Proofs.YtpljggoogodhlaaW.PrintLast Go.Proofs.YtpljggoogodhlaaW.PrintMore Go.Proofs.YtpljggoogodhlaaM
open Kd
attribute [local go_sem] max2_int min2_int max_two min_two max_three min_three max_four min_four
set_option linter.unusedVariables false
set_option linter.unusedSimpArgs false
theorem eqA36 (d:Nat) (w:World) (x0 y0:Int) (x1 y1:Int) (x2 y2:Bool) :
  (Op.equalIn (d + 2) 36 (.agg #[.int .i64 x0,.int .i64 x1,.bool x2]) (.agg #[.int .i64 y0,.int .i64 y1,.bool y2])).run Try.prog w=.ok (x0 == y0 && (x1 == y1 && (x2 == y2))) w:=by
 refine eqA_of Try.underlying36 (by kernel_rfl) ?_
 refine eqf_cons (by rfl) (by go_simp;rfl) (by go_simp;rfl) (by go_simp) ?_
 refine eqf_cons (by rfl) (by go_simp;rfl) (by go_simp;rfl) (by go_simp) ?_
 exact eqf_last (by rfl) (by go_simp;rfl) (by go_simp;rfl) (by go_simp)
end Go.Proofs.Ytpljggoogodhlaa.Q
end
section

namespace Go.Proofs.Ytpljggoogodhlaa.Q
open Go.RowKit Go.Proofs.YtpljggoogodhlaaW.PrintWords Go.Proofs.YtpljggoogodhlaaW.PrintLast Go.Proofs.YtpljggoogodhlaaW.PrintMore Go.Proofs.YtpljggoogodhlaaM
open Kd
attribute [local go_sem] max2_int min2_int max_two min_two max_three min_three max_four min_four
set_option linter.unusedVariables false
set_option linter.unusedSimpArgs false
def jobshelllaw23_short.f (l0:List (S36)) (l1:List (S24)):Option (Bool):=if (l0.length:Int)≤60 then (some (decide ((l1.length:Int)≤140))) else (some false)
set_option maxHeartbeats 8000000 in
set_option maxRecDepth 10000000 in
theorem jobshelllaw23_short.calls (A0:Option Addr) (c0:Nat) (l0:List (S36)) (A1:Option Addr) (c1:Nat) (l1:List (S24)) (r:Bool) (w:World) (hr0:Kd.C k36 w A0 l0.length l0) (hc0:l0.length≤c0) (hr1:Kd.C k24 w A1 l1.length l1) (hc1:l1.length≤c1) (h:jobshelllaw23_short.f l0 l1=some r) :
  Calls Try.prog 9 #[.slice A0 l0.length c0,.slice A1 l1.length c1] w fun e w'=>e=.returned (.bool r)∧Drawn0 w w':=by
 have HR0:=Zk hr0
 have HC0:=Zk hc0
 clear hr0 hc0
 have HR1:=Zk hr1
 have HC1:=Zk hc1
 clear hr1 hc1
 have H:(if (l0.length:Int)≤60 then (some (decide ((l1.length:Int)≤140))) else (some false))=some r:=h
 clear h
 by_cases c3:(l0.length:Int)≤60
 ·rw [if_pos c3] at H
  have c3b0:decide ((l0.length:Int)≤60)=true:=decide_eq_true c3
  have c3b1:decide (l0.length≤60)=true:=decide_eq_true (by omega)
  clear c3
  obtain rfl:=Option.some.inj H
  go_enter Try.func9,Try.ntmps9
  go_wp2
  go_ret
  exact ⟨by first|rfl|(simp;done)|(simp [*];done),by repeat (first|exact Drawn0.refl _|apply Drawn0.step)⟩
 ·rw [if_neg c3] at H
  have c3b0:decide ((l0.length:Int)≤60)=false:=decide_eq_false c3
  have c3b1:decide (l0.length≤60)=false:=decide_eq_false (by omega)
  clear c3
  obtain rfl:=Option.some.inj H
  go_enter Try.func9,Try.ntmps9
  go_wp2
  go_ret
  exact ⟨by first|rfl|(simp;done)|(simp [*];done),by repeat (first|exact Drawn0.refl _|apply Drawn0.step)⟩
def api_Desc.f (l0:List S24):Option (List S24):=if l0.length < 2513169434916 then some l0 else none
set_option maxHeartbeats 8000000 in
set_option maxRecDepth 100000 in
theorem api_Desc.calls (A0:Option Addr) (c0:Nat) (l0:List S24) (r:List S24) (w:World) (hr0:Kd.C k24 w A0 l0.length l0) (hc0:l0.length≤c0) (h:api_Desc.f l0=some r) :
  Calls Try.prog 32 #[.slice A0 l0.length c0] w fun e w'=>∃ v0_:Value,e=.returned (v0_)∧Kd.R k24 24 w' w.heap.size (fun _=>True) v0_ r∧Below w.heap.size w w':=by
 unfold api_Desc.f at h
 by_cases c2:l0.length < 2513169434916
 ·rw [if_pos c2] at h
  obtain rfl:=Option.some.inj h
  clear h
  cases A0 with
  |none=>
   have hl:l0=[]:=by
    rcases l0 with _|⟨x,xs⟩
    ·rfl
    ·obtain ⟨ad,h1,_⟩:=hr0.2.2 (by simp)
     cases h1
   subst hl
   clear hr0 c2
   have heq:∀ W:World,(binOp .eql 22 (.slice none 0 c0) (.slice none 0 0)).run Try.prog W=.ok (.bool true) W:=fun W=>Lib.run_eql_slice_nil W 22 24 none _ _ _ _ Try.underlying22
   go_enter Try.func32,Try.ntmps32
   go_wp2
   go_ret
   exact ⟨_,rfl,R_nil _ _ _ _ _,Below.refl _ _⟩
  |some ad=>
   have HR0:=Zk hr0
   have HC0:=Zk hc0
   have LMc2:=Zk c2
   clear hr0 hc0 c2
   have HB:=Zk (Below.refl w.heap.size w)
   have heq:∀ W:World,(binOp .eql 22 (.slice (some ad) l0.length c0) (.slice none 0 0)).run Try.prog W=.ok (.bool false) W:=fun W=>Lib.run_eql_slice_nil W 22 24 (some ad) _ _ _ _ Try.underlying22
   go_enter Try.func32,Try.ntmps32
   go_wp2_with (first|((with_reducible refine yE (N:=5) rfl ?_);refine R_lit k24 _ 24 ?hg (N:=5) ?hd (xs:=([]:List S24)) (inner:=[]) (ok:=fun _=>True) (okp:=fun _=>True) ?hr ?hp (fun _ hk=>hk) trivial (Below.refl _ _) (Nat.le_refl _) (by simp) ?_;(case hd=>rfl);(case hg=>rfl);(case hr=>first|(go_simp;done)|(go_simp;rfl));(case hp=>exact (Reps.none _ _));intro v111 w3 ho4 hb hg_ hnew_;clear hg_ hnew_;have n0_:=Zk (R_lower ho4 (zM (by repeat (first|(with_reducible first|exact HB.out|apply zG|apply zC|apply zH)|exact HB.out))));have n1_:=Zk (zL (by repeat (first|(with_reducible first|exact HB.out|apply zG|apply zC|apply zH)|exact HB.out)) hb);clear HB;have HO112:=n0_;have HB:=n1_;clear n0_ n1_;clear hb ho4)|((with_reducible refine gate_builtin (b:=.append) (xs:=#[.tmp 5,.tmp 6]) rfl ?_);at_builtin;refine R_append_rows k24 (w0:=w) w.heap.size rfl (.tmp 5) (.tmp 6) 22 24 (.agg #[(.int .i64 0),(.int .i64 0),(.int .i64 0),(.int .i64 0),(.int .i64 0),(.string ⟨#[]⟩)]) 56 rfl Try.underlying22 info24 rfl (by decide) (by omega) v111 [] l0 _ _ _ (fun _=>True) (fun _=>False) rfl rfl ?aO ?aR (fun _ _ h=>h) (fun _ h=>h.elim) ?aF ?aB ?aS ?aL ?_;(case aR=>repeat (first|exact (C_below HR0.out HB.out)|(with_reducible refine yC ?_ _)|(with_reducible refine yD ?_ _)|(with_reducible refine C_drew ?_)));(case aB=>exact (by repeat (first|(with_reducible first|exact HB.out|apply zG|apply zC|apply zH)|exact HB.out)));(case aF=>exact (fun _ _=>trivial));(case aO=>exact (by (with_reducible repeat (first|apply yA|apply zZ|apply yB));exact HO112.out));(case aS=>exact (zM (by repeat (first|(with_reducible first|exact HB.out|apply zG|apply zC|apply zH)|exact HB.out))));(case aL=>have:=LMc2.out;simp only [List.length_nil];omega);intro v114 w5 ho hb hg hat;rw [List.nil_append] at ho;have n0_:=Zk (hb);have n1_:=Zk (ho);clear HB;clear HO112;have HB:=n0_;have HO115:=n1_;clear n0_ n1_;clear ho hb hg hat))
   go_ret
   exact ⟨_,by first|rfl|(simp [errW_none,errW_some] <;> rfl)|(simp [*,errW_none,errW_some] <;> rfl),by (with_reducible repeat (first|apply yA|apply zZ|apply yB));exact HO115.out,(by repeat (first|(with_reducible first|exact HB.out|apply zG|apply zC|apply zH)|exact HB.out))⟩
 ·rw [if_neg c2] at h
  exact absurd h (by simp)
end Go.Proofs.Ytpljggoogodhlaa.Q
end
section

namespace Go.Proofs.Ytpljggoogodhlaa.Q
open Go.RowKit Go.Proofs.YtpljggoogodhlaaW.PrintWords Go.Proofs.YtpljggoogodhlaaW.PrintLast Go.Proofs.YtpljggoogodhlaaW.PrintMore Go.Proofs.YtpljggoogodhlaaM
open Kd
attribute [local go_sem] max2_int min2_int max_two min_two max_three min_three max_four min_four
set_option linter.unusedVariables false
set_option linter.unusedSimpArgs false
set_option maxHeartbeats 1000000 in
set_option maxRecDepth 100000 in
theorem fdtab_index.any (g:Nat) (lb:Array Value) (eg:∀ args (w:World),(callFunc g args).run Try.prog w=.ok (.enter g args) w) (p:S36→Bool) (A0:Option Addr) (c0:Nat) (l0:List S36) (w:World) (hr0:Kd.C k36 w A0 l0.length l0) (hc0:l0.length≤c0)
  (hp:∀ (W:World) (x:S36),Below w.heap.size w W→Calls Try.prog g (#[.agg #[.int .i64 x.f0,.int .i64 x.f1,.bool x.f2]] ++ lb) W fun e w'=>e=.returned (.bool (p x))∧Below W.heap.size W w') :
  Calls Try.prog 43 #[.slice A0 l0.length c0,.func (.func g) #[] lb] w fun e w'=>e=.returned (.int .i64 (idxP p l0 0))∧Below w.heap.size w w':=by
 obtain ⟨n,hn⟩:∃ n,n=l0.length:=⟨_,rfl⟩
 have hu36:=Try.underlying36
 have hmax:n≤9223372036854775807:=by have:=hr0.2.1;omega
 have hA:0 < n→∃ ad,A0=some ad:=fun h=>by obtain ⟨ad,h1,_⟩:=hr0.2.2 (by omega);exact ⟨ad,h1⟩
 rw [← hn] at hr0 ⊢
 have HN:=Zk hn
 have HP:=Zk hp
 have HR:=Zk hr0
 clear hp hr0 hn hc0
 by_cases h0:0 < n
 ·obtain ⟨ad,rfl⟩:=hA h0
  clear hA h0
  go_enter Try.func43,Try.ntmps43
  go_wp2
  go_loopg [5,8] n (fun gg _ s8 wr=>∃ kk:Nat,kk≤n∧n - kk≤gg∧s8=.int .i64 kk∧zR (Below w.heap.size w wr)∧zR (∀ j,j < kk→p (l0.getD j z36)=false))
  case atStart=>exact ⟨0,Nat.zero_le _,by omega,rfl,⟨Below.refl _ w⟩,⟨fun j hj=>absurd hj (Nat.not_lt_zero _)⟩⟩
  case round=>
   obtain ⟨kk,hkk,hg,rfl,BW,A⟩:=hrel
   by_cases hlt:kk < n
   ·have hltz:(kk:Int) < (n:Int):=by omega
    obtain ⟨ad',e',x0,x1,x2⟩:=at_T36 (C_below HR.out BW.out) (kk:Int) (by omega) hltz
    injection e' with e'
    subst e'
    rw [Int.toNat_natCast] at x0 x1 x2
    have hcall:=HP.out wr (rd_T36 l0 (kk:Int)) BW.out
    have hy:rd_T36 l0 (kk:Int)=l0.getD kk z36:=rfl
    rw [hy] at hcall x0 x1 x2
    generalize hy2:l0.getD kk z36=y at hcall x0 x1 x2
    have B:=Zk hy2
    clear hy2 hy
    cases hq:p y with
    |true=>
     have HQ:=Zk hq
     rw [hq] at hcall
     clear hq
     go_wp2_with ((with_reducible refine hcall.mono ?_);rintro e w' ⟨rfl,hb'⟩)
     go_ret
     refine ⟨?_,zL BW.out hb'⟩
     rw [idxP_hit p z36 l0 0 kk (by have:=HN.out;omega) A.out (by rw [B.out];exact HQ.out),Nat.zero_add]
     rfl
    |false=>
     have HQ:=Zk hq
     rw [hq] at hcall
     clear hq
     go_wp2_with ((with_reducible refine hcall.mono ?_);rintro e w' ⟨rfl,hb'⟩)
     go_roundg (n - (kk + 1))
     case measure=>omega
     case rel=>
      refine ⟨kk + 1,by omega,by omega,by go_num,⟨zL BW.out hb'⟩,⟨fun j hj=>?_⟩⟩
      by_cases e:j=kk
      ·subst e
       rw [B.out];exact HQ.out
      ·exact A.out j (by omega)
   ·have hltz:¬ (kk:Int) < (n:Int):=by omega
    have:kk=n:=by omega
    subst this
    go_wp2
    go_ret
    refine ⟨?_,BW.out⟩
    rw [idxP_miss p z36 l0 0 (by rw [← HN.out];exact A.out)]
    rfl
 ·have hz:n=0:=by omega
  subst hz
  have hl:l0=[]:=List.eq_nil_of_length_eq_zero HN.out.symm
  subst hl
  clear hA h0
  go_enter Try.func43,Try.ntmps43
  go_wp2
  go_loopg [5,8] 0 (fun gg _ s8 wr=>s8=.int .i64 0∧zR (w=wr))
  case atStart=>exact ⟨rfl,⟨rfl⟩⟩
  case round=>
   obtain ⟨rfl,hw⟩:=hrel
   obtain rfl:=hw.out
   go_wp2
   go_ret
   exact ⟨rfl,Below.refl _ _⟩
set_option maxHeartbeats 1000000 in
theorem fdtab_index.cl (B:Nat) (n:Int) (W:World) (x:S36) (hc:W.cell? ⟨B,0,none⟩=some (.int .i64 n)) :
  Calls Try.prog 44 #[.agg #[.int .i64 x.f0,.int .i64 x.f1,.bool x.f2],.pointer (some ⟨B,0,none⟩)] W fun e w'=>e=.returned (.bool (x.f0 == n))∧Below W.heap.size W w':=by
 have hu36:=Try.underlying36
 have hB:B < W.heap.size:=World.block_lt_of_cell? W _ hc
 have hne:¬ (W.heap.size=B):=by omega
 go_enter Try.func44,Try.ntmps44
 go_wp2
 go_ret
 exact ⟨by rfl,(Below.refl _ _).alloc (Nat.le_refl _) _⟩
def fdtab_index.f (l0:List S36) (a1:Int):Option (Int):=some (idxP (fun x=>x.f0 == a1) l0 0)
theorem fdtab_index.calls (A0:Option Addr) (c0:Nat) (l0:List S36) (a1:Int) (r:Int) (w:World) (hr0:Kd.C k36 w A0 l0.length l0) (hc0:l0.length≤c0) (h:fdtab_index.f l0 a1=some r) :
  Calls Try.prog 34 #[.slice A0 l0.length c0,.int .i64 a1] w fun e w'=>e=.returned (.int .i64 r)∧Below w.heap.size w w':=by
 obtain rfl:=Option.some.inj h
 clear h
 have HR:=Zk hr0
 have HC:=Zk hc0
 clear hr0 hc0
 have eg:∀ args (w:World),(callFunc 44 args).run Try.prog w=.ok (.enter 44 args) w:=Go.Proofs.enters_of Try.func44 (by kernel_rfl) rfl
 go_enter Try.func34,Try.ntmps34
 go_wp2_with (go_at_call 43;refine (fdtab_index.any 44 #[.pointer (some ⟨w.heap.size,0,none⟩)] eg (fun x=>x.f0 == a1) A0 c0 l0 _ (yC HR.out _) HC.out (fun W x hW=>fdtab_index.cl _ _ _ _ ((hW.cell (p:=⟨w.heap.size,0,none⟩) (by simp)).trans (by simp)))).mono ?_;rintro e w' ⟨rfl,hb⟩)
 go_ret
 exact ⟨rfl,zL (zG (Below.refl _ _) _) hb⟩
def fdtab_Free.l0:Nat→List (S36)→Int→Option (Int × Bool)
 |0,_,_=>none
 |k + 1,x0,x6=>if x6 < 32 then ((fdtab_index.f x0 x6).bind fun t122=>(if t122 < 0 then (some (x6,true)) else (fdtab_Free.l0 k x0 (wrap64 (x6 + 1))))) else (some (0,false))
def fdtab_Free.f (k:Nat) (l0:List (S36)) (a1:Int):Option (Int × Bool):=fdtab_Free.l0 k l0 (mx a1 0)
theorem fdtab_Free.mono_l:∀ k,(∀ y0 y1,LeO (fdtab_Free.l0 k y0 y1) (fdtab_Free.l0 (k + 1) y0 y1))
 |0=>fun _ _ r h=>by simp [fdtab_Free.l0] at h
 |k + 1=>by
  have ih0:=fdtab_Free.mono_l k
  ·intro y0 y1
   unfold fdtab_Free.l0
   repeat' first
   |(with_reducible exact ih0 _ _)
   |(with_reducible exact LeO.refl _)
   |(with_reducible exact LeO.none _)
   |(with_reducible refine LeO.ite ?_ ?_)
   |(with_reducible refine LeO.bind ?_ (fun _=>?_))
   |exact ih0 _ _
   |exact LeO.none _
   |refine LeO.ite ?_ ?_
   |refine LeO.bind ?_ (fun _=>?_)
theorem fdtab_Free.mono:∀ a0 a1 k,LeO (fdtab_Free.f k a0 a1) (fdtab_Free.f (k + 1) a0 a1):=by
 intro a0 a1 k
 have ih0:=fdtab_Free.mono_l k
 unfold fdtab_Free.f
 repeat' first
   |(with_reducible exact ih0 _ _)
   |(with_reducible exact LeO.refl _)
   |(with_reducible exact LeO.none _)
   |(with_reducible refine LeO.ite ?_ ?_)
   |(with_reducible refine LeO.bind ?_ (fun _=>?_))
   |exact ih0 _ _
   |exact LeO.none _
   |refine LeO.ite ?_ ?_
   |refine LeO.bind ?_ (fun _=>?_)
set_option maxHeartbeats 8000000 in
set_option maxRecDepth 10000000 in
theorem fdtab_Free.calls (k:Nat) (A0:Option Addr) (c0:Nat) (l0:List (S36)) (a1:Int) (r1:Int) (r2:Bool) (w:World) (hr0:Kd.C k36 w A0 l0.length l0) (hc0:l0.length≤c0) (h:fdtab_Free.f k l0 a1=some (r1,r2)) :
  Calls Try.prog 16 #[.slice A0 l0.length c0,.int .i64 a1] w fun e w'=>e=.returned (.tuple #[.int .i64 r1,.bool r2])∧Below w.heap.size w w':=by
 have HR0:=Zk hr0
 have HC0:=Zk hc0
 clear hr0 hc0
 have HB:=Zk (Below.refl w.heap.size w)
 have H:(fdtab_Free.l0 k l0 (mx a1 0))=some (r1,r2):=h
 clear h
 obtain ⟨ji3,hji3⟩:∃ j_:Int,(mx a1 0)=j_:=⟨_,rfl⟩
 replace H:(fdtab_Free.l0 k l0 ji3)=some (r1,r2):=by first|(rw [hji3] at H;exact H)|(simp only [hji3] at H ⊢;exact H)
 (try (have hji3l:0≤ji3:=by (rw [← hji3];unfold mx;(repeat' split) <;> omega)))
 (try (have hji3m:0≤ji3:=by omega))
 have hji3_:(if a1 < 0 then 0 else a1)=ji3:=hji3
 have H':=Zk H
 clear H
 go_enter Try.func16,Try.ntmps16
 go_wp2
 go_loopg [6] k (fun kq v6 w'=>∃ (x6_1:Int),v6=.int .i64 x6_1∧zR (fdtab_Free.l0 kq l0 x6_1=some (r1,r2))∧zR (kq≤k)∧zR (Below w.heap.size w w'))
 case atStart=>exact ⟨(ji3),(by first|rfl|(simp;done)|(simp only [← hji3] <;> (first|rfl|simp))|(simp [*];done)|(generalize ByteArray.toList _=l_;cases l_ <;> rfl)),H',⟨Nat.le_refl _⟩,⟨by repeat (first|(with_reducible first|exact HB.out|apply zG|apply zC|apply zH)|exact HB.out)⟩⟩
 case round=>
  clear H'
  try clear c1
  try clear p2
  obtain ⟨x6_1,rfl,HA,HK1,HB⟩:=hrel
  cases gk with
  |zero=>exact absurd HA.out (by simp [fdtab_Free.l0])
  |succ k1=>
   have H:=HA.out
   clear HA
   simp only [fdtab_Free.l0] at H
   by_cases c4:x6_1 < 32
   ·rw [if_pos c4] at H
    have c4b0:decide (x6_1 < 32)=true:=decide_eq_true c4
    clear c4
    replace H:=Option.bind_eq_some_iff.mp H
    obtain ⟨t122,A50,H⟩:=H
    replace H:(if t122 < 0 then (some (x6_1,true)) else (fdtab_Free.l0 k1 l0 (wrap64 (x6_1 + 1))))=some (r1,r2):=H
    have A5:=Zk A50
    clear A50
    by_cases c6:t122 < 0
    ·rw [if_pos c6] at H
     have c6b0:decide (t122 < 0)=true:=decide_eq_true c6
     clear c6
     simp only [Option.some.injEq,Prod.mk.injEq] at H
     obtain ⟨rfl,rfl⟩:=H
     go_wp2_with (first|((with_reducible refine zW (f:=34) rfl ?_);refine yF (some 15) rfl rfl Try.func34 (by kernel_rfl) rfl #[.slice A0 l0.length c0,.int .i64 x6_1] rfl (by (try simp only [List.map_toArray,List.map_cons,List.map_nil]);first|done|rfl|(simp only [List.length_drop,List.length_take];rfl)) ?_;(with_reducible refine (fdtab_index.calls _ _ l0 x6_1 t122 _ ?side1 ?side2 A5.out).mono ?_);(case side1=>repeat (first|exact (C_below HR0.out HB.out)|(with_reducible refine yC ?_ _)|(with_reducible refine yD ?_ _)|(with_reducible refine C_drew ?_)));(case side2=>exact HC0.out);rintro e w7 ⟨rfl,hb⟩;refine ⟨_,rfl,?_⟩;have n0_:=Zk (zL (by repeat (first|(with_reducible first|exact HB.out|apply zG|apply zC|apply zH)|exact HB.out)) hb);clear HB;have HB:=n0_;clear n0_;(try clear hb);(try clear hb2);(try clear hk);(try clear hi)))
     go_ret2
     exact ⟨by first|rfl|(simp [errW_none,errW_some] <;> rfl)|(simp only [← hji3];first|rfl|(simp [errW_none,errW_some] <;> rfl))|(simp [*,errW_none,errW_some] <;> rfl),by repeat (first|(with_reducible first|exact HB.out|apply zG|apply zC|apply zH)|exact HB.out)⟩
    ·rw [if_neg c6] at H
     have c6b0:decide (t122 < 0)=false:=decide_eq_false c6
     clear c6
     have H':=Zk H
     clear H
     go_wp2_with (first|((with_reducible refine zW (f:=34) rfl ?_);refine yF (some 15) rfl rfl Try.func34 (by kernel_rfl) rfl #[.slice A0 l0.length c0,.int .i64 x6_1] rfl (by (try simp only [List.map_toArray,List.map_cons,List.map_nil]);first|done|rfl|(simp only [List.length_drop,List.length_take];rfl)) ?_;(with_reducible refine (fdtab_index.calls _ _ l0 x6_1 t122 _ ?side1 ?side2 A5.out).mono ?_);(case side1=>repeat (first|exact (C_below HR0.out HB.out)|(with_reducible refine yC ?_ _)|(with_reducible refine yD ?_ _)|(with_reducible refine C_drew ?_)));(case side2=>exact HC0.out);rintro e w8 ⟨rfl,hb⟩;refine ⟨_,rfl,?_⟩;have n0_:=Zk (zL (by repeat (first|(with_reducible first|exact HB.out|apply zG|apply zC|apply zH)|exact HB.out)) hb);clear HB;have HB:=n0_;clear n0_;(try clear hb);(try clear hb2);(try clear hk);(try clear hi)))
     go_roundg k1
     case measure=>have:=HK1.out;omega
     case rel=>exact ⟨(wrap64 (x6_1 + 1)),(by first|rfl|(simp;done)|(simp [*];done)|(generalize ByteArray.toList _=l_;cases l_ <;> rfl)),H',⟨by have:=HK1.out;omega⟩,⟨by repeat (first|(with_reducible first|exact HB.out|apply zG|apply zC|apply zH)|exact HB.out)⟩⟩
   ·rw [if_neg c4] at H
    have c4b0:decide (x6_1 < 32)=false:=decide_eq_false c4
    clear c4
    simp only [Option.some.injEq,Prod.mk.injEq] at H
    obtain ⟨rfl,rfl⟩:=H
    go_wp2
    go_ret2
    exact ⟨by first|rfl|(simp [errW_none,errW_some] <;> rfl)|(simp only [← hji3];first|rfl|(simp [errW_none,errW_some] <;> rfl))|(simp [*,errW_none,errW_some] <;> rfl),by repeat (first|(with_reducible first|exact HB.out|apply zG|apply zC|apply zH)|exact HB.out)⟩
def fdtab_check.j0:Nat→Bool→Int→Int→Bool→Option (Int)
 |0,_,_,_,_=>none
 |k + 1,x3,x124000,x124001,x124002=>if x3=true then (some 2) else (if x124001 < 0 then (some 1) else (if x124001 ≥ 128 then (some 1) else (some 0)))
def fdtab_check.f (k:Nat) (a0_0:Int) (a0_1:Int) (a0_2:Bool):Option (Int):=if a0_0 < 0 then (fdtab_check.j0 k true a0_0 a0_1 a0_2) else (fdtab_check.j0 k (decide (a0_0 ≥ 32)) a0_0 a0_1 a0_2)
theorem fdtab_check.mono_l:∀ k,(∀ y0 y1 y2 y3,LeO (fdtab_check.j0 k y0 y1 y2 y3) (fdtab_check.j0 (k + 1) y0 y1 y2 y3))
 |0=>fun _ _ _ _ r h=>by simp [fdtab_check.j0] at h
 |k + 1=>by
  have ih0:=fdtab_check.mono_l k
  ·intro y0 y1 y2 y3
   unfold fdtab_check.j0
   repeat' first
   |(with_reducible exact ih0 _ _ _ _)
   |(with_reducible exact LeO.refl _)
   |(with_reducible exact LeO.none _)
   |(with_reducible refine LeO.ite ?_ ?_)
   |(with_reducible refine LeO.bind ?_ (fun _=>?_))
   |exact ih0 _ _ _ _
   |exact LeO.none _
   |refine LeO.ite ?_ ?_
   |refine LeO.bind ?_ (fun _=>?_)
theorem fdtab_check.mono:∀ a0 a1 a2 k,LeO (fdtab_check.f k a0 a1 a2) (fdtab_check.f (k + 1) a0 a1 a2):=by
 intro a0 a1 a2 k
 have ih0:=fdtab_check.mono_l k
 unfold fdtab_check.f
 repeat' first
   |(with_reducible exact ih0 _ _ _ _)
   |(with_reducible exact LeO.refl _)
   |(with_reducible exact LeO.none _)
   |(with_reducible refine LeO.ite ?_ ?_)
   |(with_reducible refine LeO.bind ?_ (fun _=>?_))
   |exact ih0 _ _ _ _
   |exact LeO.none _
   |refine LeO.ite ?_ ?_
   |refine LeO.bind ?_ (fun _=>?_)
set_option maxHeartbeats 8000000 in
set_option maxRecDepth 10000000 in
theorem fdtab_check.calls (k:Nat) (a0_0:Int) (a0_1:Int) (a0_2:Bool) (r:Int) (w:World) (h:fdtab_check.f k a0_0 a0_1 a0_2=some r) :
  Calls Try.prog 35 #[.agg #[.int .i64 a0_0,.int .i64 a0_1,.bool a0_2]] w fun e w'=>e=.returned (.int .i64 r)∧Below w.heap.size w w':=by
 have hu36:=Try.underlying36
 have HB:=Zk (Below.refl w.heap.size w)
 have H:(if a0_0 < 0 then (fdtab_check.j0 k true a0_0 a0_1 a0_2) else (fdtab_check.j0 k (decide (a0_0 ≥ 32)) a0_0 a0_1 a0_2))=some r:=h
 clear h
 have HC2:=Zk H
 clear H
 go_enter Try.func35,Try.ntmps35
 go_upto_region 1 with (first|((with_reducible refine yE (N:=1) rfl ?_);refine yG ?hg (N:=1) ?hd (cs:=#[.int .i64 a0_0,.int .i64 a0_1,.bool a0_2]) (t:=36) ?hr ?_;(case hd=>rfl);(case hg=>rfl);(case hr=>first|(go_simp;done)|(go_simp;rfl));intro gb123 hg w3 hbox hb;have n0_:=Zk (zL (by repeat (first|(with_reducible first|exact HB.out|apply zG|apply zC|apply zH)|exact HB.out)) hb);have n1_:=Zk (hbox);have n2_:=Zk ((by rw [hg];exact (zM (by repeat (first|(with_reducible first|exact HB.out|apply zG|apply zC|apply zH)|exact HB.out))):w.heap.size≤gb123));have n3_:=Zk ((by rw [hg];exact (zM (by repeat (first|(with_reducible first|exact HB.out|apply zG|apply zC|apply zH)|exact HB.out))):w.heap.size≤gb123));clear HB;have HB:=n0_;have BK123:=n1_;have GW123:=n2_;have GE123:=n3_;clear n0_ n1_ n2_ n3_;clear hb hbox hg))
 (try simp only [Act.put,List.setIfInBounds_toArray,List.set_cons_zero,List.set_cons_succ])
 go_cut [3] (fun v3 wc=>∃ (kq:Nat) (x3_1:Bool),v3=.bool x3_1∧zR (fdtab_check.j0 kq x3_1 a0_0 a0_1 a0_2=some r)∧zR (kq≤k)∧zR (wc.heap[gb123]?=some (.cells #[.int .i64 a0_0,.int .i64 a0_1,.bool a0_2] 36 (0,0)))∧zR (Below w.heap.size w wc))
 case first=>
  have H:=HC2.out
  clear HC2
  by_cases c4:a0_0 < 0
  ·rw [if_pos c4] at H
   have c4b0:decide (a0_0 < 0)=true:=decide_eq_true c4
   clear c4
   (first|rw [c4b0]|(simp only [i64_w,i32_w];rw [c4b0])|skip)
   have H':=Zk H
   clear H
   have hcz5_0:w3.cell? ⟨gb123,0,none⟩=some (.int .i64 a0_0):=(zJ BK123.out 0).trans rfl
   have hcz5_1:w3.cell? ⟨gb123,1,none⟩=some (.int .i64 a0_1):=(zJ BK123.out 1).trans rfl
   have hcz5_2:w3.cell? ⟨gb123,2,none⟩=some (.bool a0_2):=(zJ BK123.out 2).trans rfl
   have hfz5_0:=zI BK123.out 0
   have hfz5_1:=zI BK123.out 1
   have hfz5_2:=zI BK123.out 2
   go_wp2
   go_meet
   case rel=>exact ⟨_,(true),(by first|rfl|(simp;done)|(simp [*];done)|(generalize ByteArray.toList _=l_;cases l_ <;> rfl)),H',⟨by first|omega|exact Nat.le_refl _⟩,⟨by (with_reducible repeat (first|refine zB ?_ _|refine zD ?_|refine zA ?_ _));exact BK123.out⟩,⟨by repeat (first|(with_reducible first|exact HB.out|apply zG|apply zC|apply zH|refine zF ?_ GE123.out)|exact HB.out)⟩⟩
  ·rw [if_neg c4] at H
   have c4b0:decide (a0_0 < 0)=false:=decide_eq_false c4
   clear c4
   (first|rw [c4b0]|(simp only [i64_w,i32_w];rw [c4b0])|skip)
   have H':=Zk H
   clear H
   have hcz6_0:w3.cell? ⟨gb123,0,none⟩=some (.int .i64 a0_0):=(zJ BK123.out 0).trans rfl
   have hcz6_1:w3.cell? ⟨gb123,1,none⟩=some (.int .i64 a0_1):=(zJ BK123.out 1).trans rfl
   have hcz6_2:w3.cell? ⟨gb123,2,none⟩=some (.bool a0_2):=(zJ BK123.out 2).trans rfl
   have hfz6_0:=zI BK123.out 0
   have hfz6_1:=zI BK123.out 1
   have hfz6_2:=zI BK123.out 2
   go_wp2
   go_meet
   case rel=>exact ⟨_,(decide (a0_0 ≥ 32)),(by first|rfl|(simp;done)|(simp [*];done)|(generalize ByteArray.toList _=l_;cases l_ <;> rfl)),H',⟨by first|omega|exact Nat.le_refl _⟩,⟨by (with_reducible repeat (first|refine zB ?_ _|refine zD ?_|refine zA ?_ _));exact BK123.out⟩,⟨by repeat (first|(with_reducible first|exact HB.out|apply zG|apply zC|apply zH|refine zF ?_ GE123.out)|exact HB.out)⟩⟩
 case rest=>
  clear HC2
  try clear p2
  try clear c3
  try clear c4
  try clear c4b0
  try clear hcz5_0
  try clear hcz5_1
  try clear hcz5_2
  try clear hcz6_0
  try clear hcz6_1
  try clear hcz6_2
  try clear hfz5_0
  try clear hfz5_1
  try clear hfz5_2
  try clear hfz6_0
  try clear hfz6_1
  try clear hfz6_2
  obtain ⟨kq,x3_1,rfl,HA,HJ1,BK123,HB⟩:=hcut
  cases kq with
  |zero=>exact absurd HA.out (by simp [fdtab_check.j0])
  |succ kj1=>
   have H:=HA.out
   clear HA
   simp only [fdtab_check.j0] at H
   by_cases c7:x3_1=true
   ·subst c7
    have H1:(some 2)=some r:=by rw [if_pos rfl] at H;exact H
    clear H
    have H:=H1
    clear H1
    obtain rfl:=Option.some.inj H
    go_wp2
    go_ret
    exact ⟨by first|rfl|(simp [errW_none,errW_some] <;> rfl)|(simp [*,errW_none,errW_some] <;> rfl),by repeat (first|(with_reducible first|exact HB.out|apply zG|apply zC|apply zH|refine zF ?_ GE123.out)|exact HB.out)⟩
   ·replace c7:=Bool.eq_false_iff.mpr c7
    subst c7
    have H1:(if a0_1 < 0 then (some 1) else (if a0_1 ≥ 128 then (some 1) else (some 0)))=some r:=by rw [if_neg (show ¬ (false=true) by decide)] at H;exact H
    clear H
    have H:=H1
    clear H1
    by_cases c8:a0_1 < 0
    ·rw [if_pos c8] at H
     have c8b0:decide (a0_1 < 0)=true:=decide_eq_true c8
     clear c8
     obtain rfl:=Option.some.inj H
     have hcz9_0:wc.cell? ⟨gb123,0,none⟩=some (.int .i64 a0_0):=(zJ BK123.out 0).trans rfl
     have hcz9_1:wc.cell? ⟨gb123,1,none⟩=some (.int .i64 a0_1):=(zJ BK123.out 1).trans rfl
     have hcz9_2:wc.cell? ⟨gb123,2,none⟩=some (.bool a0_2):=(zJ BK123.out 2).trans rfl
     have hfz9_0:=zI BK123.out 0
     have hfz9_1:=zI BK123.out 1
     have hfz9_2:=zI BK123.out 2
     go_wp2
     go_ret
     exact ⟨by first|rfl|(simp [errW_none,errW_some] <;> rfl)|(simp [*,errW_none,errW_some] <;> rfl),by repeat (first|(with_reducible first|exact HB.out|apply zG|apply zC|apply zH|refine zF ?_ GE123.out)|exact HB.out)⟩
    ·rw [if_neg c8] at H
     have c8b0:decide (a0_1 < 0)=false:=decide_eq_false c8
     clear c8
     by_cases c10:a0_1 ≥ 128
     ·rw [if_pos c10] at H
      have c10b0:decide (128≤a0_1)=true:=decide_eq_true c10
      clear c10
      obtain rfl:=Option.some.inj H
      have hcz11_0:wc.cell? ⟨gb123,0,none⟩=some (.int .i64 a0_0):=(zJ BK123.out 0).trans rfl
      have hcz11_1:wc.cell? ⟨gb123,1,none⟩=some (.int .i64 a0_1):=(zJ BK123.out 1).trans rfl
      have hcz11_2:wc.cell? ⟨gb123,2,none⟩=some (.bool a0_2):=(zJ BK123.out 2).trans rfl
      have hfz11_0:=zI BK123.out 0
      have hfz11_1:=zI BK123.out 1
      have hfz11_2:=zI BK123.out 2
      go_wp2
      go_ret
      exact ⟨by first|rfl|(simp [errW_none,errW_some] <;> rfl)|(simp [*,errW_none,errW_some] <;> rfl),by repeat (first|(with_reducible first|exact HB.out|apply zG|apply zC|apply zH|refine zF ?_ GE123.out)|exact HB.out)⟩
     ·rw [if_neg c10] at H
      have c10b0:decide (128≤a0_1)=false:=decide_eq_false c10
      clear c10
      obtain rfl:=Option.some.inj H
      have hcz12_0:wc.cell? ⟨gb123,0,none⟩=some (.int .i64 a0_0):=(zJ BK123.out 0).trans rfl
      have hcz12_1:wc.cell? ⟨gb123,1,none⟩=some (.int .i64 a0_1):=(zJ BK123.out 1).trans rfl
      have hcz12_2:wc.cell? ⟨gb123,2,none⟩=some (.bool a0_2):=(zJ BK123.out 2).trans rfl
      have hfz12_0:=zI BK123.out 0
      have hfz12_1:=zI BK123.out 1
      have hfz12_2:=zI BK123.out 2
      go_wp2
      go_ret
      exact ⟨by first|rfl|(simp [errW_none,errW_some] <;> rfl)|(simp [*,errW_none,errW_some] <;> rfl),by repeat (first|(with_reducible first|exact HB.out|apply zG|apply zC|apply zH|refine zF ?_ GE123.out)|exact HB.out)⟩
def fdtab_Valid.l0:Nat→List (S36)→List (S36)→Int→Int→Option (Int)
 |0,_,_,_,_=>none
 |k + 1,x0,x6,x7,x8=>if x8 < x7 then (if 0≤x8 then (if x8 < (x6.length:Int) then ((fdtab_check.f k ((rd_T36 x6 x8).f0) ((rd_T36 x6 x8).f1) ((rd_T36 x6 x8).f2)).bind fun t126=>(if t126=0 then (if x8 > 0 then (if 0≤(wrap64 (x8 - 1)) then (if (wrap64 (x8 - 1)) < (x0.length:Int) then (if ((rd_T36 x6 x8).f0)≤((rd_T36 x0 (wrap64 (x8 - 1))).f0) then (some 25) else (fdtab_Valid.l0 k x0 x6 x7 (wrap64 (x8 + 1)))) else (none)) else (none)) else (fdtab_Valid.l0 k x0 x6 x7 (wrap64 (x8 + 1)))) else (some t126))) else (none)) else (none)) else (some 0)
def fdtab_Valid.f (k:Nat) (l0:List (S36)):Option (Int):=fdtab_Valid.l0 k l0 l0 (l0.length:Int) 0
theorem fdtab_Valid.mono_l:∀ k,(∀ y0 y1 y2 y3,LeO (fdtab_Valid.l0 k y0 y1 y2 y3) (fdtab_Valid.l0 (k + 1) y0 y1 y2 y3))
 |0=>fun _ _ _ _ r h=>by simp [fdtab_Valid.l0] at h
 |k + 1=>by
  have ih0:=fdtab_Valid.mono_l k
  ·intro y0 y1 y2 y3
   unfold fdtab_Valid.l0
   repeat' first
   |(with_reducible exact ih0 _ _ _ _)
   |(with_reducible exact fdtab_check.mono _ _ _ _)
   |(with_reducible exact LeO.refl _)
   |(with_reducible exact LeO.none _)
   |(with_reducible refine LeO.ite ?_ ?_)
   |(with_reducible refine LeO.bind ?_ (fun _=>?_))
   |exact ih0 _ _ _ _
   |exact fdtab_check.mono _ _ _ _
   |exact LeO.none _
   |refine LeO.ite ?_ ?_
   |refine LeO.bind ?_ (fun _=>?_)
theorem fdtab_Valid.mono:∀ a0 k,LeO (fdtab_Valid.f k a0) (fdtab_Valid.f (k + 1) a0):=by
 intro a0 k
 have ih0:=fdtab_Valid.mono_l k
 unfold fdtab_Valid.f
 repeat' first
   |(with_reducible exact ih0 _ _ _ _)
   |(with_reducible exact fdtab_check.mono _ _ _ _)
   |(with_reducible exact LeO.refl _)
   |(with_reducible exact LeO.none _)
   |(with_reducible refine LeO.ite ?_ ?_)
   |(with_reducible refine LeO.bind ?_ (fun _=>?_))
   |exact ih0 _ _ _ _
   |exact fdtab_check.mono _ _ _ _
   |exact LeO.none _
   |refine LeO.ite ?_ ?_
   |refine LeO.bind ?_ (fun _=>?_)
set_option maxHeartbeats 8000000 in
set_option maxRecDepth 10000000 in
theorem fdtab_Valid.calls (k:Nat) (A0:Option Addr) (c0:Nat) (l0:List (S36)) (r:Int) (w:World) (hr0:Kd.C k36 w A0 l0.length l0) (hc0:l0.length≤c0) (h:fdtab_Valid.f k l0=some r) :
  Calls Try.prog 18 #[.slice A0 l0.length c0] w fun e w'=>e=.returned (.int .i64 r)∧Below w.heap.size w w':=by
 have hu36:=Try.underlying36
 have HR0:=Zk hr0
 have HC0:=Zk hc0
 clear hr0 hc0
 have HB:=Zk (Below.refl w.heap.size w)
 have H:(fdtab_Valid.l0 k l0 l0 (l0.length:Int) 0)=some r:=h
 clear h
 have H':=Zk H
 clear H
 go_enter Try.func18,Try.ntmps18
 go_wp2
 repeat (go_quiet (fail);try go_wp2)
 go_loopg [8] k (fun kq v8 w'=>∃ (x8_1:Int),v8=.int .i64 x8_1∧zR (fdtab_Valid.l0 kq l0 l0 (l0.length:Int) x8_1=some r)∧zR (kq≤k)∧zR (Below w.heap.size w w'))
 case atStart=>exact ⟨(0),(by first|rfl|(simp;done)|(simp [*];done)|(generalize ByteArray.toList _=l_;cases l_ <;> rfl)),H',⟨Nat.le_refl _⟩,⟨by repeat (first|(with_reducible first|exact HB.out|apply zG|apply zC|apply zH)|exact HB.out)⟩⟩
 case round=>
  clear H'
  try clear c1
  obtain ⟨x8_1,rfl,HA,HK1,HB⟩:=hrel
  cases gk with
  |zero=>exact absurd HA.out (by simp [fdtab_Valid.l0])
  |succ k1=>
   have H:=HA.out
   clear HA
   simp only [fdtab_Valid.l0] at H
   by_cases c2:x8_1 < (l0.length:Int)
   ·rw [if_pos c2] at H
    have c2b0:decide (x8_1 < (l0.length:Int))=true:=decide_eq_true c2
    clear c2
    by_cases c3:0≤x8_1
    ·rw [if_pos c3] at H
     have c3b0:decide (0≤x8_1)=true:=decide_eq_true c3
     clear c3
     by_cases c4:x8_1 < (l0.length:Int)
     ·rw [if_pos c4] at H
      have c4b0:decide (x8_1 < (l0.length:Int))=true:=decide_eq_true c4
      clear c4
      replace H:=Option.bind_eq_some_iff.mp H
      obtain ⟨t126,A50,H⟩:=H
      replace H:(if t126=0 then (if x8_1 > 0 then (if 0≤(wrap64 (x8_1 - 1)) then (if (wrap64 (x8_1 - 1)) < (l0.length:Int) then (if ((rd_T36 l0 x8_1).f0)≤((rd_T36 l0 (wrap64 (x8_1 - 1))).f0) then (some 25) else (fdtab_Valid.l0 k1 l0 l0 (l0.length:Int) (wrap64 (x8_1 + 1)))) else (none)) else (none)) else (fdtab_Valid.l0 k1 l0 l0 (l0.length:Int) (wrap64 (x8_1 + 1)))) else (some t126))=some r:=H
      have A5:=Zk A50
      clear A50
      by_cases c6:t126=0
      ·rw [if_pos c6] at H
       have c6b0:(t126 == 0)=true:=beq_iff_eq.mpr c6
       have c6b1:(t126 != 0)=false:=bne_eq_false_iff_eq.mpr c6
       clear c6
       by_cases c7:x8_1 > 0
       ·rw [if_pos c7] at H
        have c7b0:decide (0 < x8_1)=true:=decide_eq_true c7
        clear c7
        obtain ⟨ji8,hji8⟩:∃ j_:Int,(wrap64 (x8_1 - 1))=j_:=⟨_,rfl⟩
        replace H:(if 0≤(ji8) then (if (ji8) < (l0.length:Int) then (if ((rd_T36 l0 x8_1).f0)≤((rd_T36 l0 (ji8)).f0) then (some 25) else (fdtab_Valid.l0 k1 l0 l0 (l0.length:Int) (wrap64 (x8_1 + 1)))) else (none)) else (none))=some r:=by first|(rw [hji8] at H;exact H)|(simp only [hji8] at H ⊢;exact H)
        (try rw [hji8] at A5)
        have hji8w:(IntKind.i64.wrap (x8_1 - 1))=ji8:=(i64_w _).trans hji8
        by_cases c9:0≤(ji8)
        ·rw [if_pos c9] at H
         have c9b0:decide (0≤(ji8))=true:=decide_eq_true c9
         clear c9
         by_cases c10:(ji8) < (l0.length:Int)
         ·rw [if_pos c10] at H
          have c10b0:decide ((ji8) < (l0.length:Int))=true:=decide_eq_true c10
          clear c10
          by_cases c11:((rd_T36 l0 x8_1).f0)≤((rd_T36 l0 (ji8)).f0)
          ·rw [if_pos c11] at H
           have c11b0:decide (((rd_T36 l0 x8_1).f0)≤((rd_T36 l0 (ji8)).f0))=true:=decide_eq_true c11
           clear c11
           obtain rfl:=Option.some.inj H
           have p124:0≤(x8_1:Int):=of_decide_eq_true (by first|(with_reducible assumption)|assumption)
           have q124:x8_1 < (l0.length:Int):=of_decide_eq_true (by first|(with_reducible assumption)|assumption)
           obtain ⟨ad124,e124,hx124_0,hx124_1,hx124_2⟩:=at_T36 HR0.out x8_1 p124 q124
           cases e124
           replace hx124_0:=(HB.out.cell (World.block_lt_of_cell? w _ hx124_0)).trans hx124_0
           replace hx124_1:=(HB.out.cell (World.block_lt_of_cell? w _ hx124_1)).trans hx124_1
           replace hx124_2:=(HB.out.cell (World.block_lt_of_cell? w _ hx124_2)).trans hx124_2
           replace p124:=eq_true p124
           replace q124:=eq_true q124
           go_wp2_with (first|((with_reducible refine yE (N:=4) rfl ?_);refine yG ?hg (N:=4) ?hd (cs:=#[.int .i64 0,.int .i64 0,.bool false]) (t:=36) ?hr ?_;(case hd=>rfl);(case hg=>rfl);(case hr=>first|(go_simp;done)|(go_simp;rfl));intro gb125 hg w12 hbox hb;have n0_:=Zk (zL (by repeat (first|(with_reducible first|exact HB.out|apply zG|apply zC|apply zH)|exact HB.out)) hb);have n1_:=Zk (hbox);have n2_:=Zk ((by rw [hg];exact (zM (by repeat (first|(with_reducible first|exact HB.out|apply zG|apply zC|apply zH)|exact HB.out))):w.heap.size≤gb125));have n3_:=Zk ((by rw [hg];exact (zM (by repeat (first|(with_reducible first|exact HB.out|apply zG|apply zC|apply zH)|exact HB.out))):w.heap.size≤gb125));clear HB;have HB:=n0_;have BK125:=n1_;have GW125:=n2_;have GE125:=n3_;clear n0_ n1_ n2_ n3_;clear hb hbox hg;have hcz13_0:w12.cell? ⟨gb125,0,none⟩=some (.int .i64 0):=(zJ BK125.out 0).trans rfl;have hcz13_1:w12.cell? ⟨gb125,1,none⟩=some (.int .i64 0):=(zJ BK125.out 1).trans rfl;have hcz13_2:w12.cell? ⟨gb125,2,none⟩=some (.bool false):=(zJ BK125.out 2).trans rfl;have hfz13_0:=zI BK125.out 0;have hfz13_1:=zI BK125.out 1;have hfz13_2:=zI BK125.out 2)|(go_at_call 35;(with_reducible refine (fdtab_check.calls k1 ((rd_T36 l0 x8_1).f0) ((rd_T36 l0 x8_1).f1) ((rd_T36 l0 x8_1).f2) t126 _ A5.out).mono ?_);rintro e w14 ⟨rfl,hb⟩;have n0_:=Zk (zK (g:=gb125) (o:=.cells #[.int .i64 ((rd_T36 l0 x8_1).f0),.int .i64 ((rd_T36 l0 x8_1).f1),.bool ((rd_T36 l0 x8_1).f2)] 36 (0,0)) (by (with_reducible repeat (first|refine zB ?_ _|refine zD ?_|refine zA ?_ _));refine zS (cs:=#[.int .i64 ((rd_T36 l0 x8_1).f0),.int .i64 ((rd_T36 l0 x8_1).f1),.bool false]) ?_ 2 _ rfl;(with_reducible repeat (first|refine zB ?_ _|refine zD ?_|refine zA ?_ _));refine zS (cs:=#[.int .i64 ((rd_T36 l0 x8_1).f0),.int .i64 0,.bool false]) ?_ 1 _ rfl;(with_reducible repeat (first|refine zB ?_ _|refine zD ?_|refine zA ?_ _));refine zS (cs:=#[.int .i64 0,.int .i64 0,.bool false]) ?_ 0 _ rfl;(with_reducible repeat (first|refine zB ?_ _|refine zD ?_|refine zA ?_ _));exact BK125.out) hb);have n1_:=Zk (zL (by repeat (first|(with_reducible first|exact HB.out|apply zG|apply zC|apply zH|refine zF ?_ GE125.out)|exact HB.out)) hb);clear BK125;clear HB;have BK125:=n0_;have HB:=n1_;clear n0_ n1_;(try clear hb);(try clear hb2);(try clear hk);(try clear hi);have hcz15_0:w14.cell? ⟨gb125,0,none⟩=some (.int .i64 ((rd_T36 l0 x8_1).f0)):=(zJ BK125.out 0).trans rfl;have hcz15_1:w14.cell? ⟨gb125,1,none⟩=some (.int .i64 ((rd_T36 l0 x8_1).f1)):=(zJ BK125.out 1).trans rfl;have hcz15_2:w14.cell? ⟨gb125,2,none⟩=some (.bool ((rd_T36 l0 x8_1).f2)):=(zJ BK125.out 2).trans rfl;have hfz15_0:=zI BK125.out 0;have hfz15_1:=zI BK125.out 1;have hfz15_2:=zI BK125.out 2;have p127:0≤((ji8):Int):=of_decide_eq_true (by first|(with_reducible assumption)|assumption);have q127:(ji8) < (l0.length:Int):=of_decide_eq_true (by first|(with_reducible assumption)|assumption);obtain ⟨ad127,e127,hx127_0,hx127_1,hx127_2⟩:=at_T36 HR0.out (ji8) p127 q127;obtain rfl:ad124=ad127:=(by injection e127);replace hx127_0:=(HB.out.cell (World.block_lt_of_cell? w _ hx127_0)).trans hx127_0;replace hx127_1:=(HB.out.cell (World.block_lt_of_cell? w _ hx127_1)).trans hx127_1;replace hx127_2:=(HB.out.cell (World.block_lt_of_cell? w _ hx127_2)).trans hx127_2;replace p127:=eq_true p127;replace q127:=eq_true q127))
           repeat (go_quiet (first|((with_reducible refine yE (N:=4) rfl ?_);refine yG ?hg (N:=4) ?hd (cs:=#[.int .i64 0,.int .i64 0,.bool false]) (t:=36) ?hr ?_;(case hd=>rfl);(case hg=>rfl);(case hr=>first|(go_simp;done)|(go_simp;rfl));intro gb125 hg w12 hbox hb;have n0_:=Zk (zL (by repeat (first|(with_reducible first|exact HB.out|apply zG|apply zC|apply zH)|exact HB.out)) hb);have n1_:=Zk (hbox);have n2_:=Zk ((by rw [hg];exact (zM (by repeat (first|(with_reducible first|exact HB.out|apply zG|apply zC|apply zH)|exact HB.out))):w.heap.size≤gb125));have n3_:=Zk ((by rw [hg];exact (zM (by repeat (first|(with_reducible first|exact HB.out|apply zG|apply zC|apply zH)|exact HB.out))):w.heap.size≤gb125));clear HB;have HB:=n0_;have BK125:=n1_;have GW125:=n2_;have GE125:=n3_;clear n0_ n1_ n2_ n3_;clear hb hbox hg;have hcz13_0:w12.cell? ⟨gb125,0,none⟩=some (.int .i64 0):=(zJ BK125.out 0).trans rfl;have hcz13_1:w12.cell? ⟨gb125,1,none⟩=some (.int .i64 0):=(zJ BK125.out 1).trans rfl;have hcz13_2:w12.cell? ⟨gb125,2,none⟩=some (.bool false):=(zJ BK125.out 2).trans rfl;have hfz13_0:=zI BK125.out 0;have hfz13_1:=zI BK125.out 1;have hfz13_2:=zI BK125.out 2)|(go_at_call 35;(with_reducible refine (fdtab_check.calls k1 ((rd_T36 l0 x8_1).f0) ((rd_T36 l0 x8_1).f1) ((rd_T36 l0 x8_1).f2) t126 _ A5.out).mono ?_);rintro e w14 ⟨rfl,hb⟩;have n0_:=Zk (zK (g:=gb125) (o:=.cells #[.int .i64 ((rd_T36 l0 x8_1).f0),.int .i64 ((rd_T36 l0 x8_1).f1),.bool ((rd_T36 l0 x8_1).f2)] 36 (0,0)) (by (with_reducible repeat (first|refine zB ?_ _|refine zD ?_|refine zA ?_ _));refine zS (cs:=#[.int .i64 ((rd_T36 l0 x8_1).f0),.int .i64 ((rd_T36 l0 x8_1).f1),.bool false]) ?_ 2 _ rfl;(with_reducible repeat (first|refine zB ?_ _|refine zD ?_|refine zA ?_ _));refine zS (cs:=#[.int .i64 ((rd_T36 l0 x8_1).f0),.int .i64 0,.bool false]) ?_ 1 _ rfl;(with_reducible repeat (first|refine zB ?_ _|refine zD ?_|refine zA ?_ _));refine zS (cs:=#[.int .i64 0,.int .i64 0,.bool false]) ?_ 0 _ rfl;(with_reducible repeat (first|refine zB ?_ _|refine zD ?_|refine zA ?_ _));exact BK125.out) hb);have n1_:=Zk (zL (by repeat (first|(with_reducible first|exact HB.out|apply zG|apply zC|apply zH|refine zF ?_ GE125.out)|exact HB.out)) hb);clear BK125;clear HB;have BK125:=n0_;have HB:=n1_;clear n0_ n1_;(try clear hb);(try clear hb2);(try clear hk);(try clear hi);have hcz15_0:w14.cell? ⟨gb125,0,none⟩=some (.int .i64 ((rd_T36 l0 x8_1).f0)):=(zJ BK125.out 0).trans rfl;have hcz15_1:w14.cell? ⟨gb125,1,none⟩=some (.int .i64 ((rd_T36 l0 x8_1).f1)):=(zJ BK125.out 1).trans rfl;have hcz15_2:w14.cell? ⟨gb125,2,none⟩=some (.bool ((rd_T36 l0 x8_1).f2)):=(zJ BK125.out 2).trans rfl;have hfz15_0:=zI BK125.out 0;have hfz15_1:=zI BK125.out 1;have hfz15_2:=zI BK125.out 2;have p127:0≤((ji8):Int):=of_decide_eq_true (by first|(with_reducible assumption)|assumption);have q127:(ji8) < (l0.length:Int):=of_decide_eq_true (by first|(with_reducible assumption)|assumption);obtain ⟨ad127,e127,hx127_0,hx127_1,hx127_2⟩:=at_T36 HR0.out (ji8) p127 q127;obtain rfl:ad124=ad127:=(by injection e127);replace hx127_0:=(HB.out.cell (World.block_lt_of_cell? w _ hx127_0)).trans hx127_0;replace hx127_1:=(HB.out.cell (World.block_lt_of_cell? w _ hx127_1)).trans hx127_1;replace hx127_2:=(HB.out.cell (World.block_lt_of_cell? w _ hx127_2)).trans hx127_2;replace p127:=eq_true p127;replace q127:=eq_true q127));try go_wp2_with (first|((with_reducible refine yE (N:=4) rfl ?_);refine yG ?hg (N:=4) ?hd (cs:=#[.int .i64 0,.int .i64 0,.bool false]) (t:=36) ?hr ?_;(case hd=>rfl);(case hg=>rfl);(case hr=>first|(go_simp;done)|(go_simp;rfl));intro gb125 hg w12 hbox hb;have n0_:=Zk (zL (by repeat (first|(with_reducible first|exact HB.out|apply zG|apply zC|apply zH)|exact HB.out)) hb);have n1_:=Zk (hbox);have n2_:=Zk ((by rw [hg];exact (zM (by repeat (first|(with_reducible first|exact HB.out|apply zG|apply zC|apply zH)|exact HB.out))):w.heap.size≤gb125));have n3_:=Zk ((by rw [hg];exact (zM (by repeat (first|(with_reducible first|exact HB.out|apply zG|apply zC|apply zH)|exact HB.out))):w.heap.size≤gb125));clear HB;have HB:=n0_;have BK125:=n1_;have GW125:=n2_;have GE125:=n3_;clear n0_ n1_ n2_ n3_;clear hb hbox hg;have hcz13_0:w12.cell? ⟨gb125,0,none⟩=some (.int .i64 0):=(zJ BK125.out 0).trans rfl;have hcz13_1:w12.cell? ⟨gb125,1,none⟩=some (.int .i64 0):=(zJ BK125.out 1).trans rfl;have hcz13_2:w12.cell? ⟨gb125,2,none⟩=some (.bool false):=(zJ BK125.out 2).trans rfl;have hfz13_0:=zI BK125.out 0;have hfz13_1:=zI BK125.out 1;have hfz13_2:=zI BK125.out 2)|(go_at_call 35;(with_reducible refine (fdtab_check.calls k1 ((rd_T36 l0 x8_1).f0) ((rd_T36 l0 x8_1).f1) ((rd_T36 l0 x8_1).f2) t126 _ A5.out).mono ?_);rintro e w14 ⟨rfl,hb⟩;have n0_:=Zk (zK (g:=gb125) (o:=.cells #[.int .i64 ((rd_T36 l0 x8_1).f0),.int .i64 ((rd_T36 l0 x8_1).f1),.bool ((rd_T36 l0 x8_1).f2)] 36 (0,0)) (by (with_reducible repeat (first|refine zB ?_ _|refine zD ?_|refine zA ?_ _));refine zS (cs:=#[.int .i64 ((rd_T36 l0 x8_1).f0),.int .i64 ((rd_T36 l0 x8_1).f1),.bool false]) ?_ 2 _ rfl;(with_reducible repeat (first|refine zB ?_ _|refine zD ?_|refine zA ?_ _));refine zS (cs:=#[.int .i64 ((rd_T36 l0 x8_1).f0),.int .i64 0,.bool false]) ?_ 1 _ rfl;(with_reducible repeat (first|refine zB ?_ _|refine zD ?_|refine zA ?_ _));refine zS (cs:=#[.int .i64 0,.int .i64 0,.bool false]) ?_ 0 _ rfl;(with_reducible repeat (first|refine zB ?_ _|refine zD ?_|refine zA ?_ _));exact BK125.out) hb);have n1_:=Zk (zL (by repeat (first|(with_reducible first|exact HB.out|apply zG|apply zC|apply zH|refine zF ?_ GE125.out)|exact HB.out)) hb);clear BK125;clear HB;have BK125:=n0_;have HB:=n1_;clear n0_ n1_;(try clear hb);(try clear hb2);(try clear hk);(try clear hi);have hcz15_0:w14.cell? ⟨gb125,0,none⟩=some (.int .i64 ((rd_T36 l0 x8_1).f0)):=(zJ BK125.out 0).trans rfl;have hcz15_1:w14.cell? ⟨gb125,1,none⟩=some (.int .i64 ((rd_T36 l0 x8_1).f1)):=(zJ BK125.out 1).trans rfl;have hcz15_2:w14.cell? ⟨gb125,2,none⟩=some (.bool ((rd_T36 l0 x8_1).f2)):=(zJ BK125.out 2).trans rfl;have hfz15_0:=zI BK125.out 0;have hfz15_1:=zI BK125.out 1;have hfz15_2:=zI BK125.out 2;have p127:0≤((ji8):Int):=of_decide_eq_true (by first|(with_reducible assumption)|assumption);have q127:(ji8) < (l0.length:Int):=of_decide_eq_true (by first|(with_reducible assumption)|assumption);obtain ⟨ad127,e127,hx127_0,hx127_1,hx127_2⟩:=at_T36 HR0.out (ji8) p127 q127;obtain rfl:ad124=ad127:=(by injection e127);replace hx127_0:=(HB.out.cell (World.block_lt_of_cell? w _ hx127_0)).trans hx127_0;replace hx127_1:=(HB.out.cell (World.block_lt_of_cell? w _ hx127_1)).trans hx127_1;replace hx127_2:=(HB.out.cell (World.block_lt_of_cell? w _ hx127_2)).trans hx127_2;replace p127:=eq_true p127;replace q127:=eq_true q127)))
           go_ret
           exact ⟨by first|rfl|(simp [errW_none,errW_some] <;> rfl)|(simp only [← hji8];first|rfl|(simp [errW_none,errW_some] <;> rfl))|(simp [*,errW_none,errW_some] <;> rfl),by repeat (first|(with_reducible first|exact HB.out|apply zG|apply zC|apply zH|refine zF ?_ GE125.out)|exact HB.out)⟩
          ·rw [if_neg c11] at H
           have c11b0:decide (((rd_T36 l0 x8_1).f0)≤((rd_T36 l0 (ji8)).f0))=false:=decide_eq_false c11
           clear c11
           have H':=Zk H
           clear H
           have p124:0≤(x8_1:Int):=of_decide_eq_true (by first|(with_reducible assumption)|assumption)
           have q124:x8_1 < (l0.length:Int):=of_decide_eq_true (by first|(with_reducible assumption)|assumption)
           obtain ⟨ad124,e124,hx124_0,hx124_1,hx124_2⟩:=at_T36 HR0.out x8_1 p124 q124
           cases e124
           replace hx124_0:=(HB.out.cell (World.block_lt_of_cell? w _ hx124_0)).trans hx124_0
           replace hx124_1:=(HB.out.cell (World.block_lt_of_cell? w _ hx124_1)).trans hx124_1
           replace hx124_2:=(HB.out.cell (World.block_lt_of_cell? w _ hx124_2)).trans hx124_2
           replace p124:=eq_true p124
           replace q124:=eq_true q124
           go_wp2_with (first|((with_reducible refine yE (N:=4) rfl ?_);refine yG ?hg (N:=4) ?hd (cs:=#[.int .i64 0,.int .i64 0,.bool false]) (t:=36) ?hr ?_;(case hd=>rfl);(case hg=>rfl);(case hr=>first|(go_simp;done)|(go_simp;rfl));intro gb125 hg w16 hbox hb;have n0_:=Zk (zL (by repeat (first|(with_reducible first|exact HB.out|apply zG|apply zC|apply zH)|exact HB.out)) hb);have n1_:=Zk (hbox);have n2_:=Zk ((by rw [hg];exact (zM (by repeat (first|(with_reducible first|exact HB.out|apply zG|apply zC|apply zH)|exact HB.out))):w.heap.size≤gb125));have n3_:=Zk ((by rw [hg];exact (zM (by repeat (first|(with_reducible first|exact HB.out|apply zG|apply zC|apply zH)|exact HB.out))):w.heap.size≤gb125));clear HB;have HB:=n0_;have BK125:=n1_;have GW125:=n2_;have GE125:=n3_;clear n0_ n1_ n2_ n3_;clear hb hbox hg;have hcz17_0:w16.cell? ⟨gb125,0,none⟩=some (.int .i64 0):=(zJ BK125.out 0).trans rfl;have hcz17_1:w16.cell? ⟨gb125,1,none⟩=some (.int .i64 0):=(zJ BK125.out 1).trans rfl;have hcz17_2:w16.cell? ⟨gb125,2,none⟩=some (.bool false):=(zJ BK125.out 2).trans rfl;have hfz17_0:=zI BK125.out 0;have hfz17_1:=zI BK125.out 1;have hfz17_2:=zI BK125.out 2)|(go_at_call 35;(with_reducible refine (fdtab_check.calls k1 ((rd_T36 l0 x8_1).f0) ((rd_T36 l0 x8_1).f1) ((rd_T36 l0 x8_1).f2) t126 _ A5.out).mono ?_);rintro e w18 ⟨rfl,hb⟩;have n0_:=Zk (zK (g:=gb125) (o:=.cells #[.int .i64 ((rd_T36 l0 x8_1).f0),.int .i64 ((rd_T36 l0 x8_1).f1),.bool ((rd_T36 l0 x8_1).f2)] 36 (0,0)) (by (with_reducible repeat (first|refine zB ?_ _|refine zD ?_|refine zA ?_ _));refine zS (cs:=#[.int .i64 ((rd_T36 l0 x8_1).f0),.int .i64 ((rd_T36 l0 x8_1).f1),.bool false]) ?_ 2 _ rfl;(with_reducible repeat (first|refine zB ?_ _|refine zD ?_|refine zA ?_ _));refine zS (cs:=#[.int .i64 ((rd_T36 l0 x8_1).f0),.int .i64 0,.bool false]) ?_ 1 _ rfl;(with_reducible repeat (first|refine zB ?_ _|refine zD ?_|refine zA ?_ _));refine zS (cs:=#[.int .i64 0,.int .i64 0,.bool false]) ?_ 0 _ rfl;(with_reducible repeat (first|refine zB ?_ _|refine zD ?_|refine zA ?_ _));exact BK125.out) hb);have n1_:=Zk (zL (by repeat (first|(with_reducible first|exact HB.out|apply zG|apply zC|apply zH|refine zF ?_ GE125.out)|exact HB.out)) hb);clear BK125;clear HB;have BK125:=n0_;have HB:=n1_;clear n0_ n1_;(try clear hb);(try clear hb2);(try clear hk);(try clear hi);have hcz19_0:w18.cell? ⟨gb125,0,none⟩=some (.int .i64 ((rd_T36 l0 x8_1).f0)):=(zJ BK125.out 0).trans rfl;have hcz19_1:w18.cell? ⟨gb125,1,none⟩=some (.int .i64 ((rd_T36 l0 x8_1).f1)):=(zJ BK125.out 1).trans rfl;have hcz19_2:w18.cell? ⟨gb125,2,none⟩=some (.bool ((rd_T36 l0 x8_1).f2)):=(zJ BK125.out 2).trans rfl;have hfz19_0:=zI BK125.out 0;have hfz19_1:=zI BK125.out 1;have hfz19_2:=zI BK125.out 2;have p127:0≤((ji8):Int):=of_decide_eq_true (by first|(with_reducible assumption)|assumption);have q127:(ji8) < (l0.length:Int):=of_decide_eq_true (by first|(with_reducible assumption)|assumption);obtain ⟨ad127,e127,hx127_0,hx127_1,hx127_2⟩:=at_T36 HR0.out (ji8) p127 q127;obtain rfl:ad124=ad127:=(by injection e127);replace hx127_0:=(HB.out.cell (World.block_lt_of_cell? w _ hx127_0)).trans hx127_0;replace hx127_1:=(HB.out.cell (World.block_lt_of_cell? w _ hx127_1)).trans hx127_1;replace hx127_2:=(HB.out.cell (World.block_lt_of_cell? w _ hx127_2)).trans hx127_2;replace p127:=eq_true p127;replace q127:=eq_true q127))
           repeat (go_quiet (first|((with_reducible refine yE (N:=4) rfl ?_);refine yG ?hg (N:=4) ?hd (cs:=#[.int .i64 0,.int .i64 0,.bool false]) (t:=36) ?hr ?_;(case hd=>rfl);(case hg=>rfl);(case hr=>first|(go_simp;done)|(go_simp;rfl));intro gb125 hg w16 hbox hb;have n0_:=Zk (zL (by repeat (first|(with_reducible first|exact HB.out|apply zG|apply zC|apply zH)|exact HB.out)) hb);have n1_:=Zk (hbox);have n2_:=Zk ((by rw [hg];exact (zM (by repeat (first|(with_reducible first|exact HB.out|apply zG|apply zC|apply zH)|exact HB.out))):w.heap.size≤gb125));have n3_:=Zk ((by rw [hg];exact (zM (by repeat (first|(with_reducible first|exact HB.out|apply zG|apply zC|apply zH)|exact HB.out))):w.heap.size≤gb125));clear HB;have HB:=n0_;have BK125:=n1_;have GW125:=n2_;have GE125:=n3_;clear n0_ n1_ n2_ n3_;clear hb hbox hg;have hcz17_0:w16.cell? ⟨gb125,0,none⟩=some (.int .i64 0):=(zJ BK125.out 0).trans rfl;have hcz17_1:w16.cell? ⟨gb125,1,none⟩=some (.int .i64 0):=(zJ BK125.out 1).trans rfl;have hcz17_2:w16.cell? ⟨gb125,2,none⟩=some (.bool false):=(zJ BK125.out 2).trans rfl;have hfz17_0:=zI BK125.out 0;have hfz17_1:=zI BK125.out 1;have hfz17_2:=zI BK125.out 2)|(go_at_call 35;(with_reducible refine (fdtab_check.calls k1 ((rd_T36 l0 x8_1).f0) ((rd_T36 l0 x8_1).f1) ((rd_T36 l0 x8_1).f2) t126 _ A5.out).mono ?_);rintro e w18 ⟨rfl,hb⟩;have n0_:=Zk (zK (g:=gb125) (o:=.cells #[.int .i64 ((rd_T36 l0 x8_1).f0),.int .i64 ((rd_T36 l0 x8_1).f1),.bool ((rd_T36 l0 x8_1).f2)] 36 (0,0)) (by (with_reducible repeat (first|refine zB ?_ _|refine zD ?_|refine zA ?_ _));refine zS (cs:=#[.int .i64 ((rd_T36 l0 x8_1).f0),.int .i64 ((rd_T36 l0 x8_1).f1),.bool false]) ?_ 2 _ rfl;(with_reducible repeat (first|refine zB ?_ _|refine zD ?_|refine zA ?_ _));refine zS (cs:=#[.int .i64 ((rd_T36 l0 x8_1).f0),.int .i64 0,.bool false]) ?_ 1 _ rfl;(with_reducible repeat (first|refine zB ?_ _|refine zD ?_|refine zA ?_ _));refine zS (cs:=#[.int .i64 0,.int .i64 0,.bool false]) ?_ 0 _ rfl;(with_reducible repeat (first|refine zB ?_ _|refine zD ?_|refine zA ?_ _));exact BK125.out) hb);have n1_:=Zk (zL (by repeat (first|(with_reducible first|exact HB.out|apply zG|apply zC|apply zH|refine zF ?_ GE125.out)|exact HB.out)) hb);clear BK125;clear HB;have BK125:=n0_;have HB:=n1_;clear n0_ n1_;(try clear hb);(try clear hb2);(try clear hk);(try clear hi);have hcz19_0:w18.cell? ⟨gb125,0,none⟩=some (.int .i64 ((rd_T36 l0 x8_1).f0)):=(zJ BK125.out 0).trans rfl;have hcz19_1:w18.cell? ⟨gb125,1,none⟩=some (.int .i64 ((rd_T36 l0 x8_1).f1)):=(zJ BK125.out 1).trans rfl;have hcz19_2:w18.cell? ⟨gb125,2,none⟩=some (.bool ((rd_T36 l0 x8_1).f2)):=(zJ BK125.out 2).trans rfl;have hfz19_0:=zI BK125.out 0;have hfz19_1:=zI BK125.out 1;have hfz19_2:=zI BK125.out 2;have p127:0≤((ji8):Int):=of_decide_eq_true (by first|(with_reducible assumption)|assumption);have q127:(ji8) < (l0.length:Int):=of_decide_eq_true (by first|(with_reducible assumption)|assumption);obtain ⟨ad127,e127,hx127_0,hx127_1,hx127_2⟩:=at_T36 HR0.out (ji8) p127 q127;obtain rfl:ad124=ad127:=(by injection e127);replace hx127_0:=(HB.out.cell (World.block_lt_of_cell? w _ hx127_0)).trans hx127_0;replace hx127_1:=(HB.out.cell (World.block_lt_of_cell? w _ hx127_1)).trans hx127_1;replace hx127_2:=(HB.out.cell (World.block_lt_of_cell? w _ hx127_2)).trans hx127_2;replace p127:=eq_true p127;replace q127:=eq_true q127));try go_wp2_with (first|((with_reducible refine yE (N:=4) rfl ?_);refine yG ?hg (N:=4) ?hd (cs:=#[.int .i64 0,.int .i64 0,.bool false]) (t:=36) ?hr ?_;(case hd=>rfl);(case hg=>rfl);(case hr=>first|(go_simp;done)|(go_simp;rfl));intro gb125 hg w16 hbox hb;have n0_:=Zk (zL (by repeat (first|(with_reducible first|exact HB.out|apply zG|apply zC|apply zH)|exact HB.out)) hb);have n1_:=Zk (hbox);have n2_:=Zk ((by rw [hg];exact (zM (by repeat (first|(with_reducible first|exact HB.out|apply zG|apply zC|apply zH)|exact HB.out))):w.heap.size≤gb125));have n3_:=Zk ((by rw [hg];exact (zM (by repeat (first|(with_reducible first|exact HB.out|apply zG|apply zC|apply zH)|exact HB.out))):w.heap.size≤gb125));clear HB;have HB:=n0_;have BK125:=n1_;have GW125:=n2_;have GE125:=n3_;clear n0_ n1_ n2_ n3_;clear hb hbox hg;have hcz17_0:w16.cell? ⟨gb125,0,none⟩=some (.int .i64 0):=(zJ BK125.out 0).trans rfl;have hcz17_1:w16.cell? ⟨gb125,1,none⟩=some (.int .i64 0):=(zJ BK125.out 1).trans rfl;have hcz17_2:w16.cell? ⟨gb125,2,none⟩=some (.bool false):=(zJ BK125.out 2).trans rfl;have hfz17_0:=zI BK125.out 0;have hfz17_1:=zI BK125.out 1;have hfz17_2:=zI BK125.out 2)|(go_at_call 35;(with_reducible refine (fdtab_check.calls k1 ((rd_T36 l0 x8_1).f0) ((rd_T36 l0 x8_1).f1) ((rd_T36 l0 x8_1).f2) t126 _ A5.out).mono ?_);rintro e w18 ⟨rfl,hb⟩;have n0_:=Zk (zK (g:=gb125) (o:=.cells #[.int .i64 ((rd_T36 l0 x8_1).f0),.int .i64 ((rd_T36 l0 x8_1).f1),.bool ((rd_T36 l0 x8_1).f2)] 36 (0,0)) (by (with_reducible repeat (first|refine zB ?_ _|refine zD ?_|refine zA ?_ _));refine zS (cs:=#[.int .i64 ((rd_T36 l0 x8_1).f0),.int .i64 ((rd_T36 l0 x8_1).f1),.bool false]) ?_ 2 _ rfl;(with_reducible repeat (first|refine zB ?_ _|refine zD ?_|refine zA ?_ _));refine zS (cs:=#[.int .i64 ((rd_T36 l0 x8_1).f0),.int .i64 0,.bool false]) ?_ 1 _ rfl;(with_reducible repeat (first|refine zB ?_ _|refine zD ?_|refine zA ?_ _));refine zS (cs:=#[.int .i64 0,.int .i64 0,.bool false]) ?_ 0 _ rfl;(with_reducible repeat (first|refine zB ?_ _|refine zD ?_|refine zA ?_ _));exact BK125.out) hb);have n1_:=Zk (zL (by repeat (first|(with_reducible first|exact HB.out|apply zG|apply zC|apply zH|refine zF ?_ GE125.out)|exact HB.out)) hb);clear BK125;clear HB;have BK125:=n0_;have HB:=n1_;clear n0_ n1_;(try clear hb);(try clear hb2);(try clear hk);(try clear hi);have hcz19_0:w18.cell? ⟨gb125,0,none⟩=some (.int .i64 ((rd_T36 l0 x8_1).f0)):=(zJ BK125.out 0).trans rfl;have hcz19_1:w18.cell? ⟨gb125,1,none⟩=some (.int .i64 ((rd_T36 l0 x8_1).f1)):=(zJ BK125.out 1).trans rfl;have hcz19_2:w18.cell? ⟨gb125,2,none⟩=some (.bool ((rd_T36 l0 x8_1).f2)):=(zJ BK125.out 2).trans rfl;have hfz19_0:=zI BK125.out 0;have hfz19_1:=zI BK125.out 1;have hfz19_2:=zI BK125.out 2;have p127:0≤((ji8):Int):=of_decide_eq_true (by first|(with_reducible assumption)|assumption);have q127:(ji8) < (l0.length:Int):=of_decide_eq_true (by first|(with_reducible assumption)|assumption);obtain ⟨ad127,e127,hx127_0,hx127_1,hx127_2⟩:=at_T36 HR0.out (ji8) p127 q127;obtain rfl:ad124=ad127:=(by injection e127);replace hx127_0:=(HB.out.cell (World.block_lt_of_cell? w _ hx127_0)).trans hx127_0;replace hx127_1:=(HB.out.cell (World.block_lt_of_cell? w _ hx127_1)).trans hx127_1;replace hx127_2:=(HB.out.cell (World.block_lt_of_cell? w _ hx127_2)).trans hx127_2;replace p127:=eq_true p127;replace q127:=eq_true q127)))
           go_roundg k1
           case measure=>have:=HK1.out;omega
           case rel=>exact ⟨(wrap64 (x8_1 + 1)),(by first|rfl|(simp;done)|(simp [*];done)|(generalize ByteArray.toList _=l_;cases l_ <;> rfl)),H',⟨by have:=HK1.out;omega⟩,⟨by repeat (first|(with_reducible first|exact HB.out|apply zG|apply zC|apply zH|refine zF ?_ GE125.out)|exact HB.out)⟩⟩
         ·rw [if_neg c10] at H
          exact absurd H (by simp)
        ·rw [if_neg c9] at H
         exact absurd H (by simp)
       ·rw [if_neg c7] at H
        have c7b0:decide (0 < x8_1)=false:=decide_eq_false c7
        clear c7
        have H':=Zk H
        clear H
        have p124:0≤(x8_1:Int):=of_decide_eq_true (by first|(with_reducible assumption)|assumption)
        have q124:x8_1 < (l0.length:Int):=of_decide_eq_true (by first|(with_reducible assumption)|assumption)
        obtain ⟨ad124,e124,hx124_0,hx124_1,hx124_2⟩:=at_T36 HR0.out x8_1 p124 q124
        cases e124
        replace hx124_0:=(HB.out.cell (World.block_lt_of_cell? w _ hx124_0)).trans hx124_0
        replace hx124_1:=(HB.out.cell (World.block_lt_of_cell? w _ hx124_1)).trans hx124_1
        replace hx124_2:=(HB.out.cell (World.block_lt_of_cell? w _ hx124_2)).trans hx124_2
        replace p124:=eq_true p124
        replace q124:=eq_true q124
        go_wp2_with (first|((with_reducible refine yE (N:=4) rfl ?_);refine yG ?hg (N:=4) ?hd (cs:=#[.int .i64 0,.int .i64 0,.bool false]) (t:=36) ?hr ?_;(case hd=>rfl);(case hg=>rfl);(case hr=>first|(go_simp;done)|(go_simp;rfl));intro gb125 hg w20 hbox hb;have n0_:=Zk (zL (by repeat (first|(with_reducible first|exact HB.out|apply zG|apply zC|apply zH)|exact HB.out)) hb);have n1_:=Zk (hbox);have n2_:=Zk ((by rw [hg];exact (zM (by repeat (first|(with_reducible first|exact HB.out|apply zG|apply zC|apply zH)|exact HB.out))):w.heap.size≤gb125));have n3_:=Zk ((by rw [hg];exact (zM (by repeat (first|(with_reducible first|exact HB.out|apply zG|apply zC|apply zH)|exact HB.out))):w.heap.size≤gb125));clear HB;have HB:=n0_;have BK125:=n1_;have GW125:=n2_;have GE125:=n3_;clear n0_ n1_ n2_ n3_;clear hb hbox hg;have hcz21_0:w20.cell? ⟨gb125,0,none⟩=some (.int .i64 0):=(zJ BK125.out 0).trans rfl;have hcz21_1:w20.cell? ⟨gb125,1,none⟩=some (.int .i64 0):=(zJ BK125.out 1).trans rfl;have hcz21_2:w20.cell? ⟨gb125,2,none⟩=some (.bool false):=(zJ BK125.out 2).trans rfl;have hfz21_0:=zI BK125.out 0;have hfz21_1:=zI BK125.out 1;have hfz21_2:=zI BK125.out 2)|(go_at_call 35;(with_reducible refine (fdtab_check.calls k1 ((rd_T36 l0 x8_1).f0) ((rd_T36 l0 x8_1).f1) ((rd_T36 l0 x8_1).f2) t126 _ A5.out).mono ?_);rintro e w22 ⟨rfl,hb⟩;have n0_:=Zk (zK (g:=gb125) (o:=.cells #[.int .i64 ((rd_T36 l0 x8_1).f0),.int .i64 ((rd_T36 l0 x8_1).f1),.bool ((rd_T36 l0 x8_1).f2)] 36 (0,0)) (by (with_reducible repeat (first|refine zB ?_ _|refine zD ?_|refine zA ?_ _));refine zS (cs:=#[.int .i64 ((rd_T36 l0 x8_1).f0),.int .i64 ((rd_T36 l0 x8_1).f1),.bool false]) ?_ 2 _ rfl;(with_reducible repeat (first|refine zB ?_ _|refine zD ?_|refine zA ?_ _));refine zS (cs:=#[.int .i64 ((rd_T36 l0 x8_1).f0),.int .i64 0,.bool false]) ?_ 1 _ rfl;(with_reducible repeat (first|refine zB ?_ _|refine zD ?_|refine zA ?_ _));refine zS (cs:=#[.int .i64 0,.int .i64 0,.bool false]) ?_ 0 _ rfl;(with_reducible repeat (first|refine zB ?_ _|refine zD ?_|refine zA ?_ _));exact BK125.out) hb);have n1_:=Zk (zL (by repeat (first|(with_reducible first|exact HB.out|apply zG|apply zC|apply zH|refine zF ?_ GE125.out)|exact HB.out)) hb);clear BK125;clear HB;have BK125:=n0_;have HB:=n1_;clear n0_ n1_;(try clear hb);(try clear hb2);(try clear hk);(try clear hi)))
        repeat (go_quiet (first|((with_reducible refine yE (N:=4) rfl ?_);refine yG ?hg (N:=4) ?hd (cs:=#[.int .i64 0,.int .i64 0,.bool false]) (t:=36) ?hr ?_;(case hd=>rfl);(case hg=>rfl);(case hr=>first|(go_simp;done)|(go_simp;rfl));intro gb125 hg w20 hbox hb;have n0_:=Zk (zL (by repeat (first|(with_reducible first|exact HB.out|apply zG|apply zC|apply zH)|exact HB.out)) hb);have n1_:=Zk (hbox);have n2_:=Zk ((by rw [hg];exact (zM (by repeat (first|(with_reducible first|exact HB.out|apply zG|apply zC|apply zH)|exact HB.out))):w.heap.size≤gb125));have n3_:=Zk ((by rw [hg];exact (zM (by repeat (first|(with_reducible first|exact HB.out|apply zG|apply zC|apply zH)|exact HB.out))):w.heap.size≤gb125));clear HB;have HB:=n0_;have BK125:=n1_;have GW125:=n2_;have GE125:=n3_;clear n0_ n1_ n2_ n3_;clear hb hbox hg;have hcz21_0:w20.cell? ⟨gb125,0,none⟩=some (.int .i64 0):=(zJ BK125.out 0).trans rfl;have hcz21_1:w20.cell? ⟨gb125,1,none⟩=some (.int .i64 0):=(zJ BK125.out 1).trans rfl;have hcz21_2:w20.cell? ⟨gb125,2,none⟩=some (.bool false):=(zJ BK125.out 2).trans rfl;have hfz21_0:=zI BK125.out 0;have hfz21_1:=zI BK125.out 1;have hfz21_2:=zI BK125.out 2)|(go_at_call 35;(with_reducible refine (fdtab_check.calls k1 ((rd_T36 l0 x8_1).f0) ((rd_T36 l0 x8_1).f1) ((rd_T36 l0 x8_1).f2) t126 _ A5.out).mono ?_);rintro e w22 ⟨rfl,hb⟩;have n0_:=Zk (zK (g:=gb125) (o:=.cells #[.int .i64 ((rd_T36 l0 x8_1).f0),.int .i64 ((rd_T36 l0 x8_1).f1),.bool ((rd_T36 l0 x8_1).f2)] 36 (0,0)) (by (with_reducible repeat (first|refine zB ?_ _|refine zD ?_|refine zA ?_ _));refine zS (cs:=#[.int .i64 ((rd_T36 l0 x8_1).f0),.int .i64 ((rd_T36 l0 x8_1).f1),.bool false]) ?_ 2 _ rfl;(with_reducible repeat (first|refine zB ?_ _|refine zD ?_|refine zA ?_ _));refine zS (cs:=#[.int .i64 ((rd_T36 l0 x8_1).f0),.int .i64 0,.bool false]) ?_ 1 _ rfl;(with_reducible repeat (first|refine zB ?_ _|refine zD ?_|refine zA ?_ _));refine zS (cs:=#[.int .i64 0,.int .i64 0,.bool false]) ?_ 0 _ rfl;(with_reducible repeat (first|refine zB ?_ _|refine zD ?_|refine zA ?_ _));exact BK125.out) hb);have n1_:=Zk (zL (by repeat (first|(with_reducible first|exact HB.out|apply zG|apply zC|apply zH|refine zF ?_ GE125.out)|exact HB.out)) hb);clear BK125;clear HB;have BK125:=n0_;have HB:=n1_;clear n0_ n1_;(try clear hb);(try clear hb2);(try clear hk);(try clear hi)));try go_wp2_with (first|((with_reducible refine yE (N:=4) rfl ?_);refine yG ?hg (N:=4) ?hd (cs:=#[.int .i64 0,.int .i64 0,.bool false]) (t:=36) ?hr ?_;(case hd=>rfl);(case hg=>rfl);(case hr=>first|(go_simp;done)|(go_simp;rfl));intro gb125 hg w20 hbox hb;have n0_:=Zk (zL (by repeat (first|(with_reducible first|exact HB.out|apply zG|apply zC|apply zH)|exact HB.out)) hb);have n1_:=Zk (hbox);have n2_:=Zk ((by rw [hg];exact (zM (by repeat (first|(with_reducible first|exact HB.out|apply zG|apply zC|apply zH)|exact HB.out))):w.heap.size≤gb125));have n3_:=Zk ((by rw [hg];exact (zM (by repeat (first|(with_reducible first|exact HB.out|apply zG|apply zC|apply zH)|exact HB.out))):w.heap.size≤gb125));clear HB;have HB:=n0_;have BK125:=n1_;have GW125:=n2_;have GE125:=n3_;clear n0_ n1_ n2_ n3_;clear hb hbox hg;have hcz21_0:w20.cell? ⟨gb125,0,none⟩=some (.int .i64 0):=(zJ BK125.out 0).trans rfl;have hcz21_1:w20.cell? ⟨gb125,1,none⟩=some (.int .i64 0):=(zJ BK125.out 1).trans rfl;have hcz21_2:w20.cell? ⟨gb125,2,none⟩=some (.bool false):=(zJ BK125.out 2).trans rfl;have hfz21_0:=zI BK125.out 0;have hfz21_1:=zI BK125.out 1;have hfz21_2:=zI BK125.out 2)|(go_at_call 35;(with_reducible refine (fdtab_check.calls k1 ((rd_T36 l0 x8_1).f0) ((rd_T36 l0 x8_1).f1) ((rd_T36 l0 x8_1).f2) t126 _ A5.out).mono ?_);rintro e w22 ⟨rfl,hb⟩;have n0_:=Zk (zK (g:=gb125) (o:=.cells #[.int .i64 ((rd_T36 l0 x8_1).f0),.int .i64 ((rd_T36 l0 x8_1).f1),.bool ((rd_T36 l0 x8_1).f2)] 36 (0,0)) (by (with_reducible repeat (first|refine zB ?_ _|refine zD ?_|refine zA ?_ _));refine zS (cs:=#[.int .i64 ((rd_T36 l0 x8_1).f0),.int .i64 ((rd_T36 l0 x8_1).f1),.bool false]) ?_ 2 _ rfl;(with_reducible repeat (first|refine zB ?_ _|refine zD ?_|refine zA ?_ _));refine zS (cs:=#[.int .i64 ((rd_T36 l0 x8_1).f0),.int .i64 0,.bool false]) ?_ 1 _ rfl;(with_reducible repeat (first|refine zB ?_ _|refine zD ?_|refine zA ?_ _));refine zS (cs:=#[.int .i64 0,.int .i64 0,.bool false]) ?_ 0 _ rfl;(with_reducible repeat (first|refine zB ?_ _|refine zD ?_|refine zA ?_ _));exact BK125.out) hb);have n1_:=Zk (zL (by repeat (first|(with_reducible first|exact HB.out|apply zG|apply zC|apply zH|refine zF ?_ GE125.out)|exact HB.out)) hb);clear BK125;clear HB;have BK125:=n0_;have HB:=n1_;clear n0_ n1_;(try clear hb);(try clear hb2);(try clear hk);(try clear hi))))
        go_roundg k1
        case measure=>have:=HK1.out;omega
        case rel=>exact ⟨(wrap64 (x8_1 + 1)),(by first|rfl|(simp;done)|(simp [*];done)|(generalize ByteArray.toList _=l_;cases l_ <;> rfl)),H',⟨by have:=HK1.out;omega⟩,⟨by repeat (first|(with_reducible first|exact HB.out|apply zG|apply zC|apply zH|refine zF ?_ GE125.out)|exact HB.out)⟩⟩
      ·rw [if_neg c6] at H
       have c6b0:(t126 == 0)=false:=beq_eq_false_iff_ne.mpr c6
       have c6b1:(t126 != 0)=true:=bne_iff_ne.mpr c6
       obtain rfl:=Option.some.inj H
       have p124:0≤(x8_1:Int):=of_decide_eq_true (by first|(with_reducible assumption)|assumption)
       have q124:x8_1 < (l0.length:Int):=of_decide_eq_true (by first|(with_reducible assumption)|assumption)
       obtain ⟨ad124,e124,hx124_0,hx124_1,hx124_2⟩:=at_T36 HR0.out x8_1 p124 q124
       cases e124
       replace hx124_0:=(HB.out.cell (World.block_lt_of_cell? w _ hx124_0)).trans hx124_0
       replace hx124_1:=(HB.out.cell (World.block_lt_of_cell? w _ hx124_1)).trans hx124_1
       replace hx124_2:=(HB.out.cell (World.block_lt_of_cell? w _ hx124_2)).trans hx124_2
       replace p124:=eq_true p124
       replace q124:=eq_true q124
       go_wp2_with (first|((with_reducible refine yE (N:=4) rfl ?_);refine yG ?hg (N:=4) ?hd (cs:=#[.int .i64 0,.int .i64 0,.bool false]) (t:=36) ?hr ?_;(case hd=>rfl);(case hg=>rfl);(case hr=>first|(go_simp;done)|(go_simp;rfl));intro gb125 hg w23 hbox hb;have n0_:=Zk (zL (by repeat (first|(with_reducible first|exact HB.out|apply zG|apply zC|apply zH)|exact HB.out)) hb);have n1_:=Zk (hbox);have n2_:=Zk ((by rw [hg];exact (zM (by repeat (first|(with_reducible first|exact HB.out|apply zG|apply zC|apply zH)|exact HB.out))):w.heap.size≤gb125));have n3_:=Zk ((by rw [hg];exact (zM (by repeat (first|(with_reducible first|exact HB.out|apply zG|apply zC|apply zH)|exact HB.out))):w.heap.size≤gb125));clear HB;have HB:=n0_;have BK125:=n1_;have GW125:=n2_;have GE125:=n3_;clear n0_ n1_ n2_ n3_;clear hb hbox hg;have hcz24_0:w23.cell? ⟨gb125,0,none⟩=some (.int .i64 0):=(zJ BK125.out 0).trans rfl;have hcz24_1:w23.cell? ⟨gb125,1,none⟩=some (.int .i64 0):=(zJ BK125.out 1).trans rfl;have hcz24_2:w23.cell? ⟨gb125,2,none⟩=some (.bool false):=(zJ BK125.out 2).trans rfl;have hfz24_0:=zI BK125.out 0;have hfz24_1:=zI BK125.out 1;have hfz24_2:=zI BK125.out 2)|(go_at_call 35;(with_reducible refine (fdtab_check.calls k1 ((rd_T36 l0 x8_1).f0) ((rd_T36 l0 x8_1).f1) ((rd_T36 l0 x8_1).f2) t126 _ A5.out).mono ?_);rintro e w25 ⟨rfl,hb⟩;have n0_:=Zk (zK (g:=gb125) (o:=.cells #[.int .i64 ((rd_T36 l0 x8_1).f0),.int .i64 ((rd_T36 l0 x8_1).f1),.bool ((rd_T36 l0 x8_1).f2)] 36 (0,0)) (by (with_reducible repeat (first|refine zB ?_ _|refine zD ?_|refine zA ?_ _));refine zS (cs:=#[.int .i64 ((rd_T36 l0 x8_1).f0),.int .i64 ((rd_T36 l0 x8_1).f1),.bool false]) ?_ 2 _ rfl;(with_reducible repeat (first|refine zB ?_ _|refine zD ?_|refine zA ?_ _));refine zS (cs:=#[.int .i64 ((rd_T36 l0 x8_1).f0),.int .i64 0,.bool false]) ?_ 1 _ rfl;(with_reducible repeat (first|refine zB ?_ _|refine zD ?_|refine zA ?_ _));refine zS (cs:=#[.int .i64 0,.int .i64 0,.bool false]) ?_ 0 _ rfl;(with_reducible repeat (first|refine zB ?_ _|refine zD ?_|refine zA ?_ _));exact BK125.out) hb);have n1_:=Zk (zL (by repeat (first|(with_reducible first|exact HB.out|apply zG|apply zC|apply zH|refine zF ?_ GE125.out)|exact HB.out)) hb);clear BK125;clear HB;have BK125:=n0_;have HB:=n1_;clear n0_ n1_;(try clear hb);(try clear hb2);(try clear hk);(try clear hi)))
       repeat (go_quiet (first|((with_reducible refine yE (N:=4) rfl ?_);refine yG ?hg (N:=4) ?hd (cs:=#[.int .i64 0,.int .i64 0,.bool false]) (t:=36) ?hr ?_;(case hd=>rfl);(case hg=>rfl);(case hr=>first|(go_simp;done)|(go_simp;rfl));intro gb125 hg w23 hbox hb;have n0_:=Zk (zL (by repeat (first|(with_reducible first|exact HB.out|apply zG|apply zC|apply zH)|exact HB.out)) hb);have n1_:=Zk (hbox);have n2_:=Zk ((by rw [hg];exact (zM (by repeat (first|(with_reducible first|exact HB.out|apply zG|apply zC|apply zH)|exact HB.out))):w.heap.size≤gb125));have n3_:=Zk ((by rw [hg];exact (zM (by repeat (first|(with_reducible first|exact HB.out|apply zG|apply zC|apply zH)|exact HB.out))):w.heap.size≤gb125));clear HB;have HB:=n0_;have BK125:=n1_;have GW125:=n2_;have GE125:=n3_;clear n0_ n1_ n2_ n3_;clear hb hbox hg;have hcz24_0:w23.cell? ⟨gb125,0,none⟩=some (.int .i64 0):=(zJ BK125.out 0).trans rfl;have hcz24_1:w23.cell? ⟨gb125,1,none⟩=some (.int .i64 0):=(zJ BK125.out 1).trans rfl;have hcz24_2:w23.cell? ⟨gb125,2,none⟩=some (.bool false):=(zJ BK125.out 2).trans rfl;have hfz24_0:=zI BK125.out 0;have hfz24_1:=zI BK125.out 1;have hfz24_2:=zI BK125.out 2)|(go_at_call 35;(with_reducible refine (fdtab_check.calls k1 ((rd_T36 l0 x8_1).f0) ((rd_T36 l0 x8_1).f1) ((rd_T36 l0 x8_1).f2) t126 _ A5.out).mono ?_);rintro e w25 ⟨rfl,hb⟩;have n0_:=Zk (zK (g:=gb125) (o:=.cells #[.int .i64 ((rd_T36 l0 x8_1).f0),.int .i64 ((rd_T36 l0 x8_1).f1),.bool ((rd_T36 l0 x8_1).f2)] 36 (0,0)) (by (with_reducible repeat (first|refine zB ?_ _|refine zD ?_|refine zA ?_ _));refine zS (cs:=#[.int .i64 ((rd_T36 l0 x8_1).f0),.int .i64 ((rd_T36 l0 x8_1).f1),.bool false]) ?_ 2 _ rfl;(with_reducible repeat (first|refine zB ?_ _|refine zD ?_|refine zA ?_ _));refine zS (cs:=#[.int .i64 ((rd_T36 l0 x8_1).f0),.int .i64 0,.bool false]) ?_ 1 _ rfl;(with_reducible repeat (first|refine zB ?_ _|refine zD ?_|refine zA ?_ _));refine zS (cs:=#[.int .i64 0,.int .i64 0,.bool false]) ?_ 0 _ rfl;(with_reducible repeat (first|refine zB ?_ _|refine zD ?_|refine zA ?_ _));exact BK125.out) hb);have n1_:=Zk (zL (by repeat (first|(with_reducible first|exact HB.out|apply zG|apply zC|apply zH|refine zF ?_ GE125.out)|exact HB.out)) hb);clear BK125;clear HB;have BK125:=n0_;have HB:=n1_;clear n0_ n1_;(try clear hb);(try clear hb2);(try clear hk);(try clear hi)));try go_wp2_with (first|((with_reducible refine yE (N:=4) rfl ?_);refine yG ?hg (N:=4) ?hd (cs:=#[.int .i64 0,.int .i64 0,.bool false]) (t:=36) ?hr ?_;(case hd=>rfl);(case hg=>rfl);(case hr=>first|(go_simp;done)|(go_simp;rfl));intro gb125 hg w23 hbox hb;have n0_:=Zk (zL (by repeat (first|(with_reducible first|exact HB.out|apply zG|apply zC|apply zH)|exact HB.out)) hb);have n1_:=Zk (hbox);have n2_:=Zk ((by rw [hg];exact (zM (by repeat (first|(with_reducible first|exact HB.out|apply zG|apply zC|apply zH)|exact HB.out))):w.heap.size≤gb125));have n3_:=Zk ((by rw [hg];exact (zM (by repeat (first|(with_reducible first|exact HB.out|apply zG|apply zC|apply zH)|exact HB.out))):w.heap.size≤gb125));clear HB;have HB:=n0_;have BK125:=n1_;have GW125:=n2_;have GE125:=n3_;clear n0_ n1_ n2_ n3_;clear hb hbox hg;have hcz24_0:w23.cell? ⟨gb125,0,none⟩=some (.int .i64 0):=(zJ BK125.out 0).trans rfl;have hcz24_1:w23.cell? ⟨gb125,1,none⟩=some (.int .i64 0):=(zJ BK125.out 1).trans rfl;have hcz24_2:w23.cell? ⟨gb125,2,none⟩=some (.bool false):=(zJ BK125.out 2).trans rfl;have hfz24_0:=zI BK125.out 0;have hfz24_1:=zI BK125.out 1;have hfz24_2:=zI BK125.out 2)|(go_at_call 35;(with_reducible refine (fdtab_check.calls k1 ((rd_T36 l0 x8_1).f0) ((rd_T36 l0 x8_1).f1) ((rd_T36 l0 x8_1).f2) t126 _ A5.out).mono ?_);rintro e w25 ⟨rfl,hb⟩;have n0_:=Zk (zK (g:=gb125) (o:=.cells #[.int .i64 ((rd_T36 l0 x8_1).f0),.int .i64 ((rd_T36 l0 x8_1).f1),.bool ((rd_T36 l0 x8_1).f2)] 36 (0,0)) (by (with_reducible repeat (first|refine zB ?_ _|refine zD ?_|refine zA ?_ _));refine zS (cs:=#[.int .i64 ((rd_T36 l0 x8_1).f0),.int .i64 ((rd_T36 l0 x8_1).f1),.bool false]) ?_ 2 _ rfl;(with_reducible repeat (first|refine zB ?_ _|refine zD ?_|refine zA ?_ _));refine zS (cs:=#[.int .i64 ((rd_T36 l0 x8_1).f0),.int .i64 0,.bool false]) ?_ 1 _ rfl;(with_reducible repeat (first|refine zB ?_ _|refine zD ?_|refine zA ?_ _));refine zS (cs:=#[.int .i64 0,.int .i64 0,.bool false]) ?_ 0 _ rfl;(with_reducible repeat (first|refine zB ?_ _|refine zD ?_|refine zA ?_ _));exact BK125.out) hb);have n1_:=Zk (zL (by repeat (first|(with_reducible first|exact HB.out|apply zG|apply zC|apply zH|refine zF ?_ GE125.out)|exact HB.out)) hb);clear BK125;clear HB;have BK125:=n0_;have HB:=n1_;clear n0_ n1_;(try clear hb);(try clear hb2);(try clear hk);(try clear hi))))
       go_ret
       exact ⟨by first|rfl|(simp [errW_none,errW_some] <;> rfl)|(simp [*,errW_none,errW_some] <;> rfl),by repeat (first|(with_reducible first|exact HB.out|apply zG|apply zC|apply zH|refine zF ?_ GE125.out)|exact HB.out)⟩
     ·rw [if_neg c4] at H
      exact absurd H (by simp)
    ·rw [if_neg c3] at H
     exact absurd H (by simp)
   ·rw [if_neg c2] at H
    have c2b0:decide (x8_1 < (l0.length:Int))=false:=decide_eq_false c2
    clear c2
    obtain rfl:=Option.some.inj H
    go_wp2
    repeat (go_quiet (fail);try go_wp2)
    go_ret
    exact ⟨by first|rfl|(simp [errW_none,errW_some] <;> rfl)|(simp [*,errW_none,errW_some] <;> rfl),by repeat (first|(with_reducible first|exact HB.out|apply zG|apply zC|apply zH)|exact HB.out)⟩
end Go.Proofs.Ytpljggoogodhlaa.Q
end
section

namespace Go.Proofs.Ytpljggoogodhlaa.Q
open Go.RowKit Go.Proofs.YtpljggoogodhlaaW.PrintWords Go.Proofs.YtpljggoogodhlaaW.PrintLast Go.Proofs.YtpljggoogodhlaaW.PrintMore Go.Proofs.YtpljggoogodhlaaM
open Kd
attribute [local go_sem] max2_int min2_int max_two min_two max_three min_three max_four min_four
set_option linter.unusedVariables false
set_option linter.unusedSimpArgs false
theorem eqA24 (d:Nat) (w:World) (x0 y0:Int) (x1 y1:Int) (x2 y2:Int) (x3 y3:Int) (x4 y4:Int) (x5 y5:ByteArray) :
  (Op.equalIn (d + 2) 24 (.agg #[.int .i64 x0,.int .i64 x1,.int .i64 x2,.int .i64 x3,.int .i64 x4,.string x5]) (.agg #[.int .i64 y0,.int .i64 y1,.int .i64 y2,.int .i64 y3,.int .i64 y4,.string y5])).run Try.prog w=.ok (x0 == y0 && (x1 == y1 && (x2 == y2 && (x3 == y3 && (x4 == y4 && (x5.toList == y5.toList)))))) w:=by
 refine eqA_of Try.underlying24 (by kernel_rfl) ?_
 refine eqf_cons (by rfl) (by go_simp;rfl) (by go_simp;rfl) (by go_simp) ?_
 refine eqf_cons (by rfl) (by go_simp;rfl) (by go_simp;rfl) (by go_simp) ?_
 refine eqf_cons (by rfl) (by go_simp;rfl) (by go_simp;rfl) (by go_simp) ?_
 refine eqf_cons (by rfl) (by go_simp;rfl) (by go_simp;rfl) (by go_simp) ?_
 refine eqf_cons (by rfl) (by go_simp;rfl) (by go_simp;rfl) (by go_simp) ?_
 exact eqf_last (by rfl) (by go_simp;rfl) (by go_simp;rfl) (by go_simp)
end Go.Proofs.Ytpljggoogodhlaa.Q
end
section

namespace Go.Proofs.Ytpljggoogodhlaa.Q
open Go.RowKit Go.Proofs.YtpljggoogodhlaaW.PrintWords Go.Proofs.YtpljggoogodhlaaW.PrintLast Go.Proofs.YtpljggoogodhlaaW.PrintMore Go.Proofs.YtpljggoogodhlaaM
open Kd
attribute [local go_sem] max2_int min2_int max_two min_two max_three min_three max_four min_four
set_option linter.unusedVariables false
set_option linter.unusedSimpArgs false
attribute [local go_sem high] eqA24
mutual
def fdtab_Add.j0:Nat→List (S24)→Bool→Int→Int→Int→Int→Int→ByteArray→Option ((List (S24)) × Int × Int)
 |0,_,_,_,_,_,_,_,_=>none
 |k + 1,x0,x18,x102000,x102001,x102002,x102003,x102004,x102005=>if x18=true then (some (x0,0,1)) else (fdtab_Add.l0 k x0 x0 (x0.length:Int) 0 x102000 x102001 x102002 x102003 x102004 x102005 0 0 0 0 0 (⟨#[]⟩:ByteArray))
def fdtab_Add.l0:Nat→List (S24)→List (S24)→Int→Int→Int→Int→Int→Int→Int→ByteArray→Int→Int→Int→Int→Int→ByteArray→Option ((List (S24)) × Int × Int)
 |0,_,_,_,_,_,_,_,_,_,_,_,_,_,_,_,_=>none
 |k + 1,x0,x21,x22,x23,x102000,x102001,x102002,x102003,x102004,x102005,x103000,x103001,x103002,x103003,x103004,x103005=>if x23 < x22 then (if 0≤x23 then (if x23 < (x21.length:Int) then (if (((rd_T24 x21 x23).f0) == x103000 && (((rd_T24 x21 x23).f1) == x103001 && (((rd_T24 x21 x23).f2) == x103002 && (((rd_T24 x21 x23).f3) == x103003 && (((rd_T24 x21 x23).f4) == x103004 && ((((rd_T24 x21 x23).f5).toList) == x103005.toList))))))=true then ((api_Desc.f x0).bind fun t105=>(if x23 < (t105.length:Int) then (some ((t105.set (x23:Int).toNat (⟨x102000,x102001,x102002,x102003,x102004,x102005⟩:S24)),x23,0)) else (none))) else (if ((rd_T24 x21 x23).f0)=0 then ((api_Desc.f x0).bind fun t109=>(if x23 < (t109.length:Int) then (some ((t109.set (x23:Int).toNat (⟨x102000,x102001,x102002,x102003,x102004,x102005⟩:S24)),x23,0)) else (none))) else (fdtab_Add.l0 k x0 x21 x22 (wrap64 (x23 + 1)) x102000 x102001 x102002 x102003 x102004 x102005 x103000 x103001 x103002 x103003 x103004 x103005))) else (none)) else (none)) else (if (x0.length:Int) ≥ 128 then (some (x0,0,4)) else ((api_Desc.f x0).bind fun t113=>((some (([(⟨x102000,x102001,x102002,x102003,x102004,x102005⟩:S24)]:List (S24)):List (S24))).bind fun y116=>(if t113.length + y116.length < 2513169434916 then (some ((t113 ++ y116),(x0.length:Int),0)) else (none)))))
end
def fdtab_Add.f (k:Nat) (l0:List (S24)) (a1_0:Int) (a1_1:Int) (a1_2:Int) (a1_3:Int) (a1_4:Int) (a1_5:ByteArray):Option ((List (S24)) × Int × Int):=if a1_0 < 1 then (fdtab_Add.j0 k l0 true a1_0 a1_1 a1_2 a1_3 a1_4 a1_5) else (fdtab_Add.j0 k l0 (decide (a1_0 > 7)) a1_0 a1_1 a1_2 a1_3 a1_4 a1_5)
theorem fdtab_Add.mono_l:∀ k,(∀ y0 y1 y2 y3 y4 y5 y6 y7,LeO (fdtab_Add.j0 k y0 y1 y2 y3 y4 y5 y6 y7) (fdtab_Add.j0 (k + 1) y0 y1 y2 y3 y4 y5 y6 y7))∧(∀ y0 y1 y2 y3 y4 y5 y6 y7 y8 y9 y10 y11 y12 y13 y14 y15,LeO (fdtab_Add.l0 k y0 y1 y2 y3 y4 y5 y6 y7 y8 y9 y10 y11 y12 y13 y14 y15) (fdtab_Add.l0 (k + 1) y0 y1 y2 y3 y4 y5 y6 y7 y8 y9 y10 y11 y12 y13 y14 y15))
 |0=>⟨fun _ _ _ _ _ _ _ _ r h=>by simp [fdtab_Add.j0] at h,fun _ _ _ _ _ _ _ _ _ _ _ _ _ _ _ _ r h=>by simp [fdtab_Add.l0] at h⟩
 |k + 1=>by
  obtain ⟨ih0,ih1⟩:=fdtab_Add.mono_l k
  refine ⟨?_,?_⟩
  ·intro y0 y1 y2 y3 y4 y5 y6 y7
   unfold fdtab_Add.j0
   repeat' first
   |(with_reducible exact ih0 _ _ _ _ _ _ _ _)
   |(with_reducible exact ih1 _ _ _ _ _ _ _ _ _ _ _ _ _ _ _ _)
   |(with_reducible exact LeO.refl _)
   |(with_reducible exact LeO.none _)
   |(with_reducible refine LeO.ite ?_ ?_)
   |(with_reducible refine LeO.bind ?_ (fun _=>?_))
   |exact ih0 _ _ _ _ _ _ _ _
   |exact ih1 _ _ _ _ _ _ _ _ _ _ _ _ _ _ _ _
   |exact LeO.none _
   |refine LeO.ite ?_ ?_
   |refine LeO.bind ?_ (fun _=>?_)
  ·intro y0 y1 y2 y3 y4 y5 y6 y7 y8 y9 y10 y11 y12 y13 y14 y15
   unfold fdtab_Add.l0
   repeat' first
   |(with_reducible exact ih0 _ _ _ _ _ _ _ _)
   |(with_reducible exact ih1 _ _ _ _ _ _ _ _ _ _ _ _ _ _ _ _)
   |(with_reducible exact LeO.refl _)
   |(with_reducible exact LeO.none _)
   |(with_reducible refine LeO.ite ?_ ?_)
   |(with_reducible refine LeO.bind ?_ (fun _=>?_))
   |exact ih0 _ _ _ _ _ _ _ _
   |exact ih1 _ _ _ _ _ _ _ _ _ _ _ _ _ _ _ _
   |exact LeO.none _
   |refine LeO.ite ?_ ?_
   |refine LeO.bind ?_ (fun _=>?_)
theorem fdtab_Add.mono:∀ a0 a1 a2 a3 a4 a5 a6 k,LeO (fdtab_Add.f k a0 a1 a2 a3 a4 a5 a6) (fdtab_Add.f (k + 1) a0 a1 a2 a3 a4 a5 a6):=by
 intro a0 a1 a2 a3 a4 a5 a6 k
 obtain ⟨ih0,ih1⟩:=fdtab_Add.mono_l k
 unfold fdtab_Add.f
 repeat' first
   |(with_reducible exact ih0 _ _ _ _ _ _ _ _)
   |(with_reducible exact ih1 _ _ _ _ _ _ _ _ _ _ _ _ _ _ _ _)
   |(with_reducible exact LeO.refl _)
   |(with_reducible exact LeO.none _)
   |(with_reducible refine LeO.ite ?_ ?_)
   |(with_reducible refine LeO.bind ?_ (fun _=>?_))
   |exact ih0 _ _ _ _ _ _ _ _
   |exact ih1 _ _ _ _ _ _ _ _ _ _ _ _ _ _ _ _
   |exact LeO.none _
   |refine LeO.ite ?_ ?_
   |refine LeO.bind ?_ (fun _=>?_)
def fdtab_Add.T14:Bool × List (List Nat × List Nat):=(true,[([],[]),([0],[0]),([],[]),([2],[2]),([1,3,1],[1,3]),([],[]),([5],[5]),([4,4,0,1,2,3,4],[4]),([6,7,0,1,2,3,4,5,6,7],[6]),([8,0,1,2,3,4,5,6,7,8],[])])
def fdtab_Add.B14:List Nat:=[0,1,0,4,15,0,32,31,255,511]
theorem fdtab_Add.tab14:rtab .any (opsOf Try.f11 14)=fdtab_Add.T14:=by kernel_rfl
theorem fdtab_Add.bits14:waitsOk fdtab_Add.T14.2 fdtab_Add.B14=true:=by kernel_rfl
set_option maxHeartbeats 8000000 in
set_option maxRecDepth 10000000 in
theorem fdtab_Add.calls (k:Nat) (P0_:Nat→Prop) (A0:Option Addr) (c0:Nat) (l0:List (S24)) (a1_0:Int) (a1_1:Int) (a1_2:Int) (a1_3:Int) (a1_4:Int) (a1_5:ByteArray) (r1:List (S24)) (r2:Int) (r3:Int) (w:World) (hs0:Kd.V k24 24 w w.heap.size (fun k_=>P0_ k_) (.slice A0 l0.length c0) l0) (h:fdtab_Add.f k l0 a1_0 a1_1 a1_2 a1_3 a1_4 a1_5=some (r1,r2,r3)) :
  Calls Try.prog 11 #[.slice A0 l0.length c0,.agg #[.int .i64 a1_0,.int .i64 a1_1,.int .i64 a1_2,.int .i64 a1_3,.int .i64 a1_4,.string a1_5]] w fun e w'=>∃ v0_:Value,e=.returned (.tuple #[v0_,.int .i64 r2,.int .i64 r3])∧Kd.V k24 24 w' w.heap.size (fun k_=>(P0_ k_∨w.heap.size≤k_)) v0_ r1∧Below w.heap.size w w':=by
 have hu24:=Try.underlying24
 have HO0:=Zk (show Kd.V k24 24 w w.heap.size (fun k_=>(P0_ k_∨w.heap.size≤k_)) (.slice A0 l0.length c0) l0 from zU hs0 (fun k_ hk=>.inl hk))
 have HB:=Zk (Below.refl w.heap.size w)
 have H:(if a1_0 < 1 then (fdtab_Add.j0 k l0 true a1_0 a1_1 a1_2 a1_3 a1_4 a1_5) else (fdtab_Add.j0 k l0 (decide (a1_0 > 7)) a1_0 a1_1 a1_2 a1_3 a1_4 a1_5))=some (r1,r2,r3):=h
 clear h
 have HC3:=Zk H
 clear H
 go_enter Try.func11,Try.ntmps11
 go_upto_region 1 with (first|((with_reducible refine yE (N:=3) rfl ?_);refine yG ?hg (N:=3) ?hd (cs:=#[.int .i64 a1_0,.int .i64 a1_1,.int .i64 a1_2,.int .i64 a1_3,.int .i64 a1_4,.string a1_5]) (t:=24) ?hr ?_;(case hd=>rfl);(case hg=>rfl);(case hr=>first|(go_simp;done)|(go_simp;rfl));intro gb101 hg w4 hbox hb;have n0_:=Zk (zT (V_elderB (by (with_reducible repeat (first|apply zN|apply zO|apply zQ));exact HO0.out) gb101 (Nat.le_of_eq hg.symm)) hb);have n1_:=Zk (zL (by repeat (first|(with_reducible first|exact HB.out|apply zG|apply zC|apply zH)|exact HB.out)) hb);have n2_:=Zk (hbox);have n3_:=Zk ((by rw [hg];exact (zM (by repeat (first|(with_reducible first|exact HB.out|apply zG|apply zC|apply zH)|exact HB.out))):w.heap.size≤gb101));have n4_:=Zk ((by rw [hg];exact (zM (by repeat (first|(with_reducible first|exact HB.out|apply zG|apply zC|apply zH)|exact HB.out))):w.heap.size≤gb101));clear HO0;clear HB;have HO0:=n0_;have HB:=n1_;have BK101:=n2_;have GW101:=n3_;have GE101:=n4_;clear n0_ n1_ n2_ n3_ n4_;clear hb hbox hg))
 (try simp only [Act.put,List.setIfInBounds_toArray,List.set_cons_zero,List.set_cons_succ])
 go_cut [18] (fun v18 wc=>∃ (kq:Nat) (x18_2:Bool),v18=.bool x18_2∧zR (fdtab_Add.j0 kq l0 x18_2 a1_0 a1_1 a1_2 a1_3 a1_4 a1_5=some (r1,r2,r3))∧zR (kq≤k)∧zR (Kd.V k24 24 wc w.heap.size (fun k_=>(P0_ k_∨w.heap.size≤k_)∧k_≠gb101) (.slice A0 l0.length c0) l0)∧zR (wc.heap[gb101]?=some (.cells #[.int .i64 a1_0,.int .i64 a1_1,.int .i64 a1_2,.int .i64 a1_3,.int .i64 a1_4,.string a1_5] 24 (0,0)))∧zR (Below w.heap.size w wc))
 case first=>
  have H:=HC3.out
  clear HC3
  by_cases c5:a1_0 < 1
  ·rw [if_pos c5] at H
   have c5b0:decide (a1_0 < 1)=true:=decide_eq_true c5
   clear c5
   (first|rw [c5b0]|(simp only [i64_w,i32_w];rw [c5b0])|skip)
   have H':=Zk H
   clear H
   have hcz6_0:w4.cell? ⟨gb101,0,none⟩=some (.int .i64 a1_0):=(zJ BK101.out 0).trans rfl
   have hcz6_1:w4.cell? ⟨gb101,1,none⟩=some (.int .i64 a1_1):=(zJ BK101.out 1).trans rfl
   have hcz6_2:w4.cell? ⟨gb101,2,none⟩=some (.int .i64 a1_2):=(zJ BK101.out 2).trans rfl
   have hcz6_3:w4.cell? ⟨gb101,3,none⟩=some (.int .i64 a1_3):=(zJ BK101.out 3).trans rfl
   have hcz6_4:w4.cell? ⟨gb101,4,none⟩=some (.int .i64 a1_4):=(zJ BK101.out 4).trans rfl
   have hcz6_5:w4.cell? ⟨gb101,5,none⟩=some (.string a1_5):=(zJ BK101.out 5).trans rfl
   have hfz6_0:=zI BK101.out 0
   have hfz6_1:=zI BK101.out 1
   have hfz6_2:=zI BK101.out 2
   have hfz6_3:=zI BK101.out 3
   have hfz6_4:=zI BK101.out 4
   have hfz6_5:=zI BK101.out 5
   go_wp2
   go_meet
   case rel=>exact ⟨_,(true),(by first|rfl|(simp;done)|(simp [*];done)|(generalize ByteArray.toList _=l_;cases l_ <;> rfl)),H',⟨by first|omega|exact Nat.le_refl _⟩,⟨by (with_reducible repeat (first|apply zN|apply zO|apply zQ));exact HO0.out⟩,⟨by (with_reducible repeat (first|refine zB ?_ _|refine zD ?_|refine zA ?_ _));exact BK101.out⟩,⟨by repeat (first|(with_reducible first|exact HB.out|apply zG|apply zC|apply zH|refine zF ?_ GE101.out)|exact HB.out)⟩⟩
  ·rw [if_neg c5] at H
   have c5b0:decide (a1_0 < 1)=false:=decide_eq_false c5
   clear c5
   (first|rw [c5b0]|(simp only [i64_w,i32_w];rw [c5b0])|skip)
   have H':=Zk H
   clear H
   have hcz7_0:w4.cell? ⟨gb101,0,none⟩=some (.int .i64 a1_0):=(zJ BK101.out 0).trans rfl
   have hcz7_1:w4.cell? ⟨gb101,1,none⟩=some (.int .i64 a1_1):=(zJ BK101.out 1).trans rfl
   have hcz7_2:w4.cell? ⟨gb101,2,none⟩=some (.int .i64 a1_2):=(zJ BK101.out 2).trans rfl
   have hcz7_3:w4.cell? ⟨gb101,3,none⟩=some (.int .i64 a1_3):=(zJ BK101.out 3).trans rfl
   have hcz7_4:w4.cell? ⟨gb101,4,none⟩=some (.int .i64 a1_4):=(zJ BK101.out 4).trans rfl
   have hcz7_5:w4.cell? ⟨gb101,5,none⟩=some (.string a1_5):=(zJ BK101.out 5).trans rfl
   have hfz7_0:=zI BK101.out 0
   have hfz7_1:=zI BK101.out 1
   have hfz7_2:=zI BK101.out 2
   have hfz7_3:=zI BK101.out 3
   have hfz7_4:=zI BK101.out 4
   have hfz7_5:=zI BK101.out 5
   go_wp2
   go_meet
   case rel=>exact ⟨_,(decide (a1_0 > 7)),(by first|rfl|(simp;done)|(simp [*];done)|(generalize ByteArray.toList _=l_;cases l_ <;> rfl)),H',⟨by first|omega|exact Nat.le_refl _⟩,⟨by (with_reducible repeat (first|apply zN|apply zO|apply zQ));exact HO0.out⟩,⟨by (with_reducible repeat (first|refine zB ?_ _|refine zD ?_|refine zA ?_ _));exact BK101.out⟩,⟨by repeat (first|(with_reducible first|exact HB.out|apply zG|apply zC|apply zH|refine zF ?_ GE101.out)|exact HB.out)⟩⟩
 case rest=>
  clear HC3
  try clear c1
  try clear p2
  try clear c5
  try clear c5b0
  try clear hcz6_0
  try clear hcz6_1
  try clear hcz6_2
  try clear hcz6_3
  try clear hcz6_4
  try clear hcz6_5
  try clear hcz7_0
  try clear hcz7_1
  try clear hcz7_2
  try clear hcz7_3
  try clear hcz7_4
  try clear hcz7_5
  try clear hfz6_0
  try clear hfz6_1
  try clear hfz6_2
  try clear hfz6_3
  try clear hfz6_4
  try clear hfz6_5
  try clear hfz7_0
  try clear hfz7_1
  try clear hfz7_2
  try clear hfz7_3
  try clear hfz7_4
  try clear hfz7_5
  obtain ⟨kq,x18_2,rfl,HA,HJ2,HO_0,BK101,HB⟩:=hcut
  cases kq with
  |zero=>exact absurd HA.out (by simp [fdtab_Add.j0])
  |succ kj2=>
   have H:=HA.out
   clear HA
   simp only [fdtab_Add.j0] at H
   by_cases c8:x18_2=true
   ·subst c8
    have H1:(some (l0,0,1))=some (r1,r2,r3):=by rw [if_pos rfl] at H;exact H
    clear H
    have H:=H1
    clear H1
    simp only [Option.some.injEq,Prod.mk.injEq] at H
    obtain ⟨rfl,rfl,rfl⟩:=H
    go_wp2
    go_ret3
    exact ⟨_,by first|rfl|(simp [errW_none,errW_some] <;> rfl)|(simp [*,errW_none,errW_some] <;> rfl),by (with_reducible repeat (first|apply zN|apply zO|apply zQ));exact zU HO_0.out (fun _ hk=>hk.1),by repeat (first|(with_reducible first|exact HB.out|apply zG|apply zC|apply zH|refine zF ?_ GE101.out)|exact HB.out)⟩
   ·replace c8:=Bool.eq_false_iff.mpr c8
    subst c8
    have H1:(fdtab_Add.l0 kj2 l0 l0 (l0.length:Int) 0 a1_0 a1_1 a1_2 a1_3 a1_4 a1_5 0 0 0 0 0 (⟨#[]⟩:ByteArray))=some (r1,r2,r3):=by rw [if_neg (show ¬ (false=true) by decide)] at H;exact H
    clear H
    have H:=H1
    clear H1
    have H':=Zk H
    clear H
    go_wp2_with (first|((with_reducible refine yE (N:=7) rfl ?_);refine box2_event 24 ?hg ?hg2 (N:=7) ?hd ?hd2 (.tmp 20) ?ho2 (cs0:=#[.int .i64 0,.int .i64 0,.int .i64 0,.int .i64 0,.int .i64 0,.string (⟨#[]⟩:ByteArray)]) (cs:=#[.int .i64 0,.int .i64 0,.int .i64 0,.int .i64 0,.int .i64 0,.string (⟨#[]⟩:ByteArray)]) ?hr ?hi ?hs ?h1 ?hp ?hv ?_;(case hd=>rfl);(case hd2=>rfl);(case hg=>rfl);(case hg2=>rfl);(case ho2=>rfl);(case hr=>first|(go_simp;done)|(go_simp;rfl));(case hi=>kernel_rfl);(case hs=>rfl);(case h1=>rfl);(case hp=>intro v_;rfl);(case hv=>intro v_;rfl);intro gb102 hg w9 hbox hb;have n0_:=Zk (zT (V_elderB (by (with_reducible repeat (first|apply zN|apply zO|apply zQ));exact HO_0.out) gb102 (Nat.le_of_eq hg.symm)) hb);have n1_:=Zk (zK (g:=gb101) (o:=.cells #[.int .i64 a1_0,.int .i64 a1_1,.int .i64 a1_2,.int .i64 a1_3,.int .i64 a1_4,.string a1_5] 24 (0,0)) (by (with_reducible repeat (first|refine zB ?_ _|refine zD ?_|refine zA ?_ _));exact BK101.out) hb);have n2_:=Zk (zL (by repeat (first|(with_reducible first|exact HB.out|apply zG|apply zC|apply zH|refine zF ?_ GE101.out)|exact HB.out)) hb);have n3_:=Zk (hbox);have n4_:=Zk ((by rw [hg];exact (zM (by repeat (first|(with_reducible first|exact HB.out|apply zG|apply zC|apply zH|refine zF ?_ GE101.out)|exact HB.out))):w.heap.size≤gb102));have n5_:=Zk ((by rw [hg];exact (zM (by repeat (first|(with_reducible first|exact HB.out|apply zG|apply zC|apply zH|refine zF ?_ GE101.out)|exact HB.out))):w.heap.size≤gb102));have n6_:=Zk ((by rw [hg];exact Nat.ne_of_lt (zX (g:=gb101) (o:=.cells #[.int .i64 a1_0,.int .i64 a1_1,.int .i64 a1_2,.int .i64 a1_3,.int .i64 a1_4,.string a1_5] 24 (0,0)) (by (with_reducible repeat (first|refine zB ?_ _|refine zD ?_|refine zA ?_ _));exact BK101.out)):gb101≠gb102));have n7_:=Zk ((by rw [hg];exact Nat.ne_of_gt (zX (g:=gb101) (o:=.cells #[.int .i64 a1_0,.int .i64 a1_1,.int .i64 a1_2,.int .i64 a1_3,.int .i64 a1_4,.string a1_5] 24 (0,0)) (by (with_reducible repeat (first|refine zB ?_ _|refine zD ?_|refine zA ?_ _));exact BK101.out)):gb102≠gb101));clear HO_0;clear BK101;clear HB;have HO_0:=n0_;have BK101:=n1_;have HB:=n2_;have BK102:=n3_;have GW102:=n4_;have GE102:=n5_;have NB101_102:=n6_;have NB102_101:=n7_;clear n0_ n1_ n2_ n3_ n4_ n5_ n6_ n7_;clear hb hbox hg))
    go_loopg [23] kj2 (fun kq v23 w'=>∃ (x0_2:List (S24)) (x21_2:List (S24)) (x23_2:Int) (x102000_2:Int) (x102001_2:Int) (x102002_2:Int) (x102003_2:Int) (x102004_2:Int) (x102005_2:ByteArray) (x103000_2:Int) (x103001_2:Int) (x103002_2:Int) (x103003_2:Int) (x103004_2:Int) (x103005_2:ByteArray),v23=.int .i64 x23_2∧zR (fdtab_Add.l0 kq x0_2 x21_2 (l0.length:Int) x23_2 x102000_2 x102001_2 x102002_2 x102003_2 x102004_2 x102005_2 x103000_2 x103001_2 x103002_2 x103003_2 x103004_2 x103005_2=some (r1,r2,r3))∧zR (kq≤kj2)∧zR (Kd.V k24 24 w' w.heap.size (fun k_=>(P0_ k_∨w.heap.size≤k_)∧k_≠gb101∧k_≠gb102) (.slice A0 l0.length c0) x0_2)∧zR (Kd.V k24 24 w' w.heap.size (fun k_=>(P0_ k_∨w.heap.size≤k_)∧k_≠gb101∧k_≠gb102) (.slice A0 l0.length c0) x21_2)∧zR (w'.heap[gb101]?=some (.cells #[.int .i64 x102000_2,.int .i64 x102001_2,.int .i64 x102002_2,.int .i64 x102003_2,.int .i64 x102004_2,.string x102005_2] 24 (0,0)))∧zR (w'.heap[gb102]?=some (.cells #[.int .i64 x103000_2,.int .i64 x103001_2,.int .i64 x103002_2,.int .i64 x103003_2,.int .i64 x103004_2,.string x103005_2] 24 (0,0)))∧zR (Below w.heap.size w w'))
    case atStart=>exact ⟨(l0),(l0),(0),(a1_0),(a1_1),(a1_2),(a1_3),(a1_4),(a1_5),(0),(0),(0),(0),(0),((⟨#[]⟩:ByteArray)),(by first|rfl|(simp;done)|(simp [*];done)|(generalize ByteArray.toList _=l_;cases l_ <;> rfl)),H',⟨Nat.le_refl _⟩,⟨by (with_reducible repeat (first|apply zN|apply zO|apply zQ));exact zU HO_0.out (fun _ hk=>⟨hk.1.1,⟨hk.1.2,hk.2⟩⟩)⟩,⟨by (with_reducible repeat (first|apply zN|apply zO|apply zQ));exact zU HO_0.out (fun _ hk=>⟨hk.1.1,⟨hk.1.2,hk.2⟩⟩)⟩,⟨by (with_reducible repeat (first|refine zB ?_ _|refine zD ?_|refine zA ?_ _));exact BK101.out⟩,⟨by (with_reducible repeat (first|refine zB ?_ _|refine zD ?_|refine zA ?_ _));exact BK102.out⟩,⟨by repeat (first|(with_reducible first|exact HB.out|apply zG|apply zC|apply zH|refine zF ?_ GE101.out|refine zF ?_ GE102.out)|exact HB.out)⟩⟩
    case round=>
     clear H'
     try clear c1
     try clear p2
     try clear c5
     try clear c5b0
     try clear c8
     try clear hcz6_0
     try clear hcz6_1
     try clear hcz6_2
     try clear hcz6_3
     try clear hcz6_4
     try clear hcz6_5
     try clear hcz7_0
     try clear hcz7_1
     try clear hcz7_2
     try clear hcz7_3
     try clear hcz7_4
     try clear hcz7_5
     try clear hfz6_0
     try clear hfz6_1
     try clear hfz6_2
     try clear hfz6_3
     try clear hfz6_4
     try clear hfz6_5
     try clear hfz7_0
     try clear hfz7_1
     try clear hfz7_2
     try clear hfz7_3
     try clear hfz7_4
     try clear hfz7_5
     try clear p2
     obtain ⟨x0_2,x21_2,x23_2,x102000_2,x102001_2,x102002_2,x102003_2,x102004_2,x102005_2,x103000_2,x103001_2,x103002_2,x103003_2,x103004_2,x103005_2,rfl,HA,HK2,HO_0,HO_21,BK101,BK102,HB⟩:=hrel
     have hl0_2:=(zY HO_0.out).1
     rw [hl0_2] at HO_0
     (try simp only [hl0_2])
     (try simp only [hl0_2] at BK101)
     (try simp only [hl0_2] at BK102)
     (try simp only [hl0_2] at HO_21)
     obtain rfl:x0_2=x21_2:=C_unique (d:=k24) (fun h1 h2=>by have e1:=k24_open h1;have e2:=k24_open h2;rename_i x_ y_ _;subst e1;obtain ⟨⟩:=x_;obtain ⟨⟩:=y_;simp_all) (zY HO_0.out).2.2 (by have hq_:=(zY HO_21.out).1;have h_:=(zY HO_21.out).2.2;rw [← hq_] at h_;exact h_)
     cases gk with
     |zero=>exact absurd HA.out (by simp [fdtab_Add.l0])
     |succ k2=>
      have H:=HA.out
      clear HA
      simp only [fdtab_Add.l0] at H
      by_cases c10:x23_2 < (l0.length:Int)
      ·rw [if_pos c10] at H
       have c10b0:decide (x23_2 < (l0.length:Int))=true:=decide_eq_true c10
       (try rw [hl0_2] at c10b0)
       clear c10
       by_cases c11:0≤x23_2
       ·rw [if_pos c11] at H
        have c11b0:decide (0≤x23_2)=true:=decide_eq_true c11
        clear c11
        by_cases c12:x23_2 < (x0_2.length:Int)
        ·rw [if_pos c12] at H
         have c12b0:decide (x23_2 < (x0_2.length:Int))=true:=decide_eq_true c12
         clear c12
         by_cases c13:(((rd_T24 x0_2 x23_2).f0) == x103000_2 && (((rd_T24 x0_2 x23_2).f1) == x103001_2 && (((rd_T24 x0_2 x23_2).f2) == x103002_2 && (((rd_T24 x0_2 x23_2).f3) == x103003_2 && (((rd_T24 x0_2 x23_2).f4) == x103004_2 && ((((rd_T24 x0_2 x23_2).f5).toList) == x103005_2.toList))))))=true
         ·rw [if_pos c13] at H
          have c13b0:(((rd_T24 x0_2 x23_2).f0) == x103000_2 && (((rd_T24 x0_2 x23_2).f1) == x103001_2 && (((rd_T24 x0_2 x23_2).f2) == x103002_2 && (((rd_T24 x0_2 x23_2).f3) == x103003_2 && (((rd_T24 x0_2 x23_2).f4) == x103004_2 && ((((rd_T24 x0_2 x23_2).f5).toList) == x103005_2.toList))))))=true:=c13
          (try (have c13bQ:=c13b0;simp only [Bool.and_eq_true,beq_iff_eq] at c13bQ;have c13bP:=eq_true c13bQ;clear c13bQ))
          (try (have c13b1:decide (((rd_T24 x0_2 x23_2).f0)=x103000_2 && (((rd_T24 x0_2 x23_2).f1) == x103001_2 && (((rd_T24 x0_2 x23_2).f2) == x103002_2 && (((rd_T24 x0_2 x23_2).f3) == x103003_2 && (((rd_T24 x0_2 x23_2).f4) == x103004_2 && ((((rd_T24 x0_2 x23_2).f5).toList) == x103005_2.toList))))))=true:=by simpa using c13))
          (try (have c13b2:(((rd_T24 x0_2 x23_2).f0) == x103000_2 && (((rd_T24 x0_2 x23_2).f1) == x103001_2 && (((rd_T24 x0_2 x23_2).f2) == x103002_2 && (((rd_T24 x0_2 x23_2).f3) == x103003_2 && (((rd_T24 x0_2 x23_2).f4) == x103004_2 && ((((rd_T24 x0_2 x23_2).f5).toList) == x103005_2.toList))))))=true:=by simpa using c13))
          clear c13
          replace H:=Option.bind_eq_some_iff.mp H
          obtain ⟨t105,A140,H⟩:=H
          replace H:(if x23_2 < (t105.length:Int) then (some ((t105.set (x23_2:Int).toNat (⟨x102000_2,x102001_2,x102002_2,x102003_2,x102004_2,x102005_2⟩:S24)),x23_2,0)) else (none))=some (r1,r2,r3):=H
          have A14:=Zk A140
          clear A140
          by_cases c15:x23_2 < (t105.length:Int)
          ·rw [if_pos c15] at H
           have c15b0:decide (x23_2 < (t105.length:Int))=true:=decide_eq_true c15
           clear c15
           obtain ⟨y108,hy108⟩:∃ y_:List (S24),y_=(t105.set (x23_2:Int).toNat (⟨x102000_2,x102001_2,x102002_2,x102003_2,x102004_2,x102005_2⟩:S24)):=⟨_,rfl⟩
           replace H:(some (y108,x23_2,0))=some (r1,r2,r3):=by first|(rw [hy108];with_reducible exact H)|(have H2_:=(Option.bind_some _ _).symm.trans H;rw [hy108];with_reducible exact H2_)|(have H2_:=(Option.bind_some _ _).symm.trans H;with_reducible exact H2_)|with_reducible exact H|(rw [hy108];exact H)|exact H
           have Ny108:=Zk hy108
           clear hy108
           simp only [Option.some.injEq,Prod.mk.injEq] at H
           obtain ⟨rfl,rfl,rfl⟩:=H
           have p103:0≤(x23_2:Int):=of_decide_eq_true (by first|(with_reducible assumption)|assumption)
           have q103:x23_2 < (x0_2.length:Int):=of_decide_eq_true (by first|(with_reducible assumption)|assumption)
           obtain ⟨ad103,e103,hx103_0,hx103_1,hx103_2,hx103_3,hx103_4,hx103_5⟩:=at_T24 (zY HO_21.out).2.2 x23_2 p103 q103
           cases e103
           replace p103:=eq_true p103
           replace q103:=eq_true q103
           go_wp2_with (first|((with_reducible refine yE (N:=9) rfl ?_);refine yG ?hg (N:=9) ?hd (cs:=#[.int .i64 0,.int .i64 0,.int .i64 0,.int .i64 0,.int .i64 0,.string (⟨#[]⟩:ByteArray)]) (t:=24) ?hr ?_;(case hd=>rfl);(case hg=>rfl);(case hr=>first|(go_simp;done)|(go_simp;rfl));intro gb104 hg w17 hbox hb;have n0_:=Zk (zT (V_elderB (by (with_reducible repeat (first|apply zN|apply zO|apply zQ));exact HO_0.out) gb104 (Nat.le_of_eq hg.symm)) hb);have n1_:=Zk (zT (V_elderB (by (with_reducible repeat (first|apply zN|apply zO|apply zQ));exact HO_21.out) gb104 (Nat.le_of_eq hg.symm)) hb);have n2_:=Zk (zK (g:=gb101) (o:=.cells #[.int .i64 x102000_2,.int .i64 x102001_2,.int .i64 x102002_2,.int .i64 x102003_2,.int .i64 x102004_2,.string x102005_2] 24 (0,0)) (by (with_reducible repeat (first|refine zB ?_ _|refine zD ?_|refine zA ?_ _));exact BK101.out) hb);have n3_:=Zk (zK (g:=gb102) (o:=.cells #[.int .i64 x103000_2,.int .i64 x103001_2,.int .i64 x103002_2,.int .i64 x103003_2,.int .i64 x103004_2,.string x103005_2] 24 (0,0)) (by (with_reducible repeat (first|refine zB ?_ _|refine zD ?_|refine zA ?_ _));exact BK102.out) hb);have n4_:=Zk (zL (by repeat (first|(with_reducible first|exact HB.out|apply zG|apply zC|apply zH|refine zF ?_ GE101.out|refine zF ?_ GE102.out)|exact HB.out)) hb);have n5_:=Zk (hbox);have n6_:=Zk ((by rw [hg];exact (zM (by repeat (first|(with_reducible first|exact HB.out|apply zG|apply zC|apply zH|refine zF ?_ GE101.out|refine zF ?_ GE102.out)|exact HB.out))):w.heap.size≤gb104));have n7_:=Zk ((by rw [hg];exact (zM (by repeat (first|(with_reducible first|exact HB.out|apply zG|apply zC|apply zH|refine zF ?_ GE101.out|refine zF ?_ GE102.out)|exact HB.out))):w.heap.size≤gb104));have n8_:=Zk ((by rw [hg];exact Nat.ne_of_lt (zX (g:=gb101) (o:=.cells #[.int .i64 x102000_2,.int .i64 x102001_2,.int .i64 x102002_2,.int .i64 x102003_2,.int .i64 x102004_2,.string x102005_2] 24 (0,0)) (by (with_reducible repeat (first|refine zB ?_ _|refine zD ?_|refine zA ?_ _));exact BK101.out)):gb101≠gb104));have n9_:=Zk ((by rw [hg];exact Nat.ne_of_gt (zX (g:=gb101) (o:=.cells #[.int .i64 x102000_2,.int .i64 x102001_2,.int .i64 x102002_2,.int .i64 x102003_2,.int .i64 x102004_2,.string x102005_2] 24 (0,0)) (by (with_reducible repeat (first|refine zB ?_ _|refine zD ?_|refine zA ?_ _));exact BK101.out)):gb104≠gb101));have n10_:=Zk ((by rw [hg];exact Nat.ne_of_lt (zX (g:=gb102) (o:=.cells #[.int .i64 x103000_2,.int .i64 x103001_2,.int .i64 x103002_2,.int .i64 x103003_2,.int .i64 x103004_2,.string x103005_2] 24 (0,0)) (by (with_reducible repeat (first|refine zB ?_ _|refine zD ?_|refine zA ?_ _));exact BK102.out)):gb102≠gb104));have n11_:=Zk ((by rw [hg];exact Nat.ne_of_gt (zX (g:=gb102) (o:=.cells #[.int .i64 x103000_2,.int .i64 x103001_2,.int .i64 x103002_2,.int .i64 x103003_2,.int .i64 x103004_2,.string x103005_2] 24 (0,0)) (by (with_reducible repeat (first|refine zB ?_ _|refine zD ?_|refine zA ?_ _));exact BK102.out)):gb104≠gb102));clear HO_0;clear HO_21;clear BK101;clear BK102;clear HB;have HO_0:=n0_;have HO_21:=n1_;have BK101:=n2_;have BK102:=n3_;have HB:=n4_;have BK104:=n5_;have GW104:=n6_;have GE104:=n7_;have NB101_104:=n8_;have NB104_101:=n9_;have NB102_104:=n10_;have NB104_102:=n11_;clear n0_ n1_ n2_ n3_ n4_ n5_ n6_ n7_ n8_ n9_ n10_ n11_;clear hb hbox hg;have hnb18:=NB104_101.out;have hnc18:=NB101_104.out;have hnb19:=NB104_102.out;have hnc19:=NB102_104.out;have hcz20_0:w17.cell? ⟨gb104,0,none⟩=some (.int .i64 0):=(zJ BK104.out 0).trans rfl;have hcz20_1:w17.cell? ⟨gb104,1,none⟩=some (.int .i64 0):=(zJ BK104.out 1).trans rfl;have hcz20_2:w17.cell? ⟨gb104,2,none⟩=some (.int .i64 0):=(zJ BK104.out 2).trans rfl;have hcz20_3:w17.cell? ⟨gb104,3,none⟩=some (.int .i64 0):=(zJ BK104.out 3).trans rfl;have hcz20_4:w17.cell? ⟨gb104,4,none⟩=some (.int .i64 0):=(zJ BK104.out 4).trans rfl;have hcz20_5:w17.cell? ⟨gb104,5,none⟩=some (.string (⟨#[]⟩:ByteArray)):=(zJ BK104.out 5).trans rfl;have hfz20_0:=zI BK104.out 0;have hfz20_1:=zI BK104.out 1;have hfz20_2:=zI BK104.out 2;have hfz20_3:=zI BK104.out 3;have hfz20_4:=zI BK104.out 4;have hfz20_5:=zI BK104.out 5;have hnb21:=NB102_101.out;have hnc21:=NB101_102.out;have hcz22_0:w17.cell? ⟨gb102,0,none⟩=some (.int .i64 x103000_2):=(zJ BK102.out 0).trans rfl;have hcz22_1:w17.cell? ⟨gb102,1,none⟩=some (.int .i64 x103001_2):=(zJ BK102.out 1).trans rfl;have hcz22_2:w17.cell? ⟨gb102,2,none⟩=some (.int .i64 x103002_2):=(zJ BK102.out 2).trans rfl;have hcz22_3:w17.cell? ⟨gb102,3,none⟩=some (.int .i64 x103003_2):=(zJ BK102.out 3).trans rfl;have hcz22_4:w17.cell? ⟨gb102,4,none⟩=some (.int .i64 x103004_2):=(zJ BK102.out 4).trans rfl;have hcz22_5:w17.cell? ⟨gb102,5,none⟩=some (.string x103005_2):=(zJ BK102.out 5).trans rfl;have hfz22_0:=zI BK102.out 0;have hfz22_1:=zI BK102.out 1;have hfz22_2:=zI BK102.out 2;have hfz22_3:=zI BK102.out 3;have hfz22_4:=zI BK102.out 4;have hfz22_5:=zI BK102.out 5)|((with_reducible refine zW (f:=32) rfl ?_);refine yF (some 37) rfl rfl Try.func32 (by kernel_rfl) rfl #[.slice (some ad103) x0_2.length c0] rfl (by (try simp only [List.map_toArray,List.map_cons,List.map_nil]);first|done|rfl|(simp only [List.length_drop,List.length_take];rfl)) ?_;(with_reducible refine (api_Desc.calls _ _ x0_2 t105 _ ?side1 ?side2 A14.out).mono ?_);(case side1=>refine (zY (e:=24) (base:=w.heap.size) (ok:=fun k_=>(((P0_ k_∨w.heap.size≤k_)∧(k_≠gb101∧k_≠gb102))∧k_≠gb104)) (n:=x0_2.length) (c:=c0) ?_).2.2;exact (by (with_reducible repeat (first|apply zN|apply zO|apply zQ));exact (zU (zV (p:=⟨gb104,5,none⟩) (zV (p:=⟨gb104,4,none⟩) (zV (p:=⟨gb104,3,none⟩) (zV (p:=⟨gb104,2,none⟩) (zV (p:=⟨gb104,1,none⟩) (zV (p:=⟨gb104,0,none⟩) (zU HO_0.out (fun k_ hk=>(⟨hk,hk.2⟩:_∧k_≠gb104))) (fun _ hk=>hk.2) (.int .i64 ((rd_T24 x0_2 x23_2).f0))) (fun _ hk=>hk.2) (.int .i64 ((rd_T24 x0_2 x23_2).f1))) (fun _ hk=>hk.2) (.int .i64 ((rd_T24 x0_2 x23_2).f2))) (fun _ hk=>hk.2) (.int .i64 ((rd_T24 x0_2 x23_2).f3))) (fun _ hk=>hk.2) (.int .i64 ((rd_T24 x0_2 x23_2).f4))) (fun _ hk=>hk.2) (.string ((rd_T24 x0_2 x23_2).f5))) (fun _ h_=>h_.1))));(case side2=>exact (zY HO_0.out).2.1);rintro e w23 ⟨v106,rfl,ho0,hb⟩;refine ⟨_,rfl,?_⟩;have n0_:=Zk (V_elder' (by (with_reducible repeat (first|apply zN|apply zO|apply zQ));exact (zU (zV (p:=⟨gb104,5,none⟩) (zV (p:=⟨gb104,4,none⟩) (zV (p:=⟨gb104,3,none⟩) (zV (p:=⟨gb104,2,none⟩) (zV (p:=⟨gb104,1,none⟩) (zV (p:=⟨gb104,0,none⟩) (zU HO_0.out (fun k_ hk=>(⟨hk,hk.2⟩:_∧k_≠gb104))) (fun _ hk=>hk.2) (.int .i64 ((rd_T24 x0_2 x23_2).f0))) (fun _ hk=>hk.2) (.int .i64 ((rd_T24 x0_2 x23_2).f1))) (fun _ hk=>hk.2) (.int .i64 ((rd_T24 x0_2 x23_2).f2))) (fun _ hk=>hk.2) (.int .i64 ((rd_T24 x0_2 x23_2).f3))) (fun _ hk=>hk.2) (.int .i64 ((rd_T24 x0_2 x23_2).f4))) (fun _ hk=>hk.2) (.string ((rd_T24 x0_2 x23_2).f5))) (fun _ h_=>h_.1))) (R_base ho0) hb);have n1_:=Zk (V_elder' (by (with_reducible repeat (first|apply zN|apply zO|apply zQ));exact (zU (zV (p:=⟨gb104,5,none⟩) (zV (p:=⟨gb104,4,none⟩) (zV (p:=⟨gb104,3,none⟩) (zV (p:=⟨gb104,2,none⟩) (zV (p:=⟨gb104,1,none⟩) (zV (p:=⟨gb104,0,none⟩) (zU HO_21.out (fun k_ hk=>(⟨hk,hk.2⟩:_∧k_≠gb104))) (fun _ hk=>hk.2) (.int .i64 ((rd_T24 x0_2 x23_2).f0))) (fun _ hk=>hk.2) (.int .i64 ((rd_T24 x0_2 x23_2).f1))) (fun _ hk=>hk.2) (.int .i64 ((rd_T24 x0_2 x23_2).f2))) (fun _ hk=>hk.2) (.int .i64 ((rd_T24 x0_2 x23_2).f3))) (fun _ hk=>hk.2) (.int .i64 ((rd_T24 x0_2 x23_2).f4))) (fun _ hk=>hk.2) (.string ((rd_T24 x0_2 x23_2).f5))) (fun _ h_=>h_.1))) (R_base ho0) hb);have n2_:=Zk (R_lower (R_newB (R_newB (R_newB (R_newM (M:=fun k_=>(w.heap.size≤k_)) ho0 (zM (by repeat (first|(with_reducible first|exact HB.out|apply zG|apply zC|apply zH|refine zF ?_ GE101.out|refine zF ?_ GE102.out|refine zF ?_ GE104.out)|exact HB.out))) (fun k_ h_=>h_)) (g:=gb101) (o:=.cells #[.int .i64 x102000_2,.int .i64 x102001_2,.int .i64 x102002_2,.int .i64 x102003_2,.int .i64 x102004_2,.string x102005_2] 24 (0,0)) (by (with_reducible repeat (first|refine zB ?_ _|refine zD ?_|refine zA ?_ _));refine zP ?_ NB101_104.out _;(with_reducible repeat (first|refine zB ?_ _|refine zD ?_|refine zA ?_ _));refine zP ?_ NB101_104.out _;(with_reducible repeat (first|refine zB ?_ _|refine zD ?_|refine zA ?_ _));refine zP ?_ NB101_104.out _;(with_reducible repeat (first|refine zB ?_ _|refine zD ?_|refine zA ?_ _));refine zP ?_ NB101_104.out _;(with_reducible repeat (first|refine zB ?_ _|refine zD ?_|refine zA ?_ _));refine zP ?_ NB101_104.out _;(with_reducible repeat (first|refine zB ?_ _|refine zD ?_|refine zA ?_ _));refine zP ?_ NB101_104.out _;(with_reducible repeat (first|refine zB ?_ _|refine zD ?_|refine zA ?_ _));exact BK101.out)) (g:=gb102) (o:=.cells #[.int .i64 x103000_2,.int .i64 x103001_2,.int .i64 x103002_2,.int .i64 x103003_2,.int .i64 x103004_2,.string x103005_2] 24 (0,0)) (by (with_reducible repeat (first|refine zB ?_ _|refine zD ?_|refine zA ?_ _));refine zP ?_ NB102_104.out _;(with_reducible repeat (first|refine zB ?_ _|refine zD ?_|refine zA ?_ _));refine zP ?_ NB102_104.out _;(with_reducible repeat (first|refine zB ?_ _|refine zD ?_|refine zA ?_ _));refine zP ?_ NB102_104.out _;(with_reducible repeat (first|refine zB ?_ _|refine zD ?_|refine zA ?_ _));refine zP ?_ NB102_104.out _;(with_reducible repeat (first|refine zB ?_ _|refine zD ?_|refine zA ?_ _));refine zP ?_ NB102_104.out _;(with_reducible repeat (first|refine zB ?_ _|refine zD ?_|refine zA ?_ _));refine zP ?_ NB102_104.out _;(with_reducible repeat (first|refine zB ?_ _|refine zD ?_|refine zA ?_ _));exact BK102.out)) (g:=gb104) (o:=.cells #[.int .i64 ((rd_T24 x0_2 x23_2).f0),.int .i64 ((rd_T24 x0_2 x23_2).f1),.int .i64 ((rd_T24 x0_2 x23_2).f2),.int .i64 ((rd_T24 x0_2 x23_2).f3),.int .i64 ((rd_T24 x0_2 x23_2).f4),.string ((rd_T24 x0_2 x23_2).f5)] 24 (0,0)) (by (with_reducible repeat (first|refine zB ?_ _|refine zD ?_|refine zA ?_ _));refine zS (cs:=#[.int .i64 ((rd_T24 x0_2 x23_2).f0),.int .i64 ((rd_T24 x0_2 x23_2).f1),.int .i64 ((rd_T24 x0_2 x23_2).f2),.int .i64 ((rd_T24 x0_2 x23_2).f3),.int .i64 ((rd_T24 x0_2 x23_2).f4),.string (⟨#[]⟩:ByteArray)]) ?_ 5 _ rfl;(with_reducible repeat (first|refine zB ?_ _|refine zD ?_|refine zA ?_ _));refine zS (cs:=#[.int .i64 ((rd_T24 x0_2 x23_2).f0),.int .i64 ((rd_T24 x0_2 x23_2).f1),.int .i64 ((rd_T24 x0_2 x23_2).f2),.int .i64 ((rd_T24 x0_2 x23_2).f3),.int .i64 0,.string (⟨#[]⟩:ByteArray)]) ?_ 4 _ rfl;(with_reducible repeat (first|refine zB ?_ _|refine zD ?_|refine zA ?_ _));refine zS (cs:=#[.int .i64 ((rd_T24 x0_2 x23_2).f0),.int .i64 ((rd_T24 x0_2 x23_2).f1),.int .i64 ((rd_T24 x0_2 x23_2).f2),.int .i64 0,.int .i64 0,.string (⟨#[]⟩:ByteArray)]) ?_ 3 _ rfl;(with_reducible repeat (first|refine zB ?_ _|refine zD ?_|refine zA ?_ _));refine zS (cs:=#[.int .i64 ((rd_T24 x0_2 x23_2).f0),.int .i64 ((rd_T24 x0_2 x23_2).f1),.int .i64 0,.int .i64 0,.int .i64 0,.string (⟨#[]⟩:ByteArray)]) ?_ 2 _ rfl;(with_reducible repeat (first|refine zB ?_ _|refine zD ?_|refine zA ?_ _));refine zS (cs:=#[.int .i64 ((rd_T24 x0_2 x23_2).f0),.int .i64 0,.int .i64 0,.int .i64 0,.int .i64 0,.string (⟨#[]⟩:ByteArray)]) ?_ 1 _ rfl;(with_reducible repeat (first|refine zB ?_ _|refine zD ?_|refine zA ?_ _));refine zS (cs:=#[.int .i64 0,.int .i64 0,.int .i64 0,.int .i64 0,.int .i64 0,.string (⟨#[]⟩:ByteArray)]) ?_ 0 _ rfl;(with_reducible repeat (first|refine zB ?_ _|refine zD ?_|refine zA ?_ _));exact BK104.out)) (zM (by repeat (first|(with_reducible first|exact HB.out|apply zG|apply zC|apply zH|refine zF ?_ GE101.out|refine zF ?_ GE102.out|refine zF ?_ GE104.out)|exact HB.out))));have n3_:=Zk (zK (g:=gb101) (o:=.cells #[.int .i64 x102000_2,.int .i64 x102001_2,.int .i64 x102002_2,.int .i64 x102003_2,.int .i64 x102004_2,.string x102005_2] 24 (0,0)) (by (with_reducible repeat (first|refine zB ?_ _|refine zD ?_|refine zA ?_ _));refine zP ?_ NB101_104.out _;(with_reducible repeat (first|refine zB ?_ _|refine zD ?_|refine zA ?_ _));refine zP ?_ NB101_104.out _;(with_reducible repeat (first|refine zB ?_ _|refine zD ?_|refine zA ?_ _));refine zP ?_ NB101_104.out _;(with_reducible repeat (first|refine zB ?_ _|refine zD ?_|refine zA ?_ _));refine zP ?_ NB101_104.out _;(with_reducible repeat (first|refine zB ?_ _|refine zD ?_|refine zA ?_ _));refine zP ?_ NB101_104.out _;(with_reducible repeat (first|refine zB ?_ _|refine zD ?_|refine zA ?_ _));refine zP ?_ NB101_104.out _;(with_reducible repeat (first|refine zB ?_ _|refine zD ?_|refine zA ?_ _));exact BK101.out) hb);have n4_:=Zk (zK (g:=gb102) (o:=.cells #[.int .i64 x103000_2,.int .i64 x103001_2,.int .i64 x103002_2,.int .i64 x103003_2,.int .i64 x103004_2,.string x103005_2] 24 (0,0)) (by (with_reducible repeat (first|refine zB ?_ _|refine zD ?_|refine zA ?_ _));refine zP ?_ NB102_104.out _;(with_reducible repeat (first|refine zB ?_ _|refine zD ?_|refine zA ?_ _));refine zP ?_ NB102_104.out _;(with_reducible repeat (first|refine zB ?_ _|refine zD ?_|refine zA ?_ _));refine zP ?_ NB102_104.out _;(with_reducible repeat (first|refine zB ?_ _|refine zD ?_|refine zA ?_ _));refine zP ?_ NB102_104.out _;(with_reducible repeat (first|refine zB ?_ _|refine zD ?_|refine zA ?_ _));refine zP ?_ NB102_104.out _;(with_reducible repeat (first|refine zB ?_ _|refine zD ?_|refine zA ?_ _));refine zP ?_ NB102_104.out _;(with_reducible repeat (first|refine zB ?_ _|refine zD ?_|refine zA ?_ _));exact BK102.out) hb);have n5_:=Zk (zK (g:=gb104) (o:=.cells #[.int .i64 ((rd_T24 x0_2 x23_2).f0),.int .i64 ((rd_T24 x0_2 x23_2).f1),.int .i64 ((rd_T24 x0_2 x23_2).f2),.int .i64 ((rd_T24 x0_2 x23_2).f3),.int .i64 ((rd_T24 x0_2 x23_2).f4),.string ((rd_T24 x0_2 x23_2).f5)] 24 (0,0)) (by (with_reducible repeat (first|refine zB ?_ _|refine zD ?_|refine zA ?_ _));refine zS (cs:=#[.int .i64 ((rd_T24 x0_2 x23_2).f0),.int .i64 ((rd_T24 x0_2 x23_2).f1),.int .i64 ((rd_T24 x0_2 x23_2).f2),.int .i64 ((rd_T24 x0_2 x23_2).f3),.int .i64 ((rd_T24 x0_2 x23_2).f4),.string (⟨#[]⟩:ByteArray)]) ?_ 5 _ rfl;(with_reducible repeat (first|refine zB ?_ _|refine zD ?_|refine zA ?_ _));refine zS (cs:=#[.int .i64 ((rd_T24 x0_2 x23_2).f0),.int .i64 ((rd_T24 x0_2 x23_2).f1),.int .i64 ((rd_T24 x0_2 x23_2).f2),.int .i64 ((rd_T24 x0_2 x23_2).f3),.int .i64 0,.string (⟨#[]⟩:ByteArray)]) ?_ 4 _ rfl;(with_reducible repeat (first|refine zB ?_ _|refine zD ?_|refine zA ?_ _));refine zS (cs:=#[.int .i64 ((rd_T24 x0_2 x23_2).f0),.int .i64 ((rd_T24 x0_2 x23_2).f1),.int .i64 ((rd_T24 x0_2 x23_2).f2),.int .i64 0,.int .i64 0,.string (⟨#[]⟩:ByteArray)]) ?_ 3 _ rfl;(with_reducible repeat (first|refine zB ?_ _|refine zD ?_|refine zA ?_ _));refine zS (cs:=#[.int .i64 ((rd_T24 x0_2 x23_2).f0),.int .i64 ((rd_T24 x0_2 x23_2).f1),.int .i64 0,.int .i64 0,.int .i64 0,.string (⟨#[]⟩:ByteArray)]) ?_ 2 _ rfl;(with_reducible repeat (first|refine zB ?_ _|refine zD ?_|refine zA ?_ _));refine zS (cs:=#[.int .i64 ((rd_T24 x0_2 x23_2).f0),.int .i64 0,.int .i64 0,.int .i64 0,.int .i64 0,.string (⟨#[]⟩:ByteArray)]) ?_ 1 _ rfl;(with_reducible repeat (first|refine zB ?_ _|refine zD ?_|refine zA ?_ _));refine zS (cs:=#[.int .i64 0,.int .i64 0,.int .i64 0,.int .i64 0,.int .i64 0,.string (⟨#[]⟩:ByteArray)]) ?_ 0 _ rfl;(with_reducible repeat (first|refine zB ?_ _|refine zD ?_|refine zA ?_ _));exact BK104.out) hb);have n6_:=Zk (zL (by repeat (first|(with_reducible first|exact HB.out|apply zG|apply zC|apply zH|refine zF ?_ GE101.out|refine zF ?_ GE102.out|refine zF ?_ GE104.out)|exact HB.out)) hb);clear HO_0;clear HO_21;clear BK101;clear BK102;clear BK104;clear HB;have HO_0:=n0_;have HO_21:=n1_;have HO107:=n2_;have BK101:=n3_;have BK102:=n4_;have BK104:=n5_;have HB:=n6_;clear n0_ n1_ n2_ n3_ n4_ n5_ n6_;(try clear hb);(try clear hb2);(try clear hk);(try clear hi);(try clear ho0);have hcz24_0:w23.cell? ⟨gb101,0,none⟩=some (.int .i64 x102000_2):=(zJ BK101.out 0).trans rfl;have hcz24_1:w23.cell? ⟨gb101,1,none⟩=some (.int .i64 x102001_2):=(zJ BK101.out 1).trans rfl;have hcz24_2:w23.cell? ⟨gb101,2,none⟩=some (.int .i64 x102002_2):=(zJ BK101.out 2).trans rfl;have hcz24_3:w23.cell? ⟨gb101,3,none⟩=some (.int .i64 x102003_2):=(zJ BK101.out 3).trans rfl;have hcz24_4:w23.cell? ⟨gb101,4,none⟩=some (.int .i64 x102004_2):=(zJ BK101.out 4).trans rfl;have hcz24_5:w23.cell? ⟨gb101,5,none⟩=some (.string x102005_2):=(zJ BK101.out 5).trans rfl;have hfz24_0:=zI BK101.out 0;have hfz24_1:=zI BK101.out 1;have hfz24_2:=zI BK101.out 2;have hfz24_3:=zI BK101.out 3;have hfz24_4:=zI BK101.out 4;have hfz24_5:=zI BK101.out 5;have p16:0≤(x23_2:Int):=of_decide_eq_true (by first|(with_reducible assumption)|assumption);have q16:(x23_2:Int) < ((t105.length:Int):Int):=of_decide_eq_true (by first|(with_reducible assumption)|assumption);obtain ⟨go16,co16,eo16,gb16,gl16,cl16,HG16⟩:=R_form HO107.out (by omega);(first|cases eo16|(injection eo16 with ea_ en_ ec_;(first|subst ea_|(injection ea_ with ea_;subst ea_));subst ec_;clear en_));have GB16:=Zk gb16;have GG16:=Zk HG16;clear gb16 gl16 HG16;obtain ⟨ce16,hcl16,hM16,hcc16,hfr16⟩:=R_elem HO107.out z24 (x23_2:Int) p16 q16;obtain rfl:=k24_openM hM16;have hx16_0:w23.cell? ⟨go16,(x23_2:Int).toNat * 6,none⟩=some (.int .i64 ((rd_T24 t105 x23_2).f0)):=hcc16 0 _ rfl;have hx16_1:w23.cell? ⟨go16,(x23_2:Int).toNat * 6 + 1,none⟩=some (.int .i64 ((rd_T24 t105 x23_2).f1)):=hcc16 1 _ rfl;have hx16_2:w23.cell? ⟨go16,(x23_2:Int).toNat * 6 + 2,none⟩=some (.int .i64 ((rd_T24 t105 x23_2).f2)):=hcc16 2 _ rfl;have hx16_3:w23.cell? ⟨go16,(x23_2:Int).toNat * 6 + 3,none⟩=some (.int .i64 ((rd_T24 t105 x23_2).f3)):=hcc16 3 _ rfl;have hx16_4:w23.cell? ⟨go16,(x23_2:Int).toNat * 6 + 4,none⟩=some (.int .i64 ((rd_T24 t105 x23_2).f4)):=hcc16 4 _ rfl;have hx16_5:w23.cell? ⟨go16,(x23_2:Int).toNat * 6 + 5,none⟩=some (.string ((rd_T24 t105 x23_2).f5)):=hcc16 5 _ rfl;have hf16_0:w23.frozen? ⟨go16,(x23_2:Int).toNat * 6,none⟩=false:=hfr16 0;have hf16_1:w23.frozen? ⟨go16,(x23_2:Int).toNat * 6 + 1,none⟩=false:=hfr16 1;have hf16_2:w23.frozen? ⟨go16,(x23_2:Int).toNat * 6 + 2,none⟩=false:=hfr16 2;have hf16_3:w23.frozen? ⟨go16,(x23_2:Int).toNat * 6 + 3,none⟩=false:=hfr16 3;have hf16_4:w23.frozen? ⟨go16,(x23_2:Int).toNat * 6 + 4,none⟩=false:=hfr16 4;have hf16_5:w23.frozen? ⟨go16,(x23_2:Int).toNat * 6 + 5,none⟩=false:=hfr16 5;clear hcl16 hcc16 hfr16 hM16;replace p16:=eq_true p16;replace q16:=eq_true q16;have n_:=Zk (R_mono (ok':=(fun k_=>(w.heap.size≤k_)∧k_≠gb101∧k_≠gb102∧k_≠gb104)) HO107.out (fun k_ hk=>⟨hk.1.1.1.1,⟨hk.1.1.2,⟨hk.1.2,hk.2⟩⟩⟩));clear HO107;have HO107:=n_;clear n_;have HX25:=Zk (show Kd.R k24 24 w23 w.heap.size (fun k_=>(w.heap.size≤k_)∧k_≠gb101∧k_≠gb102∧k_≠gb104) (.slice (some ⟨go16,0,none⟩) t105.length co16) t105 from (by (with_reducible repeat (first|apply yA|apply zZ|apply yB));exact HO107.out));obtain ⟨ce25,hcl25,hM25,hcc25,hfr25⟩:=R_elem HX25.out z24 (x23_2:Int) (of_decide_eq_true (by first|(with_reducible assumption)|assumption)) (by have h_:(x23_2:Int) < ((t105.length:Int):Int):=of_decide_eq_true (by first|(with_reducible assumption)|assumption);first|exact h_|(have e_:=(R_reads' HO107.out).1;omega)|simpa using h_);obtain rfl:=k24_openM hM25;have HP25:=R_seg HX25.out (x23_2:Int) (of_decide_eq_true (by first|(with_reducible assumption)|assumption)) (by have h_:(x23_2:Int) < ((t105.length:Int):Int):=of_decide_eq_true (by first|(with_reducible assumption)|assumption);first|exact h_|(have e_:=(R_reads' HO107.out).1;omega)|simpa using h_) (seg:=[.int .i64 x102000_2,.int .i64 x102001_2,.int .i64 x102002_2,.int .i64 x102003_2,.int .i64 x102004_2,.string x102005_2]) (j:=0) hcl25 hcc25 (show 6≤6 from by decide) (x':=(⟨x102000_2,x102001_2,x102002_2,x102003_2,x102004_2,x102005_2⟩:S24)) (k24_mkM _ _ _ (⟨x102000_2,x102001_2,x102002_2,x102003_2,x102004_2,x102005_2⟩:S24) ) (fun _ hk=>hk);have hx25_0:=hcc25 0 _ rfl;(try simp only [show (k24).sz=6 from rfl,Nat.mul_one,Nat.add_zero] at hx25_0);have hf25_0:=hfr25 0;(try simp only [show (k24).sz=6 from rfl,Nat.mul_one,Nat.add_zero] at hf25_0);have hx25_1:=hcc25 1 _ rfl;(try simp only [show (k24).sz=6 from rfl,Nat.mul_one,Nat.add_zero] at hx25_1);have hf25_1:=hfr25 1;(try simp only [show (k24).sz=6 from rfl,Nat.mul_one,Nat.add_zero] at hf25_1);have hx25_2:=hcc25 2 _ rfl;(try simp only [show (k24).sz=6 from rfl,Nat.mul_one,Nat.add_zero] at hx25_2);have hf25_2:=hfr25 2;(try simp only [show (k24).sz=6 from rfl,Nat.mul_one,Nat.add_zero] at hf25_2);have hx25_3:=hcc25 3 _ rfl;(try simp only [show (k24).sz=6 from rfl,Nat.mul_one,Nat.add_zero] at hx25_3);have hf25_3:=hfr25 3;(try simp only [show (k24).sz=6 from rfl,Nat.mul_one,Nat.add_zero] at hf25_3);have hx25_4:=hcc25 4 _ rfl;(try simp only [show (k24).sz=6 from rfl,Nat.mul_one,Nat.add_zero] at hx25_4);have hf25_4:=hfr25 4;(try simp only [show (k24).sz=6 from rfl,Nat.mul_one,Nat.add_zero] at hf25_4);have hx25_5:=hcc25 5 _ rfl;(try simp only [show (k24).sz=6 from rfl,Nat.mul_one,Nat.add_zero] at hx25_5);have hf25_5:=hfr25 5;(try simp only [show (k24).sz=6 from rfl,Nat.mul_one,Nat.add_zero] at hf25_5);clear hcl25 hcc25 hfr25 hM25)|((with_reducible refine gate_store (t:=24) (p:=41) rfl ?_);refine store_event (t:=24) (p:=41) (v:=?vo_w26) (w1:=((((((w23.setCell ⟨go16,(x23_2:Int).toNat * 6,none⟩ (.int .i64 x102000_2)).setCell ⟨go16,(x23_2:Int).toNat * 6 + 1,none⟩ (.int .i64 x102001_2)).setCell ⟨go16,(x23_2:Int).toNat * 6 + 2,none⟩ (.int .i64 x102002_2)).setCell ⟨go16,(x23_2:Int).toNat * 6 + 3,none⟩ (.int .i64 x102003_2)).setCell ⟨go16,(x23_2:Int).toNat * 6 + 4,none⟩ (.int .i64 x102004_2)).setCell ⟨go16,(x23_2:Int).toNat * 6 + 5,none⟩ (.string x102005_2))) ?hg ?ho ?hn ?hr ?_;(case ho=>rfl);(case hg=>rfl);(case hn=>rfl);(case hr=>first|(go_simp;done)|(go_simp;rfl));intro w26 hw;have hg:w23.grownBy w26 (some go16):=(by rw [hw];exact HP25.2);have hp_:Kd.R k24 24 w26 w.heap.size (fun k_=>(w.heap.size≤k_)∧k_≠gb101∧k_≠gb102∧k_≠gb104) (.slice (some ⟨go16,0,none⟩) t105.length co16) y108:=(by rw [hw,Ny108.out];exact HP25.1);clear HP25;have n0_:=Zk (V_afterv (v:=(.slice (some ⟨go16,0,none⟩) t105.length co16)) (v1:=(.slice (some ⟨go16,0,none⟩) t105.length co16)) (ok:=(fun k_=>(P0_ k_∨w.heap.size≤k_)∧k_≠gb101∧k_≠gb102∧k_≠gb104)) (by (with_reducible repeat (first|apply zN|apply zO|apply zQ));exact zU HO_0.out (fun _ hk=>⟨⟨hk.1.1.1,⟨hk.1.1.2.1,⟨hk.1.1.2.2,hk.1.2⟩⟩⟩,hk.2⟩)) hg (.inl rfl));have n1_:=Zk (V_afterv (v:=(.slice (some ⟨go16,0,none⟩) t105.length co16)) (v1:=(.slice (some ⟨go16,0,none⟩) t105.length co16)) (ok:=(fun k_=>(P0_ k_∨w.heap.size≤k_)∧k_≠gb101∧k_≠gb102∧k_≠gb104)) (by (with_reducible repeat (first|apply zN|apply zO|apply zQ));exact zU HO_21.out (fun _ hk=>⟨⟨hk.1.1.1,⟨hk.1.1.2.1,⟨hk.1.1.2.2,hk.1.2⟩⟩⟩,hk.2⟩)) hg (.inl rfl));have n2_:=Zk (blk_grown (g:=gb101) (o:=.cells #[.int .i64 x102000_2,.int .i64 x102001_2,.int .i64 x102002_2,.int .i64 x102003_2,.int .i64 x102004_2,.string x102005_2] 24 (0,0)) (by (with_reducible repeat (first|refine zB ?_ _|refine zD ?_|refine zA ?_ _));exact BK101.out) hg (R_away HO107.out (fun _ hk=>hk.2.1)));have n3_:=Zk (blk_grown (g:=gb102) (o:=.cells #[.int .i64 x103000_2,.int .i64 x103001_2,.int .i64 x103002_2,.int .i64 x103003_2,.int .i64 x103004_2,.string x103005_2] 24 (0,0)) (by (with_reducible repeat (first|refine zB ?_ _|refine zD ?_|refine zA ?_ _));exact BK102.out) hg (R_away HO107.out (fun _ hk=>hk.2.2.1)));have n4_:=Zk (blk_grown (g:=gb104) (o:=.cells #[.int .i64 ((rd_T24 x0_2 x23_2).f0),.int .i64 ((rd_T24 x0_2 x23_2).f1),.int .i64 ((rd_T24 x0_2 x23_2).f2),.int .i64 ((rd_T24 x0_2 x23_2).f3),.int .i64 ((rd_T24 x0_2 x23_2).f4),.string ((rd_T24 x0_2 x23_2).f5)] 24 (0,0)) (by (with_reducible repeat (first|refine zB ?_ _|refine zD ?_|refine zA ?_ _));exact BK104.out) hg (R_away HO107.out (fun _ hk=>hk.2.2.2)));have n5_:=Zk (hp_);have n6_:=Zk ((by rw [hw];exact zF (zF (zF (zF (zF (zF (HB.out) GB16.out) GB16.out) GB16.out) GB16.out) GB16.out) GB16.out:Below w.heap.size w w26));clear HO_0;clear HO_21;clear BK101;clear BK102;clear BK104;clear HO107;clear HB;have HO_0:=n0_;have HO_21:=n1_;have BK101:=n2_;have BK102:=n3_;have BK104:=n4_;have HO107:=n5_;have HB:=n6_;clear n0_ n1_ n2_ n3_ n4_ n5_ n6_;clear hg hw hp_))
           go_ret3
           exact ⟨_,by first|rfl|(simp [errW_none,errW_some] <;> rfl)|(simp [*,errW_none,errW_some] <;> rfl),zU (R_V (by (with_reducible repeat (first|apply yA|apply zZ|apply yB));exact R_mono HO107.out (fun _ hk=>hk.1))) (fun k_ hk=>by first|exact ⟨(.inr (hk.1)),hk.2⟩|exact (.inr (hk))),by repeat (first|(with_reducible first|exact HB.out|apply zG|apply zC|apply zH|refine zF ?_ GE101.out|refine zF ?_ GE102.out|refine zF ?_ GE104.out)|exact HB.out)⟩
          ·rw [if_neg c15] at H
           exact absurd H (by simp)
         ·rw [if_neg c13] at H
          have c13b0:(((rd_T24 x0_2 x23_2).f0) == x103000_2 && (((rd_T24 x0_2 x23_2).f1) == x103001_2 && (((rd_T24 x0_2 x23_2).f2) == x103002_2 && (((rd_T24 x0_2 x23_2).f3) == x103003_2 && (((rd_T24 x0_2 x23_2).f4) == x103004_2 && ((((rd_T24 x0_2 x23_2).f5).toList) == x103005_2.toList))))))=false:=by simpa using c13
          (try (have c13bQ:=c13b0;rw [← Bool.not_eq_true] at c13bQ;simp only [Bool.and_eq_true,beq_iff_eq] at c13bQ;have c13bP:=eq_false c13bQ;clear c13bQ))
          (try (have c13b1:decide (((rd_T24 x0_2 x23_2).f0)=x103000_2 && (((rd_T24 x0_2 x23_2).f1) == x103001_2 && (((rd_T24 x0_2 x23_2).f2) == x103002_2 && (((rd_T24 x0_2 x23_2).f3) == x103003_2 && (((rd_T24 x0_2 x23_2).f4) == x103004_2 && ((((rd_T24 x0_2 x23_2).f5).toList) == x103005_2.toList))))))=false:=by simpa using c13))
          (try (have c13b2:(((rd_T24 x0_2 x23_2).f0) == x103000_2 && (((rd_T24 x0_2 x23_2).f1) == x103001_2 && (((rd_T24 x0_2 x23_2).f2) == x103002_2 && (((rd_T24 x0_2 x23_2).f3) == x103003_2 && (((rd_T24 x0_2 x23_2).f4) == x103004_2 && ((((rd_T24 x0_2 x23_2).f5).toList) == x103005_2.toList))))))=false:=by simpa using c13))
          (try (have c13b3:¬ (((rd_T24 x0_2 x23_2).f0)=x103000_2 && (((rd_T24 x0_2 x23_2).f1) == x103001_2 && (((rd_T24 x0_2 x23_2).f2) == x103002_2 && (((rd_T24 x0_2 x23_2).f3) == x103003_2 && (((rd_T24 x0_2 x23_2).f4) == x103004_2 && ((((rd_T24 x0_2 x23_2).f5).toList) == x103005_2.toList)))))):=by simpa using c13))
          clear c13
          by_cases c27:((rd_T24 x0_2 x23_2).f0)=0
          ·rw [if_pos c27] at H
           have c27b0:(((rd_T24 x0_2 x23_2).f0) == 0)=true:=beq_iff_eq.mpr c27
           have c27b1:(((rd_T24 x0_2 x23_2).f0) != 0)=false:=bne_eq_false_iff_eq.mpr c27
           clear c27
           replace H:=Option.bind_eq_some_iff.mp H
           obtain ⟨t109,A280,H⟩:=H
           replace H:(if x23_2 < (t109.length:Int) then (some ((t109.set (x23_2:Int).toNat (⟨x102000_2,x102001_2,x102002_2,x102003_2,x102004_2,x102005_2⟩:S24)),x23_2,0)) else (none))=some (r1,r2,r3):=H
           have A28:=Zk A280
           clear A280
           by_cases c29:x23_2 < (t109.length:Int)
           ·rw [if_pos c29] at H
            have c29b0:decide (x23_2 < (t109.length:Int))=true:=decide_eq_true c29
            clear c29
            obtain ⟨y112,hy112⟩:∃ y_:List (S24),y_=(t109.set (x23_2:Int).toNat (⟨x102000_2,x102001_2,x102002_2,x102003_2,x102004_2,x102005_2⟩:S24)):=⟨_,rfl⟩
            replace H:(some (y112,x23_2,0))=some (r1,r2,r3):=by first|(rw [hy112];with_reducible exact H)|(have H2_:=(Option.bind_some _ _).symm.trans H;rw [hy112];with_reducible exact H2_)|(have H2_:=(Option.bind_some _ _).symm.trans H;with_reducible exact H2_)|with_reducible exact H|(rw [hy112];exact H)|exact H
            have Ny112:=Zk hy112
            clear hy112
            simp only [Option.some.injEq,Prod.mk.injEq] at H
            obtain ⟨rfl,rfl,rfl⟩:=H
            have p103:0≤(x23_2:Int):=of_decide_eq_true (by first|(with_reducible assumption)|assumption)
            have q103:x23_2 < (x0_2.length:Int):=of_decide_eq_true (by first|(with_reducible assumption)|assumption)
            obtain ⟨ad103,e103,hx103_0,hx103_1,hx103_2,hx103_3,hx103_4,hx103_5⟩:=at_T24 (zY HO_21.out).2.2 x23_2 p103 q103
            cases e103
            replace p103:=eq_true p103
            replace q103:=eq_true q103
            go_wp2_with (first|((with_reducible refine yE (N:=9) rfl ?_);refine yG ?hg (N:=9) ?hd (cs:=#[.int .i64 0,.int .i64 0,.int .i64 0,.int .i64 0,.int .i64 0,.string (⟨#[]⟩:ByteArray)]) (t:=24) ?hr ?_;(case hd=>rfl);(case hg=>rfl);(case hr=>first|(go_simp;done)|(go_simp;rfl));intro gb104 hg w31 hbox hb;have n0_:=Zk (zT (V_elderB (by (with_reducible repeat (first|apply zN|apply zO|apply zQ));exact HO_0.out) gb104 (Nat.le_of_eq hg.symm)) hb);have n1_:=Zk (zT (V_elderB (by (with_reducible repeat (first|apply zN|apply zO|apply zQ));exact HO_21.out) gb104 (Nat.le_of_eq hg.symm)) hb);have n2_:=Zk (zK (g:=gb101) (o:=.cells #[.int .i64 x102000_2,.int .i64 x102001_2,.int .i64 x102002_2,.int .i64 x102003_2,.int .i64 x102004_2,.string x102005_2] 24 (0,0)) (by (with_reducible repeat (first|refine zB ?_ _|refine zD ?_|refine zA ?_ _));exact BK101.out) hb);have n3_:=Zk (zK (g:=gb102) (o:=.cells #[.int .i64 x103000_2,.int .i64 x103001_2,.int .i64 x103002_2,.int .i64 x103003_2,.int .i64 x103004_2,.string x103005_2] 24 (0,0)) (by (with_reducible repeat (first|refine zB ?_ _|refine zD ?_|refine zA ?_ _));exact BK102.out) hb);have n4_:=Zk (zL (by repeat (first|(with_reducible first|exact HB.out|apply zG|apply zC|apply zH|refine zF ?_ GE101.out|refine zF ?_ GE102.out)|exact HB.out)) hb);have n5_:=Zk (hbox);have n6_:=Zk ((by rw [hg];exact (zM (by repeat (first|(with_reducible first|exact HB.out|apply zG|apply zC|apply zH|refine zF ?_ GE101.out|refine zF ?_ GE102.out)|exact HB.out))):w.heap.size≤gb104));have n7_:=Zk ((by rw [hg];exact (zM (by repeat (first|(with_reducible first|exact HB.out|apply zG|apply zC|apply zH|refine zF ?_ GE101.out|refine zF ?_ GE102.out)|exact HB.out))):w.heap.size≤gb104));have n8_:=Zk ((by rw [hg];exact Nat.ne_of_lt (zX (g:=gb101) (o:=.cells #[.int .i64 x102000_2,.int .i64 x102001_2,.int .i64 x102002_2,.int .i64 x102003_2,.int .i64 x102004_2,.string x102005_2] 24 (0,0)) (by (with_reducible repeat (first|refine zB ?_ _|refine zD ?_|refine zA ?_ _));exact BK101.out)):gb101≠gb104));have n9_:=Zk ((by rw [hg];exact Nat.ne_of_gt (zX (g:=gb101) (o:=.cells #[.int .i64 x102000_2,.int .i64 x102001_2,.int .i64 x102002_2,.int .i64 x102003_2,.int .i64 x102004_2,.string x102005_2] 24 (0,0)) (by (with_reducible repeat (first|refine zB ?_ _|refine zD ?_|refine zA ?_ _));exact BK101.out)):gb104≠gb101));have n10_:=Zk ((by rw [hg];exact Nat.ne_of_lt (zX (g:=gb102) (o:=.cells #[.int .i64 x103000_2,.int .i64 x103001_2,.int .i64 x103002_2,.int .i64 x103003_2,.int .i64 x103004_2,.string x103005_2] 24 (0,0)) (by (with_reducible repeat (first|refine zB ?_ _|refine zD ?_|refine zA ?_ _));exact BK102.out)):gb102≠gb104));have n11_:=Zk ((by rw [hg];exact Nat.ne_of_gt (zX (g:=gb102) (o:=.cells #[.int .i64 x103000_2,.int .i64 x103001_2,.int .i64 x103002_2,.int .i64 x103003_2,.int .i64 x103004_2,.string x103005_2] 24 (0,0)) (by (with_reducible repeat (first|refine zB ?_ _|refine zD ?_|refine zA ?_ _));exact BK102.out)):gb104≠gb102));clear HO_0;clear HO_21;clear BK101;clear BK102;clear HB;have HO_0:=n0_;have HO_21:=n1_;have BK101:=n2_;have BK102:=n3_;have HB:=n4_;have BK104:=n5_;have GW104:=n6_;have GE104:=n7_;have NB101_104:=n8_;have NB104_101:=n9_;have NB102_104:=n10_;have NB104_102:=n11_;clear n0_ n1_ n2_ n3_ n4_ n5_ n6_ n7_ n8_ n9_ n10_ n11_;clear hb hbox hg;have hnb32:=NB104_101.out;have hnc32:=NB101_104.out;have hnb33:=NB104_102.out;have hnc33:=NB102_104.out;have hcz34_0:w31.cell? ⟨gb104,0,none⟩=some (.int .i64 0):=(zJ BK104.out 0).trans rfl;have hcz34_1:w31.cell? ⟨gb104,1,none⟩=some (.int .i64 0):=(zJ BK104.out 1).trans rfl;have hcz34_2:w31.cell? ⟨gb104,2,none⟩=some (.int .i64 0):=(zJ BK104.out 2).trans rfl;have hcz34_3:w31.cell? ⟨gb104,3,none⟩=some (.int .i64 0):=(zJ BK104.out 3).trans rfl;have hcz34_4:w31.cell? ⟨gb104,4,none⟩=some (.int .i64 0):=(zJ BK104.out 4).trans rfl;have hcz34_5:w31.cell? ⟨gb104,5,none⟩=some (.string (⟨#[]⟩:ByteArray)):=(zJ BK104.out 5).trans rfl;have hfz34_0:=zI BK104.out 0;have hfz34_1:=zI BK104.out 1;have hfz34_2:=zI BK104.out 2;have hfz34_3:=zI BK104.out 3;have hfz34_4:=zI BK104.out 4;have hfz34_5:=zI BK104.out 5;have hnb35:=NB102_101.out;have hnc35:=NB101_102.out;have hcz36_0:w31.cell? ⟨gb102,0,none⟩=some (.int .i64 x103000_2):=(zJ BK102.out 0).trans rfl;have hcz36_1:w31.cell? ⟨gb102,1,none⟩=some (.int .i64 x103001_2):=(zJ BK102.out 1).trans rfl;have hcz36_2:w31.cell? ⟨gb102,2,none⟩=some (.int .i64 x103002_2):=(zJ BK102.out 2).trans rfl;have hcz36_3:w31.cell? ⟨gb102,3,none⟩=some (.int .i64 x103003_2):=(zJ BK102.out 3).trans rfl;have hcz36_4:w31.cell? ⟨gb102,4,none⟩=some (.int .i64 x103004_2):=(zJ BK102.out 4).trans rfl;have hcz36_5:w31.cell? ⟨gb102,5,none⟩=some (.string x103005_2):=(zJ BK102.out 5).trans rfl;have hfz36_0:=zI BK102.out 0;have hfz36_1:=zI BK102.out 1;have hfz36_2:=zI BK102.out 2;have hfz36_3:=zI BK102.out 3;have hfz36_4:=zI BK102.out 4;have hfz36_5:=zI BK102.out 5)|((with_reducible refine zW (f:=32) rfl ?_);refine yF (some 37) rfl rfl Try.func32 (by kernel_rfl) rfl #[.slice (some ad103) x0_2.length c0] rfl (by (try simp only [List.map_toArray,List.map_cons,List.map_nil]);first|done|rfl|(simp only [List.length_drop,List.length_take];rfl)) ?_;(with_reducible refine (api_Desc.calls _ _ x0_2 t109 _ ?side1 ?side2 A28.out).mono ?_);(case side1=>refine (zY (e:=24) (base:=w.heap.size) (ok:=fun k_=>(((P0_ k_∨w.heap.size≤k_)∧(k_≠gb101∧k_≠gb102))∧k_≠gb104)) (n:=x0_2.length) (c:=c0) ?_).2.2;exact (by (with_reducible repeat (first|apply zN|apply zO|apply zQ));exact (zU (zV (p:=⟨gb104,5,none⟩) (zV (p:=⟨gb104,4,none⟩) (zV (p:=⟨gb104,3,none⟩) (zV (p:=⟨gb104,2,none⟩) (zV (p:=⟨gb104,1,none⟩) (zV (p:=⟨gb104,0,none⟩) (zU HO_0.out (fun k_ hk=>(⟨hk,hk.2⟩:_∧k_≠gb104))) (fun _ hk=>hk.2) (.int .i64 ((rd_T24 x0_2 x23_2).f0))) (fun _ hk=>hk.2) (.int .i64 ((rd_T24 x0_2 x23_2).f1))) (fun _ hk=>hk.2) (.int .i64 ((rd_T24 x0_2 x23_2).f2))) (fun _ hk=>hk.2) (.int .i64 ((rd_T24 x0_2 x23_2).f3))) (fun _ hk=>hk.2) (.int .i64 ((rd_T24 x0_2 x23_2).f4))) (fun _ hk=>hk.2) (.string ((rd_T24 x0_2 x23_2).f5))) (fun _ h_=>h_.1))));(case side2=>exact (zY HO_0.out).2.1);rintro e w37 ⟨v110,rfl,ho0,hb⟩;refine ⟨_,rfl,?_⟩;have n0_:=Zk (V_elder' (by (with_reducible repeat (first|apply zN|apply zO|apply zQ));exact (zU (zV (p:=⟨gb104,5,none⟩) (zV (p:=⟨gb104,4,none⟩) (zV (p:=⟨gb104,3,none⟩) (zV (p:=⟨gb104,2,none⟩) (zV (p:=⟨gb104,1,none⟩) (zV (p:=⟨gb104,0,none⟩) (zU HO_0.out (fun k_ hk=>(⟨hk,hk.2⟩:_∧k_≠gb104))) (fun _ hk=>hk.2) (.int .i64 ((rd_T24 x0_2 x23_2).f0))) (fun _ hk=>hk.2) (.int .i64 ((rd_T24 x0_2 x23_2).f1))) (fun _ hk=>hk.2) (.int .i64 ((rd_T24 x0_2 x23_2).f2))) (fun _ hk=>hk.2) (.int .i64 ((rd_T24 x0_2 x23_2).f3))) (fun _ hk=>hk.2) (.int .i64 ((rd_T24 x0_2 x23_2).f4))) (fun _ hk=>hk.2) (.string ((rd_T24 x0_2 x23_2).f5))) (fun _ h_=>h_.1))) (R_base ho0) hb);have n1_:=Zk (V_elder' (by (with_reducible repeat (first|apply zN|apply zO|apply zQ));exact (zU (zV (p:=⟨gb104,5,none⟩) (zV (p:=⟨gb104,4,none⟩) (zV (p:=⟨gb104,3,none⟩) (zV (p:=⟨gb104,2,none⟩) (zV (p:=⟨gb104,1,none⟩) (zV (p:=⟨gb104,0,none⟩) (zU HO_21.out (fun k_ hk=>(⟨hk,hk.2⟩:_∧k_≠gb104))) (fun _ hk=>hk.2) (.int .i64 ((rd_T24 x0_2 x23_2).f0))) (fun _ hk=>hk.2) (.int .i64 ((rd_T24 x0_2 x23_2).f1))) (fun _ hk=>hk.2) (.int .i64 ((rd_T24 x0_2 x23_2).f2))) (fun _ hk=>hk.2) (.int .i64 ((rd_T24 x0_2 x23_2).f3))) (fun _ hk=>hk.2) (.int .i64 ((rd_T24 x0_2 x23_2).f4))) (fun _ hk=>hk.2) (.string ((rd_T24 x0_2 x23_2).f5))) (fun _ h_=>h_.1))) (R_base ho0) hb);have n2_:=Zk (R_lower (R_newB (R_newB (R_newB (R_newM (M:=fun k_=>(w.heap.size≤k_)) ho0 (zM (by repeat (first|(with_reducible first|exact HB.out|apply zG|apply zC|apply zH|refine zF ?_ GE101.out|refine zF ?_ GE102.out|refine zF ?_ GE104.out)|exact HB.out))) (fun k_ h_=>h_)) (g:=gb101) (o:=.cells #[.int .i64 x102000_2,.int .i64 x102001_2,.int .i64 x102002_2,.int .i64 x102003_2,.int .i64 x102004_2,.string x102005_2] 24 (0,0)) (by (with_reducible repeat (first|refine zB ?_ _|refine zD ?_|refine zA ?_ _));refine zP ?_ NB101_104.out _;(with_reducible repeat (first|refine zB ?_ _|refine zD ?_|refine zA ?_ _));refine zP ?_ NB101_104.out _;(with_reducible repeat (first|refine zB ?_ _|refine zD ?_|refine zA ?_ _));refine zP ?_ NB101_104.out _;(with_reducible repeat (first|refine zB ?_ _|refine zD ?_|refine zA ?_ _));refine zP ?_ NB101_104.out _;(with_reducible repeat (first|refine zB ?_ _|refine zD ?_|refine zA ?_ _));refine zP ?_ NB101_104.out _;(with_reducible repeat (first|refine zB ?_ _|refine zD ?_|refine zA ?_ _));refine zP ?_ NB101_104.out _;(with_reducible repeat (first|refine zB ?_ _|refine zD ?_|refine zA ?_ _));exact BK101.out)) (g:=gb102) (o:=.cells #[.int .i64 x103000_2,.int .i64 x103001_2,.int .i64 x103002_2,.int .i64 x103003_2,.int .i64 x103004_2,.string x103005_2] 24 (0,0)) (by (with_reducible repeat (first|refine zB ?_ _|refine zD ?_|refine zA ?_ _));refine zP ?_ NB102_104.out _;(with_reducible repeat (first|refine zB ?_ _|refine zD ?_|refine zA ?_ _));refine zP ?_ NB102_104.out _;(with_reducible repeat (first|refine zB ?_ _|refine zD ?_|refine zA ?_ _));refine zP ?_ NB102_104.out _;(with_reducible repeat (first|refine zB ?_ _|refine zD ?_|refine zA ?_ _));refine zP ?_ NB102_104.out _;(with_reducible repeat (first|refine zB ?_ _|refine zD ?_|refine zA ?_ _));refine zP ?_ NB102_104.out _;(with_reducible repeat (first|refine zB ?_ _|refine zD ?_|refine zA ?_ _));refine zP ?_ NB102_104.out _;(with_reducible repeat (first|refine zB ?_ _|refine zD ?_|refine zA ?_ _));exact BK102.out)) (g:=gb104) (o:=.cells #[.int .i64 ((rd_T24 x0_2 x23_2).f0),.int .i64 ((rd_T24 x0_2 x23_2).f1),.int .i64 ((rd_T24 x0_2 x23_2).f2),.int .i64 ((rd_T24 x0_2 x23_2).f3),.int .i64 ((rd_T24 x0_2 x23_2).f4),.string ((rd_T24 x0_2 x23_2).f5)] 24 (0,0)) (by (with_reducible repeat (first|refine zB ?_ _|refine zD ?_|refine zA ?_ _));refine zS (cs:=#[.int .i64 ((rd_T24 x0_2 x23_2).f0),.int .i64 ((rd_T24 x0_2 x23_2).f1),.int .i64 ((rd_T24 x0_2 x23_2).f2),.int .i64 ((rd_T24 x0_2 x23_2).f3),.int .i64 ((rd_T24 x0_2 x23_2).f4),.string (⟨#[]⟩:ByteArray)]) ?_ 5 _ rfl;(with_reducible repeat (first|refine zB ?_ _|refine zD ?_|refine zA ?_ _));refine zS (cs:=#[.int .i64 ((rd_T24 x0_2 x23_2).f0),.int .i64 ((rd_T24 x0_2 x23_2).f1),.int .i64 ((rd_T24 x0_2 x23_2).f2),.int .i64 ((rd_T24 x0_2 x23_2).f3),.int .i64 0,.string (⟨#[]⟩:ByteArray)]) ?_ 4 _ rfl;(with_reducible repeat (first|refine zB ?_ _|refine zD ?_|refine zA ?_ _));refine zS (cs:=#[.int .i64 ((rd_T24 x0_2 x23_2).f0),.int .i64 ((rd_T24 x0_2 x23_2).f1),.int .i64 ((rd_T24 x0_2 x23_2).f2),.int .i64 0,.int .i64 0,.string (⟨#[]⟩:ByteArray)]) ?_ 3 _ rfl;(with_reducible repeat (first|refine zB ?_ _|refine zD ?_|refine zA ?_ _));refine zS (cs:=#[.int .i64 ((rd_T24 x0_2 x23_2).f0),.int .i64 ((rd_T24 x0_2 x23_2).f1),.int .i64 0,.int .i64 0,.int .i64 0,.string (⟨#[]⟩:ByteArray)]) ?_ 2 _ rfl;(with_reducible repeat (first|refine zB ?_ _|refine zD ?_|refine zA ?_ _));refine zS (cs:=#[.int .i64 ((rd_T24 x0_2 x23_2).f0),.int .i64 0,.int .i64 0,.int .i64 0,.int .i64 0,.string (⟨#[]⟩:ByteArray)]) ?_ 1 _ rfl;(with_reducible repeat (first|refine zB ?_ _|refine zD ?_|refine zA ?_ _));refine zS (cs:=#[.int .i64 0,.int .i64 0,.int .i64 0,.int .i64 0,.int .i64 0,.string (⟨#[]⟩:ByteArray)]) ?_ 0 _ rfl;(with_reducible repeat (first|refine zB ?_ _|refine zD ?_|refine zA ?_ _));exact BK104.out)) (zM (by repeat (first|(with_reducible first|exact HB.out|apply zG|apply zC|apply zH|refine zF ?_ GE101.out|refine zF ?_ GE102.out|refine zF ?_ GE104.out)|exact HB.out))));have n3_:=Zk (zK (g:=gb101) (o:=.cells #[.int .i64 x102000_2,.int .i64 x102001_2,.int .i64 x102002_2,.int .i64 x102003_2,.int .i64 x102004_2,.string x102005_2] 24 (0,0)) (by (with_reducible repeat (first|refine zB ?_ _|refine zD ?_|refine zA ?_ _));refine zP ?_ NB101_104.out _;(with_reducible repeat (first|refine zB ?_ _|refine zD ?_|refine zA ?_ _));refine zP ?_ NB101_104.out _;(with_reducible repeat (first|refine zB ?_ _|refine zD ?_|refine zA ?_ _));refine zP ?_ NB101_104.out _;(with_reducible repeat (first|refine zB ?_ _|refine zD ?_|refine zA ?_ _));refine zP ?_ NB101_104.out _;(with_reducible repeat (first|refine zB ?_ _|refine zD ?_|refine zA ?_ _));refine zP ?_ NB101_104.out _;(with_reducible repeat (first|refine zB ?_ _|refine zD ?_|refine zA ?_ _));refine zP ?_ NB101_104.out _;(with_reducible repeat (first|refine zB ?_ _|refine zD ?_|refine zA ?_ _));exact BK101.out) hb);have n4_:=Zk (zK (g:=gb102) (o:=.cells #[.int .i64 x103000_2,.int .i64 x103001_2,.int .i64 x103002_2,.int .i64 x103003_2,.int .i64 x103004_2,.string x103005_2] 24 (0,0)) (by (with_reducible repeat (first|refine zB ?_ _|refine zD ?_|refine zA ?_ _));refine zP ?_ NB102_104.out _;(with_reducible repeat (first|refine zB ?_ _|refine zD ?_|refine zA ?_ _));refine zP ?_ NB102_104.out _;(with_reducible repeat (first|refine zB ?_ _|refine zD ?_|refine zA ?_ _));refine zP ?_ NB102_104.out _;(with_reducible repeat (first|refine zB ?_ _|refine zD ?_|refine zA ?_ _));refine zP ?_ NB102_104.out _;(with_reducible repeat (first|refine zB ?_ _|refine zD ?_|refine zA ?_ _));refine zP ?_ NB102_104.out _;(with_reducible repeat (first|refine zB ?_ _|refine zD ?_|refine zA ?_ _));refine zP ?_ NB102_104.out _;(with_reducible repeat (first|refine zB ?_ _|refine zD ?_|refine zA ?_ _));exact BK102.out) hb);have n5_:=Zk (zK (g:=gb104) (o:=.cells #[.int .i64 ((rd_T24 x0_2 x23_2).f0),.int .i64 ((rd_T24 x0_2 x23_2).f1),.int .i64 ((rd_T24 x0_2 x23_2).f2),.int .i64 ((rd_T24 x0_2 x23_2).f3),.int .i64 ((rd_T24 x0_2 x23_2).f4),.string ((rd_T24 x0_2 x23_2).f5)] 24 (0,0)) (by (with_reducible repeat (first|refine zB ?_ _|refine zD ?_|refine zA ?_ _));refine zS (cs:=#[.int .i64 ((rd_T24 x0_2 x23_2).f0),.int .i64 ((rd_T24 x0_2 x23_2).f1),.int .i64 ((rd_T24 x0_2 x23_2).f2),.int .i64 ((rd_T24 x0_2 x23_2).f3),.int .i64 ((rd_T24 x0_2 x23_2).f4),.string (⟨#[]⟩:ByteArray)]) ?_ 5 _ rfl;(with_reducible repeat (first|refine zB ?_ _|refine zD ?_|refine zA ?_ _));refine zS (cs:=#[.int .i64 ((rd_T24 x0_2 x23_2).f0),.int .i64 ((rd_T24 x0_2 x23_2).f1),.int .i64 ((rd_T24 x0_2 x23_2).f2),.int .i64 ((rd_T24 x0_2 x23_2).f3),.int .i64 0,.string (⟨#[]⟩:ByteArray)]) ?_ 4 _ rfl;(with_reducible repeat (first|refine zB ?_ _|refine zD ?_|refine zA ?_ _));refine zS (cs:=#[.int .i64 ((rd_T24 x0_2 x23_2).f0),.int .i64 ((rd_T24 x0_2 x23_2).f1),.int .i64 ((rd_T24 x0_2 x23_2).f2),.int .i64 0,.int .i64 0,.string (⟨#[]⟩:ByteArray)]) ?_ 3 _ rfl;(with_reducible repeat (first|refine zB ?_ _|refine zD ?_|refine zA ?_ _));refine zS (cs:=#[.int .i64 ((rd_T24 x0_2 x23_2).f0),.int .i64 ((rd_T24 x0_2 x23_2).f1),.int .i64 0,.int .i64 0,.int .i64 0,.string (⟨#[]⟩:ByteArray)]) ?_ 2 _ rfl;(with_reducible repeat (first|refine zB ?_ _|refine zD ?_|refine zA ?_ _));refine zS (cs:=#[.int .i64 ((rd_T24 x0_2 x23_2).f0),.int .i64 0,.int .i64 0,.int .i64 0,.int .i64 0,.string (⟨#[]⟩:ByteArray)]) ?_ 1 _ rfl;(with_reducible repeat (first|refine zB ?_ _|refine zD ?_|refine zA ?_ _));refine zS (cs:=#[.int .i64 0,.int .i64 0,.int .i64 0,.int .i64 0,.int .i64 0,.string (⟨#[]⟩:ByteArray)]) ?_ 0 _ rfl;(with_reducible repeat (first|refine zB ?_ _|refine zD ?_|refine zA ?_ _));exact BK104.out) hb);have n6_:=Zk (zL (by repeat (first|(with_reducible first|exact HB.out|apply zG|apply zC|apply zH|refine zF ?_ GE101.out|refine zF ?_ GE102.out|refine zF ?_ GE104.out)|exact HB.out)) hb);clear HO_0;clear HO_21;clear BK101;clear BK102;clear BK104;clear HB;have HO_0:=n0_;have HO_21:=n1_;have HO111:=n2_;have BK101:=n3_;have BK102:=n4_;have BK104:=n5_;have HB:=n6_;clear n0_ n1_ n2_ n3_ n4_ n5_ n6_;(try clear hb);(try clear hb2);(try clear hk);(try clear hi);(try clear ho0);have hcz38_0:w37.cell? ⟨gb101,0,none⟩=some (.int .i64 x102000_2):=(zJ BK101.out 0).trans rfl;have hcz38_1:w37.cell? ⟨gb101,1,none⟩=some (.int .i64 x102001_2):=(zJ BK101.out 1).trans rfl;have hcz38_2:w37.cell? ⟨gb101,2,none⟩=some (.int .i64 x102002_2):=(zJ BK101.out 2).trans rfl;have hcz38_3:w37.cell? ⟨gb101,3,none⟩=some (.int .i64 x102003_2):=(zJ BK101.out 3).trans rfl;have hcz38_4:w37.cell? ⟨gb101,4,none⟩=some (.int .i64 x102004_2):=(zJ BK101.out 4).trans rfl;have hcz38_5:w37.cell? ⟨gb101,5,none⟩=some (.string x102005_2):=(zJ BK101.out 5).trans rfl;have hfz38_0:=zI BK101.out 0;have hfz38_1:=zI BK101.out 1;have hfz38_2:=zI BK101.out 2;have hfz38_3:=zI BK101.out 3;have hfz38_4:=zI BK101.out 4;have hfz38_5:=zI BK101.out 5;have p30:0≤(x23_2:Int):=of_decide_eq_true (by first|(with_reducible assumption)|assumption);have q30:(x23_2:Int) < ((t109.length:Int):Int):=of_decide_eq_true (by first|(with_reducible assumption)|assumption);obtain ⟨go30,co30,eo30,gb30,gl30,cl30,HG30⟩:=R_form HO111.out (by omega);(first|cases eo30|(injection eo30 with ea_ en_ ec_;(first|subst ea_|(injection ea_ with ea_;subst ea_));subst ec_;clear en_));have GB30:=Zk gb30;have GG30:=Zk HG30;clear gb30 gl30 HG30;obtain ⟨ce30,hcl30,hM30,hcc30,hfr30⟩:=R_elem HO111.out z24 (x23_2:Int) p30 q30;obtain rfl:=k24_openM hM30;have hx30_0:w37.cell? ⟨go30,(x23_2:Int).toNat * 6,none⟩=some (.int .i64 ((rd_T24 t109 x23_2).f0)):=hcc30 0 _ rfl;have hx30_1:w37.cell? ⟨go30,(x23_2:Int).toNat * 6 + 1,none⟩=some (.int .i64 ((rd_T24 t109 x23_2).f1)):=hcc30 1 _ rfl;have hx30_2:w37.cell? ⟨go30,(x23_2:Int).toNat * 6 + 2,none⟩=some (.int .i64 ((rd_T24 t109 x23_2).f2)):=hcc30 2 _ rfl;have hx30_3:w37.cell? ⟨go30,(x23_2:Int).toNat * 6 + 3,none⟩=some (.int .i64 ((rd_T24 t109 x23_2).f3)):=hcc30 3 _ rfl;have hx30_4:w37.cell? ⟨go30,(x23_2:Int).toNat * 6 + 4,none⟩=some (.int .i64 ((rd_T24 t109 x23_2).f4)):=hcc30 4 _ rfl;have hx30_5:w37.cell? ⟨go30,(x23_2:Int).toNat * 6 + 5,none⟩=some (.string ((rd_T24 t109 x23_2).f5)):=hcc30 5 _ rfl;have hf30_0:w37.frozen? ⟨go30,(x23_2:Int).toNat * 6,none⟩=false:=hfr30 0;have hf30_1:w37.frozen? ⟨go30,(x23_2:Int).toNat * 6 + 1,none⟩=false:=hfr30 1;have hf30_2:w37.frozen? ⟨go30,(x23_2:Int).toNat * 6 + 2,none⟩=false:=hfr30 2;have hf30_3:w37.frozen? ⟨go30,(x23_2:Int).toNat * 6 + 3,none⟩=false:=hfr30 3;have hf30_4:w37.frozen? ⟨go30,(x23_2:Int).toNat * 6 + 4,none⟩=false:=hfr30 4;have hf30_5:w37.frozen? ⟨go30,(x23_2:Int).toNat * 6 + 5,none⟩=false:=hfr30 5;clear hcl30 hcc30 hfr30 hM30;replace p30:=eq_true p30;replace q30:=eq_true q30;have n_:=Zk (R_mono (ok':=(fun k_=>(w.heap.size≤k_)∧k_≠gb101∧k_≠gb102∧k_≠gb104)) HO111.out (fun k_ hk=>⟨hk.1.1.1.1,⟨hk.1.1.2,⟨hk.1.2,hk.2⟩⟩⟩));clear HO111;have HO111:=n_;clear n_;have HX39:=Zk (show Kd.R k24 24 w37 w.heap.size (fun k_=>(w.heap.size≤k_)∧k_≠gb101∧k_≠gb102∧k_≠gb104) (.slice (some ⟨go30,0,none⟩) t109.length co30) t109 from (by (with_reducible repeat (first|apply yA|apply zZ|apply yB));exact HO111.out));obtain ⟨ce39,hcl39,hM39,hcc39,hfr39⟩:=R_elem HX39.out z24 (x23_2:Int) (of_decide_eq_true (by first|(with_reducible assumption)|assumption)) (by have h_:(x23_2:Int) < ((t109.length:Int):Int):=of_decide_eq_true (by first|(with_reducible assumption)|assumption);first|exact h_|(have e_:=(R_reads' HO111.out).1;omega)|simpa using h_);obtain rfl:=k24_openM hM39;have HP39:=R_seg HX39.out (x23_2:Int) (of_decide_eq_true (by first|(with_reducible assumption)|assumption)) (by have h_:(x23_2:Int) < ((t109.length:Int):Int):=of_decide_eq_true (by first|(with_reducible assumption)|assumption);first|exact h_|(have e_:=(R_reads' HO111.out).1;omega)|simpa using h_) (seg:=[.int .i64 x102000_2,.int .i64 x102001_2,.int .i64 x102002_2,.int .i64 x102003_2,.int .i64 x102004_2,.string x102005_2]) (j:=0) hcl39 hcc39 (show 6≤6 from by decide) (x':=(⟨x102000_2,x102001_2,x102002_2,x102003_2,x102004_2,x102005_2⟩:S24)) (k24_mkM _ _ _ (⟨x102000_2,x102001_2,x102002_2,x102003_2,x102004_2,x102005_2⟩:S24) ) (fun _ hk=>hk);have hx39_0:=hcc39 0 _ rfl;(try simp only [show (k24).sz=6 from rfl,Nat.mul_one,Nat.add_zero] at hx39_0);have hf39_0:=hfr39 0;(try simp only [show (k24).sz=6 from rfl,Nat.mul_one,Nat.add_zero] at hf39_0);have hx39_1:=hcc39 1 _ rfl;(try simp only [show (k24).sz=6 from rfl,Nat.mul_one,Nat.add_zero] at hx39_1);have hf39_1:=hfr39 1;(try simp only [show (k24).sz=6 from rfl,Nat.mul_one,Nat.add_zero] at hf39_1);have hx39_2:=hcc39 2 _ rfl;(try simp only [show (k24).sz=6 from rfl,Nat.mul_one,Nat.add_zero] at hx39_2);have hf39_2:=hfr39 2;(try simp only [show (k24).sz=6 from rfl,Nat.mul_one,Nat.add_zero] at hf39_2);have hx39_3:=hcc39 3 _ rfl;(try simp only [show (k24).sz=6 from rfl,Nat.mul_one,Nat.add_zero] at hx39_3);have hf39_3:=hfr39 3;(try simp only [show (k24).sz=6 from rfl,Nat.mul_one,Nat.add_zero] at hf39_3);have hx39_4:=hcc39 4 _ rfl;(try simp only [show (k24).sz=6 from rfl,Nat.mul_one,Nat.add_zero] at hx39_4);have hf39_4:=hfr39 4;(try simp only [show (k24).sz=6 from rfl,Nat.mul_one,Nat.add_zero] at hf39_4);have hx39_5:=hcc39 5 _ rfl;(try simp only [show (k24).sz=6 from rfl,Nat.mul_one,Nat.add_zero] at hx39_5);have hf39_5:=hfr39 5;(try simp only [show (k24).sz=6 from rfl,Nat.mul_one,Nat.add_zero] at hf39_5);clear hcl39 hcc39 hfr39 hM39)|((with_reducible refine gate_store (t:=24) (p:=41) rfl ?_);refine store_event (t:=24) (p:=41) (v:=?vo_w40) (w1:=((((((w37.setCell ⟨go30,(x23_2:Int).toNat * 6,none⟩ (.int .i64 x102000_2)).setCell ⟨go30,(x23_2:Int).toNat * 6 + 1,none⟩ (.int .i64 x102001_2)).setCell ⟨go30,(x23_2:Int).toNat * 6 + 2,none⟩ (.int .i64 x102002_2)).setCell ⟨go30,(x23_2:Int).toNat * 6 + 3,none⟩ (.int .i64 x102003_2)).setCell ⟨go30,(x23_2:Int).toNat * 6 + 4,none⟩ (.int .i64 x102004_2)).setCell ⟨go30,(x23_2:Int).toNat * 6 + 5,none⟩ (.string x102005_2))) ?hg ?ho ?hn ?hr ?_;(case ho=>rfl);(case hg=>rfl);(case hn=>rfl);(case hr=>first|(go_simp;done)|(go_simp;rfl));intro w40 hw;have hg:w37.grownBy w40 (some go30):=(by rw [hw];exact HP39.2);have hp_:Kd.R k24 24 w40 w.heap.size (fun k_=>(w.heap.size≤k_)∧k_≠gb101∧k_≠gb102∧k_≠gb104) (.slice (some ⟨go30,0,none⟩) t109.length co30) y112:=(by rw [hw,Ny112.out];exact HP39.1);clear HP39;have n0_:=Zk (V_afterv (v:=(.slice (some ⟨go30,0,none⟩) t109.length co30)) (v1:=(.slice (some ⟨go30,0,none⟩) t109.length co30)) (ok:=(fun k_=>(P0_ k_∨w.heap.size≤k_)∧k_≠gb101∧k_≠gb102∧k_≠gb104)) (by (with_reducible repeat (first|apply zN|apply zO|apply zQ));exact zU HO_0.out (fun _ hk=>⟨⟨hk.1.1.1,⟨hk.1.1.2.1,⟨hk.1.1.2.2,hk.1.2⟩⟩⟩,hk.2⟩)) hg (.inl rfl));have n1_:=Zk (V_afterv (v:=(.slice (some ⟨go30,0,none⟩) t109.length co30)) (v1:=(.slice (some ⟨go30,0,none⟩) t109.length co30)) (ok:=(fun k_=>(P0_ k_∨w.heap.size≤k_)∧k_≠gb101∧k_≠gb102∧k_≠gb104)) (by (with_reducible repeat (first|apply zN|apply zO|apply zQ));exact zU HO_21.out (fun _ hk=>⟨⟨hk.1.1.1,⟨hk.1.1.2.1,⟨hk.1.1.2.2,hk.1.2⟩⟩⟩,hk.2⟩)) hg (.inl rfl));have n2_:=Zk (blk_grown (g:=gb101) (o:=.cells #[.int .i64 x102000_2,.int .i64 x102001_2,.int .i64 x102002_2,.int .i64 x102003_2,.int .i64 x102004_2,.string x102005_2] 24 (0,0)) (by (with_reducible repeat (first|refine zB ?_ _|refine zD ?_|refine zA ?_ _));exact BK101.out) hg (R_away HO111.out (fun _ hk=>hk.2.1)));have n3_:=Zk (blk_grown (g:=gb102) (o:=.cells #[.int .i64 x103000_2,.int .i64 x103001_2,.int .i64 x103002_2,.int .i64 x103003_2,.int .i64 x103004_2,.string x103005_2] 24 (0,0)) (by (with_reducible repeat (first|refine zB ?_ _|refine zD ?_|refine zA ?_ _));exact BK102.out) hg (R_away HO111.out (fun _ hk=>hk.2.2.1)));have n4_:=Zk (blk_grown (g:=gb104) (o:=.cells #[.int .i64 ((rd_T24 x0_2 x23_2).f0),.int .i64 ((rd_T24 x0_2 x23_2).f1),.int .i64 ((rd_T24 x0_2 x23_2).f2),.int .i64 ((rd_T24 x0_2 x23_2).f3),.int .i64 ((rd_T24 x0_2 x23_2).f4),.string ((rd_T24 x0_2 x23_2).f5)] 24 (0,0)) (by (with_reducible repeat (first|refine zB ?_ _|refine zD ?_|refine zA ?_ _));exact BK104.out) hg (R_away HO111.out (fun _ hk=>hk.2.2.2)));have n5_:=Zk (hp_);have n6_:=Zk ((by rw [hw];exact zF (zF (zF (zF (zF (zF (HB.out) GB30.out) GB30.out) GB30.out) GB30.out) GB30.out) GB30.out:Below w.heap.size w w40));clear HO_0;clear HO_21;clear BK101;clear BK102;clear BK104;clear HO111;clear HB;have HO_0:=n0_;have HO_21:=n1_;have BK101:=n2_;have BK102:=n3_;have BK104:=n4_;have HO111:=n5_;have HB:=n6_;clear n0_ n1_ n2_ n3_ n4_ n5_ n6_;clear hg hw hp_))
            go_ret3
            exact ⟨_,by first|rfl|(simp [errW_none,errW_some] <;> rfl)|(simp [*,errW_none,errW_some] <;> rfl),zU (R_V (by (with_reducible repeat (first|apply yA|apply zZ|apply yB));exact R_mono HO111.out (fun _ hk=>hk.1))) (fun k_ hk=>by first|exact ⟨(.inr (hk.1)),hk.2⟩|exact (.inr (hk))),by repeat (first|(with_reducible first|exact HB.out|apply zG|apply zC|apply zH|refine zF ?_ GE101.out|refine zF ?_ GE102.out|refine zF ?_ GE104.out)|exact HB.out)⟩
           ·rw [if_neg c29] at H
            exact absurd H (by simp)
          ·rw [if_neg c27] at H
           have c27b0:(((rd_T24 x0_2 x23_2).f0) == 0)=false:=beq_eq_false_iff_ne.mpr c27
           have c27b1:(((rd_T24 x0_2 x23_2).f0) != 0)=true:=bne_iff_ne.mpr c27
           have H':=Zk H
           clear H
           have p103:0≤(x23_2:Int):=of_decide_eq_true (by first|(with_reducible assumption)|assumption)
           have q103:x23_2 < (x0_2.length:Int):=of_decide_eq_true (by first|(with_reducible assumption)|assumption)
           obtain ⟨ad103,e103,hx103_0,hx103_1,hx103_2,hx103_3,hx103_4,hx103_5⟩:=at_T24 (zY HO_21.out).2.2 x23_2 p103 q103
           cases e103
           replace p103:=eq_true p103
           replace q103:=eq_true q103
           go_wp2_with (first|((with_reducible refine yE (N:=9) rfl ?_);refine yG ?hg (N:=9) ?hd (cs:=#[.int .i64 0,.int .i64 0,.int .i64 0,.int .i64 0,.int .i64 0,.string (⟨#[]⟩:ByteArray)]) (t:=24) ?hr ?_;(case hd=>rfl);(case hg=>rfl);(case hr=>first|(go_simp;done)|(go_simp;rfl));intro gb104 hg w41 hbox hb;have n0_:=Zk (zT (V_elderB (by (with_reducible repeat (first|apply zN|apply zO|apply zQ));exact HO_0.out) gb104 (Nat.le_of_eq hg.symm)) hb);have n1_:=Zk (zT (V_elderB (by (with_reducible repeat (first|apply zN|apply zO|apply zQ));exact HO_21.out) gb104 (Nat.le_of_eq hg.symm)) hb);have n2_:=Zk (zK (g:=gb101) (o:=.cells #[.int .i64 x102000_2,.int .i64 x102001_2,.int .i64 x102002_2,.int .i64 x102003_2,.int .i64 x102004_2,.string x102005_2] 24 (0,0)) (by (with_reducible repeat (first|refine zB ?_ _|refine zD ?_|refine zA ?_ _));exact BK101.out) hb);have n3_:=Zk (zK (g:=gb102) (o:=.cells #[.int .i64 x103000_2,.int .i64 x103001_2,.int .i64 x103002_2,.int .i64 x103003_2,.int .i64 x103004_2,.string x103005_2] 24 (0,0)) (by (with_reducible repeat (first|refine zB ?_ _|refine zD ?_|refine zA ?_ _));exact BK102.out) hb);have n4_:=Zk (zL (by repeat (first|(with_reducible first|exact HB.out|apply zG|apply zC|apply zH|refine zF ?_ GE101.out|refine zF ?_ GE102.out)|exact HB.out)) hb);have n5_:=Zk (hbox);have n6_:=Zk ((by rw [hg];exact (zM (by repeat (first|(with_reducible first|exact HB.out|apply zG|apply zC|apply zH|refine zF ?_ GE101.out|refine zF ?_ GE102.out)|exact HB.out))):w.heap.size≤gb104));have n7_:=Zk ((by rw [hg];exact (zM (by repeat (first|(with_reducible first|exact HB.out|apply zG|apply zC|apply zH|refine zF ?_ GE101.out|refine zF ?_ GE102.out)|exact HB.out))):w.heap.size≤gb104));have n8_:=Zk ((by rw [hg];exact Nat.ne_of_lt (zX (g:=gb101) (o:=.cells #[.int .i64 x102000_2,.int .i64 x102001_2,.int .i64 x102002_2,.int .i64 x102003_2,.int .i64 x102004_2,.string x102005_2] 24 (0,0)) (by (with_reducible repeat (first|refine zB ?_ _|refine zD ?_|refine zA ?_ _));exact BK101.out)):gb101≠gb104));have n9_:=Zk ((by rw [hg];exact Nat.ne_of_gt (zX (g:=gb101) (o:=.cells #[.int .i64 x102000_2,.int .i64 x102001_2,.int .i64 x102002_2,.int .i64 x102003_2,.int .i64 x102004_2,.string x102005_2] 24 (0,0)) (by (with_reducible repeat (first|refine zB ?_ _|refine zD ?_|refine zA ?_ _));exact BK101.out)):gb104≠gb101));have n10_:=Zk ((by rw [hg];exact Nat.ne_of_lt (zX (g:=gb102) (o:=.cells #[.int .i64 x103000_2,.int .i64 x103001_2,.int .i64 x103002_2,.int .i64 x103003_2,.int .i64 x103004_2,.string x103005_2] 24 (0,0)) (by (with_reducible repeat (first|refine zB ?_ _|refine zD ?_|refine zA ?_ _));exact BK102.out)):gb102≠gb104));have n11_:=Zk ((by rw [hg];exact Nat.ne_of_gt (zX (g:=gb102) (o:=.cells #[.int .i64 x103000_2,.int .i64 x103001_2,.int .i64 x103002_2,.int .i64 x103003_2,.int .i64 x103004_2,.string x103005_2] 24 (0,0)) (by (with_reducible repeat (first|refine zB ?_ _|refine zD ?_|refine zA ?_ _));exact BK102.out)):gb104≠gb102));clear HO_0;clear HO_21;clear BK101;clear BK102;clear HB;have HO_0:=n0_;have HO_21:=n1_;have BK101:=n2_;have BK102:=n3_;have HB:=n4_;have BK104:=n5_;have GW104:=n6_;have GE104:=n7_;have NB101_104:=n8_;have NB104_101:=n9_;have NB102_104:=n10_;have NB104_102:=n11_;clear n0_ n1_ n2_ n3_ n4_ n5_ n6_ n7_ n8_ n9_ n10_ n11_;clear hb hbox hg;have hnb42:=NB104_101.out;have hnc42:=NB101_104.out;have hnb43:=NB104_102.out;have hnc43:=NB102_104.out;have hcz44_0:w41.cell? ⟨gb104,0,none⟩=some (.int .i64 0):=(zJ BK104.out 0).trans rfl;have hcz44_1:w41.cell? ⟨gb104,1,none⟩=some (.int .i64 0):=(zJ BK104.out 1).trans rfl;have hcz44_2:w41.cell? ⟨gb104,2,none⟩=some (.int .i64 0):=(zJ BK104.out 2).trans rfl;have hcz44_3:w41.cell? ⟨gb104,3,none⟩=some (.int .i64 0):=(zJ BK104.out 3).trans rfl;have hcz44_4:w41.cell? ⟨gb104,4,none⟩=some (.int .i64 0):=(zJ BK104.out 4).trans rfl;have hcz44_5:w41.cell? ⟨gb104,5,none⟩=some (.string (⟨#[]⟩:ByteArray)):=(zJ BK104.out 5).trans rfl;have hfz44_0:=zI BK104.out 0;have hfz44_1:=zI BK104.out 1;have hfz44_2:=zI BK104.out 2;have hfz44_3:=zI BK104.out 3;have hfz44_4:=zI BK104.out 4;have hfz44_5:=zI BK104.out 5;have hnb45:=NB102_101.out;have hnc45:=NB101_102.out;have hcz46_0:w41.cell? ⟨gb102,0,none⟩=some (.int .i64 x103000_2):=(zJ BK102.out 0).trans rfl;have hcz46_1:w41.cell? ⟨gb102,1,none⟩=some (.int .i64 x103001_2):=(zJ BK102.out 1).trans rfl;have hcz46_2:w41.cell? ⟨gb102,2,none⟩=some (.int .i64 x103002_2):=(zJ BK102.out 2).trans rfl;have hcz46_3:w41.cell? ⟨gb102,3,none⟩=some (.int .i64 x103003_2):=(zJ BK102.out 3).trans rfl;have hcz46_4:w41.cell? ⟨gb102,4,none⟩=some (.int .i64 x103004_2):=(zJ BK102.out 4).trans rfl;have hcz46_5:w41.cell? ⟨gb102,5,none⟩=some (.string x103005_2):=(zJ BK102.out 5).trans rfl;have hfz46_0:=zI BK102.out 0;have hfz46_1:=zI BK102.out 1;have hfz46_2:=zI BK102.out 2;have hfz46_3:=zI BK102.out 3;have hfz46_4:=zI BK102.out 4;have hfz46_5:=zI BK102.out 5))
           (try simp only [← hl0_2])
           go_roundg k2
           case measure=>have:=HJ2.out;have:=HK2.out;omega
           case rel=>exact ⟨(x0_2),(x0_2),(wrap64 (x23_2 + 1)),(x102000_2),(x102001_2),(x102002_2),(x102003_2),(x102004_2),(x102005_2),(x103000_2),(x103001_2),(x103002_2),(x103003_2),(x103004_2),(x103005_2),(by first|rfl|(simp;done)|(simp [*];done)|(generalize ByteArray.toList _=l_;cases l_ <;> rfl)),H',⟨by have:=HJ2.out;have:=HK2.out;omega⟩,⟨by (try simp only [hl0_2]);(try simp only [hl0_2]);(with_reducible repeat (first|apply zN|apply zO|apply zQ));exact zU (zV (p:=⟨gb104,5,none⟩) (zV (p:=⟨gb104,4,none⟩) (zV (p:=⟨gb104,3,none⟩) (zV (p:=⟨gb104,2,none⟩) (zV (p:=⟨gb104,1,none⟩) (zV (p:=⟨gb104,0,none⟩) (zU HO_0.out (fun k_ hk=>(⟨hk,hk.2⟩:_∧k_≠gb104))) (fun _ hk=>hk.2) (.int .i64 ((rd_T24 x0_2 x23_2).f0))) (fun _ hk=>hk.2) (.int .i64 ((rd_T24 x0_2 x23_2).f1))) (fun _ hk=>hk.2) (.int .i64 ((rd_T24 x0_2 x23_2).f2))) (fun _ hk=>hk.2) (.int .i64 ((rd_T24 x0_2 x23_2).f3))) (fun _ hk=>hk.2) (.int .i64 ((rd_T24 x0_2 x23_2).f4))) (fun _ hk=>hk.2) (.string ((rd_T24 x0_2 x23_2).f5))) (fun _ hk=>⟨hk.1.1.1,⟨hk.1.1.2.1,hk.1.1.2.2⟩⟩)⟩,⟨by (try simp only [hl0_2]);(try simp only [hl0_2]);(with_reducible repeat (first|apply zN|apply zO|apply zQ));exact zU (zV (p:=⟨gb104,5,none⟩) (zV (p:=⟨gb104,4,none⟩) (zV (p:=⟨gb104,3,none⟩) (zV (p:=⟨gb104,2,none⟩) (zV (p:=⟨gb104,1,none⟩) (zV (p:=⟨gb104,0,none⟩) (zU HO_21.out (fun k_ hk=>(⟨hk,hk.2⟩:_∧k_≠gb104))) (fun _ hk=>hk.2) (.int .i64 ((rd_T24 x0_2 x23_2).f0))) (fun _ hk=>hk.2) (.int .i64 ((rd_T24 x0_2 x23_2).f1))) (fun _ hk=>hk.2) (.int .i64 ((rd_T24 x0_2 x23_2).f2))) (fun _ hk=>hk.2) (.int .i64 ((rd_T24 x0_2 x23_2).f3))) (fun _ hk=>hk.2) (.int .i64 ((rd_T24 x0_2 x23_2).f4))) (fun _ hk=>hk.2) (.string ((rd_T24 x0_2 x23_2).f5))) (fun _ hk=>⟨hk.1.1.1,⟨hk.1.1.2.1,hk.1.1.2.2⟩⟩)⟩,⟨by (try simp only [hl0_2]);(try simp only [hl0_2]);(with_reducible repeat (first|refine zB ?_ _|refine zD ?_|refine zA ?_ _));refine zP ?_ NB101_104.out _;(with_reducible repeat (first|refine zB ?_ _|refine zD ?_|refine zA ?_ _));refine zP ?_ NB101_104.out _;(with_reducible repeat (first|refine zB ?_ _|refine zD ?_|refine zA ?_ _));refine zP ?_ NB101_104.out _;(with_reducible repeat (first|refine zB ?_ _|refine zD ?_|refine zA ?_ _));refine zP ?_ NB101_104.out _;(with_reducible repeat (first|refine zB ?_ _|refine zD ?_|refine zA ?_ _));refine zP ?_ NB101_104.out _;(with_reducible repeat (first|refine zB ?_ _|refine zD ?_|refine zA ?_ _));refine zP ?_ NB101_104.out _;(with_reducible repeat (first|refine zB ?_ _|refine zD ?_|refine zA ?_ _));exact BK101.out⟩,⟨by (try simp only [hl0_2]);(try simp only [hl0_2]);(with_reducible repeat (first|refine zB ?_ _|refine zD ?_|refine zA ?_ _));refine zP ?_ NB102_104.out _;(with_reducible repeat (first|refine zB ?_ _|refine zD ?_|refine zA ?_ _));refine zP ?_ NB102_104.out _;(with_reducible repeat (first|refine zB ?_ _|refine zD ?_|refine zA ?_ _));refine zP ?_ NB102_104.out _;(with_reducible repeat (first|refine zB ?_ _|refine zD ?_|refine zA ?_ _));refine zP ?_ NB102_104.out _;(with_reducible repeat (first|refine zB ?_ _|refine zD ?_|refine zA ?_ _));refine zP ?_ NB102_104.out _;(with_reducible repeat (first|refine zB ?_ _|refine zD ?_|refine zA ?_ _));refine zP ?_ NB102_104.out _;(with_reducible repeat (first|refine zB ?_ _|refine zD ?_|refine zA ?_ _));exact BK102.out⟩,⟨by repeat (first|(with_reducible first|exact HB.out|apply zG|apply zC|apply zH|refine zF ?_ GE101.out|refine zF ?_ GE102.out|refine zF ?_ GE104.out)|exact HB.out)⟩⟩
        ·rw [if_neg c12] at H
         exact absurd H (by simp)
       ·rw [if_neg c11] at H
        exact absurd H (by simp)
      ·rw [if_neg c10] at H
       have c10b0:decide (x23_2 < (l0.length:Int))=false:=decide_eq_false c10
       (try rw [hl0_2] at c10b0)
       clear c10
       by_cases c47:(x0_2.length:Int) ≥ 128
       ·rw [if_pos c47] at H
        have c47b0:decide (128≤(x0_2.length:Int))=true:=decide_eq_true c47
        have c47b1:decide (128≤x0_2.length)=true:=decide_eq_true (by omega)
        clear c47
        simp only [Option.some.injEq,Prod.mk.injEq] at H
        obtain ⟨rfl,rfl,rfl⟩:=H
        go_wp2
        go_ret3
        exact ⟨_,by first|rfl|(simp [errW_none,errW_some] <;> rfl)|(simp [*,errW_none,errW_some] <;> rfl),by (with_reducible repeat (first|apply zN|apply zO|apply zQ));exact zU HO_0.out (fun _ hk=>hk.1),by repeat (first|(with_reducible first|exact HB.out|apply zG|apply zC|apply zH|refine zF ?_ GE101.out|refine zF ?_ GE102.out)|exact HB.out)⟩
       ·rw [if_neg c47] at H
        have c47b0:decide (128≤(x0_2.length:Int))=false:=decide_eq_false c47
        have c47b1:decide (128≤x0_2.length)=false:=decide_eq_false (by omega)
        clear c47
        replace H:=Option.bind_eq_some_iff.mp H
        obtain ⟨t113,A480,H⟩:=H
        replace H:((some (([(⟨x102000_2,x102001_2,x102002_2,x102003_2,x102004_2,x102005_2⟩:S24)]:List (S24)):List (S24))).bind fun y116=>(if t113.length + y116.length < 2513169434916 then (some ((t113 ++ y116),(x0_2.length:Int),0)) else (none)))=some (r1,r2,r3):=H
        have A48:=Zk A480
        clear A480
        obtain ⟨y116,hy116⟩:∃ y_:List (S24),y_=(([(⟨x102000_2,x102001_2,x102002_2,x102003_2,x102004_2,x102005_2⟩:S24)]:List (S24))):=⟨_,rfl⟩
        replace H:(if t113.length + y116.length < 2513169434916 then (some ((t113 ++ y116),(x0_2.length:Int),0)) else (none))=some (r1,r2,r3):=by first|(rw [hy116];with_reducible exact H)|(have H2_:=(Option.bind_some _ _).symm.trans H;rw [hy116];with_reducible exact H2_)|(have H2_:=(Option.bind_some _ _).symm.trans H;with_reducible exact H2_)|with_reducible exact H|(rw [hy116];exact H)|exact H
        have Ny116:=Zk hy116
        clear hy116
        by_cases c49:t113.length + y116.length < 2513169434916
        ·rw [if_pos c49] at H
         have LMc49:=Zk c49
         clear c49
         obtain ⟨y119,hy119⟩:∃ y_:List (S24),y_=(t113 ++ y116):=⟨_,rfl⟩
         replace H:(some (y119,(x0_2.length:Int),0))=some (r1,r2,r3):=by first|(rw [hy119];with_reducible exact H)|(have H2_:=(Option.bind_some _ _).symm.trans H;rw [hy119];with_reducible exact H2_)|(have H2_:=(Option.bind_some _ _).symm.trans H;with_reducible exact H2_)|with_reducible exact H|(rw [hy119];exact H)|exact H
         have Ny119:=Zk hy119
         clear hy119
         simp only [Option.some.injEq,Prod.mk.injEq] at H
         obtain ⟨rfl,rfl,rfl⟩:=H
         try go_wp2
         have n0_:=Zk (zQ HO_0.out)
         have n1_:=Zk (zQ HO_21.out)
         have n2_:=Zk (zD BK101.out)
         have n3_:=Zk (zD BK102.out)
         have n4_:=Zk (zH HB.out)
         clear HO_0
         clear HO_21
         clear BK101
         clear BK102
         clear HB
         have HO_0:=n0_
         have HO_21:=n1_
         have BK101:=n2_
         have BK102:=n3_
         have HB:=n4_
         clear n0_ n1_ n2_ n3_ n4_
         refine start_ (n:=10) (S:=fun w'=>w'.cell? ⟨gb101,0,none⟩=some (.int .i64 x102000_2)∧w'.cell? ⟨gb101,1,none⟩=some (.int .i64 x102001_2)∧w'.cell? ⟨gb101,2,none⟩=some (.int .i64 x102002_2)∧w'.cell? ⟨gb101,3,none⟩=some (.int .i64 x102003_2)∧w'.cell? ⟨gb101,4,none⟩=some (.int .i64 x102004_2)∧w'.cell? ⟨gb101,5,none⟩=some (.string x102005_2)) (ds:=[]) #[false,false,false,false,false,false,false,false,false,false] (by kernel_rfl) rfl rfl ⟨(zJ BK101.out 0).trans rfl,(zJ BK101.out 1).trans rfl,(zJ BK101.out 2).trans rfl,(zJ BK101.out 3).trans rfl,(zJ BK101.out 4).trans rfl,(zJ BK101.out 5).trans rfl⟩ (fun hHeld=>?_);refine with_tabW fdtab_Add.tab14 fdtab_Add.bits14 (fun HT_ HW_=>?_)
         generalize wr.drew=w50 at HO_0 HO_21 BK101 BK102 HB hHeld ⊢
         refine pure_ (i:=0) (N:=some 49) (v:=?_) (a':=?_) #[true,false,false,false,false,false,false,false,false,false] rfl rfl (any_of HT_.out (by kernel_rfl)) (fun _ _ _ h=>h) (Or.inl ⟨by rfl,?_⟩) ?_ ?_
         rotate_left
         ·intro w'
          go_simp
          with_reducible rfl
         rotate_left
         ·simp only [Act.put,List.setIfInBounds_toArray,List.set_cons_zero,List.set_cons_succ,i64_w,i32_w]
          rfl
         refine pure_ (i:=5) (N:=some 54) (v:=?_) (a':=?_) #[true,false,false,false,false,true,false,false,false,false] rfl rfl (any_of HT_.out (by kernel_rfl)) (fun _ _ _ h=>h) (Or.inl ⟨by rfl,?_⟩) ?_ ?_
         rotate_left
         ·intro w'
          go_simp
          with_reducible rfl
         rotate_left
         ·simp only [Act.put,List.setIfInBounds_toArray,List.set_cons_zero,List.set_cons_succ,i64_w,i32_w]
          rfl
         refine pure_ (i:=6) (N:=some 55) (v:=?_) (a':=?_) #[true,false,false,false,false,true,true,false,false,false] rfl rfl (any_of HT_.out (by kernel_rfl)) (fun _ _ _ h=>h) (Or.inl ⟨by rfl,?_⟩) ?_ ?_
         rotate_left
         ·intro w'
          go_simp
          with_reducible rfl
         rotate_left
         ·simp only [Act.put,List.setIfInBounds_toArray,List.set_cons_zero,List.set_cons_succ,i64_w,i32_w]
          rfl
         refine take_ (i:=2) (N:=some 51) (v:=?_) (a':=?_) #[true,false,true,false,false,true,true,false,false,false] rfl rfl (take_ofW HT_.out HW_.out (by kernel_rfl)) (fun _ _ _ h=>h) (Or.inl ⟨by rfl,?_⟩) hHeld ?_ ?_
         rotate_left
         ·rintro w' ⟨s0,s1,s2,s3,s4,s5⟩
          go_simp
          with_reducible rfl
         rotate_left
         ·simp only [Act.put,List.setIfInBounds_toArray,List.set_cons_zero,List.set_cons_succ,i64_w,i32_w]
          rfl
         refine join_ (σ:=Value × Value) 4 #[true,true,true,true,false,true,true,false,false,false] (fun s_=>[(50,s_.1),(52,s_.2)]) (fun s_ w'=>(w'.cell? ⟨gb101,0,none⟩=some (.int .i64 x102000_2)∧w'.cell? ⟨gb101,1,none⟩=some (.int .i64 x102001_2)∧w'.cell? ⟨gb101,2,none⟩=some (.int .i64 x102002_2)∧w'.cell? ⟨gb101,3,none⟩=some (.int .i64 x102003_2)∧w'.cell? ⟨gb101,4,none⟩=some (.int .i64 x102004_2)∧w'.cell? ⟨gb101,5,none⟩=some (.string x102005_2))∧(Kd.R k24 24 w' w.heap.size (fun k_=>(w.heap.size≤k_)∧some k_≠(s_.2:Value).ownBlock∧k_≠gb101∧k_≠gb102) s_.1 t113)∧(Kd.R k24 24 w' w.heap.size (fun k_=>(w.heap.size≤k_)∧some k_≠(s_.1:Value).ownBlock∧k_≠gb101∧k_≠gb102) s_.2 y116)∧(Kd.V k24 24 w' w.heap.size (fun k_=>(P0_ k_∨w.heap.size≤k_)∧some k_≠(s_.1:Value).ownBlock∧some k_≠(s_.2:Value).ownBlock∧k_≠gb101∧k_≠gb102) (.slice A0 x0_2.length c0) x0_2)∧(Kd.V k24 24 w' w.heap.size (fun k_=>(P0_ k_∨w.heap.size≤k_)∧some k_≠(s_.1:Value).ownBlock∧some k_≠(s_.2:Value).ownBlock∧k_≠gb101∧k_≠gb102) (.slice A0 x0_2.length c0) x0_2)∧(w'.heap[gb101]?=some (.cells #[.int .i64 x102000_2,.int .i64 x102001_2,.int .i64 x102002_2,.int .i64 x102003_2,.int .i64 x102004_2,.string x102005_2] 24 (0,0)))∧(w'.heap[gb102]?=some (.cells #[.int .i64 x103000_2,.int .i64 x103001_2,.int .i64 x103002_2,.int .i64 x103003_2,.int .i64 x103004_2,.string x103005_2] 24 (0,0)))∧(Below w.heap.size w w')) ?_ ?_
         rotate_left
         ·intro hCont
          refine two_ (i:=1) (j:=3) (Ni:=some 50) (Nj:=some 52) #[true,true,true,false,false,true,true,false,false,false] #[true,false,true,true,false,true,true,false,false,false] rfl rfl rfl rfl (two_of HT_.out (by kernel_rfl)) (by decide) (by decide) (fun K hK=>?_) (fun K hK=>?_)
          ·skip
           refine goes_ Try.func32 (by kernel_rfl) rfl #[.slice A0 x0_2.length c0] (by rfl) rfl rfl (by (try simp only [List.map_toArray,List.map_cons,List.map_nil]);first|done|rfl|(simp only [List.length_drop,List.length_take];rfl)) ?_
           with_reducible refine (api_Desc.calls _ _ x0_2 t113 _ ?side1 ?side2 A48.out).mono ?_
           (case side1=>repeat (first|exact (zY HO_0.out).2.2|(with_reducible refine yC ?_ _)|(with_reducible refine yD ?_ _)|(with_reducible refine C_drew ?_)))
           (case side2=>exact (zY HO_0.out).2.1)
           rintro e w51 ⟨v114,rfl,ho0,hb⟩
           refine ⟨_,rfl,?_⟩
           have n0_:=Zk (V_elder' (by (with_reducible repeat (first|apply zN|apply zO|apply zQ));exact HO_0.out) (R_base ho0) hb)
           have n1_:=Zk (V_elder' (by (with_reducible repeat (first|apply zN|apply zO|apply zQ));exact HO_21.out) (R_base ho0) hb)
           have n2_:=Zk (R_lower (R_newB (R_newB (R_newM (M:=fun k_=>(w.heap.size≤k_)) ho0 (zM (by repeat (first|(with_reducible first|exact HB.out|apply zG|apply zC|apply zH|refine zF ?_ GE101.out|refine zF ?_ GE102.out)|exact HB.out))) (fun k_ h_=>h_)) (g:=gb101) (o:=.cells #[.int .i64 x102000_2,.int .i64 x102001_2,.int .i64 x102002_2,.int .i64 x102003_2,.int .i64 x102004_2,.string x102005_2] 24 (0,0)) (by (with_reducible repeat (first|refine zB ?_ _|refine zD ?_|refine zA ?_ _));exact BK101.out)) (g:=gb102) (o:=.cells #[.int .i64 x103000_2,.int .i64 x103001_2,.int .i64 x103002_2,.int .i64 x103003_2,.int .i64 x103004_2,.string x103005_2] 24 (0,0)) (by (with_reducible repeat (first|refine zB ?_ _|refine zD ?_|refine zA ?_ _));exact BK102.out)) (zM (by repeat (first|(with_reducible first|exact HB.out|apply zG|apply zC|apply zH|refine zF ?_ GE101.out|refine zF ?_ GE102.out)|exact HB.out))))
           have n3_:=Zk (zK (g:=gb101) (o:=.cells #[.int .i64 x102000_2,.int .i64 x102001_2,.int .i64 x102002_2,.int .i64 x102003_2,.int .i64 x102004_2,.string x102005_2] 24 (0,0)) (by (with_reducible repeat (first|refine zB ?_ _|refine zD ?_|refine zA ?_ _));exact BK101.out) hb)
           have n4_:=Zk (zK (g:=gb102) (o:=.cells #[.int .i64 x103000_2,.int .i64 x103001_2,.int .i64 x103002_2,.int .i64 x103003_2,.int .i64 x103004_2,.string x103005_2] 24 (0,0)) (by (with_reducible repeat (first|refine zB ?_ _|refine zD ?_|refine zA ?_ _));exact BK102.out) hb)
           have n5_:=Zk (zL (by repeat (first|(with_reducible first|exact HB.out|apply zG|apply zC|apply zH|refine zF ?_ GE101.out|refine zF ?_ GE102.out)|exact HB.out)) hb)
           clear HO_0
           clear HO_21
           clear BK101
           clear BK102
           clear HB
           have HO_0:=n0_
           have HO_21:=n1_
           have HO115:=n2_
           have BK101:=n3_
           have BK102:=n4_
           have HB:=n5_
           clear n0_ n1_ n2_ n3_ n4_ n5_
           (try clear hb)
           (try clear hb2)
           (try clear hk)
           (try clear hi)
           (try clear ho0)
           refine hK.out _ _ ⟨(zJ BK101.out 0).trans rfl,(zJ BK101.out 1).trans rfl,(zJ BK101.out 2).trans rfl,(zJ BK101.out 3).trans rfl,(zJ BK101.out 4).trans rfl,(zJ BK101.out 5).trans rfl⟩ (fun hHeld=>?_)
           clear hK K
           refine norm_ (a':=?_) ?_ ?_
           rotate_left
           ·show Act.put _ (some 50) _=_
            simp only [Act.put,List.setIfInBounds_toArray,List.set_cons_zero,List.set_cons_succ,i64_w,i32_w]
            rfl
           refine one_ (i:=3) (N:=some 52) #[true,true,true,true,false,true,true,false,false,false] rfl rfl (one_of HT_.out (by kernel_rfl)) (by decide) (fun K hK=>?_)
           refine R_lit_step k24 _ 24 ?hg (N:=52) ?hd (xs:=([(⟨x102000_2,x102001_2,x102002_2,x102003_2,x102004_2,x102005_2⟩:S24)]:List (S24))) (inner:=[.int .i64 x102000_2,.int .i64 x102001_2,.int .i64 x102002_2,.int .i64 x102003_2,.int .i64 x102004_2,.string x102005_2]) (ok:=fun _=>True) (okp:=fun _=>True) ?hr ?hp (fun _ hk=>hk) trivial (Below.refl _ _) (Nat.le_refl _) (by simp) ?_;(case hd=>rfl);(case hg=>rfl);(case hr=>first|(go_simp;done)|(go_simp;rfl));(case hp=>exact (Reps.c6 (show Kd.M k24 _ _ _ (⟨x102000_2,x102001_2,x102002_2,x102003_2,x102004_2,x102005_2⟩:S24) [.int .i64 x102000_2,.int .i64 x102001_2,.int .i64 x102002_2,.int .i64 x102003_2,.int .i64 x102004_2,.string x102005_2] from (k24_mkM _ _ _ (⟨x102000_2,x102001_2,x102002_2,x102003_2,x102004_2,x102005_2⟩:S24) )) (Reps.none _ _)))
           intro v117 w52 ho53 hb hg_ hnew_
           clear hg_ hnew_
           (first|rw [← Ny116.out] at ho53|(simp only [Int.reduceToNat] at ho53;rw [← Ny116.out] at ho53))
           have n0_:=Zk (V_elder' (by (with_reducible repeat (first|apply zN|apply zO|apply zQ));exact HO_0.out) (R_base ho53) hb)
           have n1_:=Zk (V_elder' (by (with_reducible repeat (first|apply zN|apply zO|apply zQ));exact HO_21.out) (R_base ho53) hb)
           have n2_:=Zk (R_elder' (by (with_reducible repeat (first|apply yA|apply zZ|apply yB));exact HO115.out) (R_base ho53) hb)
           have n3_:=Zk (R_lower (R_newB (R_newB (R_new' (R_newM (M:=fun k_=>(w.heap.size≤k_)) ho53 (zM (by repeat (first|(with_reducible first|exact HB.out|apply zG|apply zC|apply zH|refine zF ?_ GE101.out|refine zF ?_ GE102.out)|exact HB.out))) (fun k_ h_=>h_)) (R_lt (by (with_reducible repeat (first|apply yA|apply zZ|apply yB));exact HO115.out))) (g:=gb101) (o:=.cells #[.int .i64 x102000_2,.int .i64 x102001_2,.int .i64 x102002_2,.int .i64 x102003_2,.int .i64 x102004_2,.string x102005_2] 24 (0,0)) (by (with_reducible repeat (first|refine zB ?_ _|refine zD ?_|refine zA ?_ _));exact BK101.out)) (g:=gb102) (o:=.cells #[.int .i64 x103000_2,.int .i64 x103001_2,.int .i64 x103002_2,.int .i64 x103003_2,.int .i64 x103004_2,.string x103005_2] 24 (0,0)) (by (with_reducible repeat (first|refine zB ?_ _|refine zD ?_|refine zA ?_ _));exact BK102.out)) (zM (by repeat (first|(with_reducible first|exact HB.out|apply zG|apply zC|apply zH|refine zF ?_ GE101.out|refine zF ?_ GE102.out)|exact HB.out))))
           have n4_:=Zk (zK (g:=gb101) (o:=.cells #[.int .i64 x102000_2,.int .i64 x102001_2,.int .i64 x102002_2,.int .i64 x102003_2,.int .i64 x102004_2,.string x102005_2] 24 (0,0)) (by (with_reducible repeat (first|refine zB ?_ _|refine zD ?_|refine zA ?_ _));exact BK101.out) hb)
           have n5_:=Zk (zK (g:=gb102) (o:=.cells #[.int .i64 x103000_2,.int .i64 x103001_2,.int .i64 x103002_2,.int .i64 x103003_2,.int .i64 x103004_2,.string x103005_2] 24 (0,0)) (by (with_reducible repeat (first|refine zB ?_ _|refine zD ?_|refine zA ?_ _));exact BK102.out) hb)
           have n6_:=Zk (zL (by repeat (first|(with_reducible first|exact HB.out|apply zG|apply zC|apply zH|refine zF ?_ GE101.out|refine zF ?_ GE102.out)|exact HB.out)) hb)
           clear HO_0
           clear HO_21
           clear HO115
           clear BK101
           clear BK102
           clear HB
           have HO_0:=n0_
           have HO_21:=n1_
           have HO115:=n2_
           have HO118:=n3_
           have BK101:=n4_
           have BK102:=n5_
           have HB:=n6_
           clear n0_ n1_ n2_ n3_ n4_ n5_ n6_
           clear hb ho53
           refine hK.out _ _ ⟨(zJ BK101.out 0).trans rfl,(zJ BK101.out 1).trans rfl,(zJ BK101.out 2).trans rfl,(zJ BK101.out 3).trans rfl,(zJ BK101.out 4).trans rfl,(zJ BK101.out 5).trans rfl⟩ (fun hHeld=>?_)
           clear hK K
           refine norm_ (a':=?_) ?_ ?_
           rotate_left
           ·show Act.put _ (some 52) _=_
            simp only [Act.put,List.setIfInBounds_toArray,List.set_cons_zero,List.set_cons_succ,i64_w,i32_w]
            rfl
           exact norm_ (by simp only [putAll,Act.put,List.setIfInBounds_toArray,List.set_cons_zero,List.set_cons_succ]) (hCont (v114,v117) _ ⟨hHeld,(by (with_reducible repeat (first|apply yA|apply zZ|apply yB));exact R_mono HO115.out (fun _ hk=>⟨hk.1.1.1.1,⟨hk.2,⟨hk.1.1.2,hk.1.2⟩⟩⟩)),(by (with_reducible repeat (first|apply yA|apply zZ|apply yB));exact R_mono HO118.out (fun _ hk=>⟨hk.1.1.1.1,⟨hk.1.1.2,⟨hk.1.2,hk.2⟩⟩⟩)),(by (with_reducible repeat (first|apply zN|apply zO|apply zQ));exact zU HO_0.out (fun _ hk=>⟨hk.1.1.1,⟨hk.1.2,⟨hk.2,⟨hk.1.1.2.1,hk.1.1.2.2⟩⟩⟩⟩)),(by (with_reducible repeat (first|apply zN|apply zO|apply zQ));exact zU HO_21.out (fun _ hk=>⟨hk.1.1.1,⟨hk.1.2,⟨hk.2,⟨hk.1.1.2.1,hk.1.1.2.2⟩⟩⟩⟩)),(by (with_reducible repeat (first|refine zB ?_ _|refine zD ?_|refine zA ?_ _));exact BK101.out),(by (with_reducible repeat (first|refine zB ?_ _|refine zD ?_|refine zA ?_ _));exact BK102.out),(by repeat (first|(with_reducible first|exact HB.out|apply zG|apply zC|apply zH|refine zF ?_ GE101.out|refine zF ?_ GE102.out)|exact HB.out))⟩)
          ·skip
           refine R_lit_step k24 _ 24 ?hg (N:=52) ?hd (xs:=([(⟨x102000_2,x102001_2,x102002_2,x102003_2,x102004_2,x102005_2⟩:S24)]:List (S24))) (inner:=[.int .i64 x102000_2,.int .i64 x102001_2,.int .i64 x102002_2,.int .i64 x102003_2,.int .i64 x102004_2,.string x102005_2]) (ok:=fun _=>True) (okp:=fun _=>True) ?hr ?hp (fun _ hk=>hk) trivial (Below.refl _ _) (Nat.le_refl _) (by simp) ?_;(case hd=>rfl);(case hg=>rfl);(case hr=>first|(go_simp;done)|(go_simp;rfl));(case hp=>exact (Reps.c6 (show Kd.M k24 _ _ _ (⟨x102000_2,x102001_2,x102002_2,x102003_2,x102004_2,x102005_2⟩:S24) [.int .i64 x102000_2,.int .i64 x102001_2,.int .i64 x102002_2,.int .i64 x102003_2,.int .i64 x102004_2,.string x102005_2] from (k24_mkM _ _ _ (⟨x102000_2,x102001_2,x102002_2,x102003_2,x102004_2,x102005_2⟩:S24) )) (Reps.none _ _)))
           intro v117 w51 ho52 hb hg_ hnew_
           clear hg_ hnew_
           (first|rw [← Ny116.out] at ho52|(simp only [Int.reduceToNat] at ho52;rw [← Ny116.out] at ho52))
           have n0_:=Zk (V_elder' (by (with_reducible repeat (first|apply zN|apply zO|apply zQ));exact HO_0.out) (R_base ho52) hb)
           have n1_:=Zk (V_elder' (by (with_reducible repeat (first|apply zN|apply zO|apply zQ));exact HO_21.out) (R_base ho52) hb)
           have n2_:=Zk (R_lower (R_newB (R_newB (R_newM (M:=fun k_=>(w.heap.size≤k_)) ho52 (zM (by repeat (first|(with_reducible first|exact HB.out|apply zG|apply zC|apply zH|refine zF ?_ GE101.out|refine zF ?_ GE102.out)|exact HB.out))) (fun k_ h_=>h_)) (g:=gb101) (o:=.cells #[.int .i64 x102000_2,.int .i64 x102001_2,.int .i64 x102002_2,.int .i64 x102003_2,.int .i64 x102004_2,.string x102005_2] 24 (0,0)) (by (with_reducible repeat (first|refine zB ?_ _|refine zD ?_|refine zA ?_ _));exact BK101.out)) (g:=gb102) (o:=.cells #[.int .i64 x103000_2,.int .i64 x103001_2,.int .i64 x103002_2,.int .i64 x103003_2,.int .i64 x103004_2,.string x103005_2] 24 (0,0)) (by (with_reducible repeat (first|refine zB ?_ _|refine zD ?_|refine zA ?_ _));exact BK102.out)) (zM (by repeat (first|(with_reducible first|exact HB.out|apply zG|apply zC|apply zH|refine zF ?_ GE101.out|refine zF ?_ GE102.out)|exact HB.out))))
           have n3_:=Zk (zK (g:=gb101) (o:=.cells #[.int .i64 x102000_2,.int .i64 x102001_2,.int .i64 x102002_2,.int .i64 x102003_2,.int .i64 x102004_2,.string x102005_2] 24 (0,0)) (by (with_reducible repeat (first|refine zB ?_ _|refine zD ?_|refine zA ?_ _));exact BK101.out) hb)
           have n4_:=Zk (zK (g:=gb102) (o:=.cells #[.int .i64 x103000_2,.int .i64 x103001_2,.int .i64 x103002_2,.int .i64 x103003_2,.int .i64 x103004_2,.string x103005_2] 24 (0,0)) (by (with_reducible repeat (first|refine zB ?_ _|refine zD ?_|refine zA ?_ _));exact BK102.out) hb)
           have n5_:=Zk (zL (by repeat (first|(with_reducible first|exact HB.out|apply zG|apply zC|apply zH|refine zF ?_ GE101.out|refine zF ?_ GE102.out)|exact HB.out)) hb)
           clear HO_0
           clear HO_21
           clear BK101
           clear BK102
           clear HB
           have HO_0:=n0_
           have HO_21:=n1_
           have HO118:=n2_
           have BK101:=n3_
           have BK102:=n4_
           have HB:=n5_
           clear n0_ n1_ n2_ n3_ n4_ n5_
           clear hb ho52
           refine hK.out _ _ ⟨(zJ BK101.out 0).trans rfl,(zJ BK101.out 1).trans rfl,(zJ BK101.out 2).trans rfl,(zJ BK101.out 3).trans rfl,(zJ BK101.out 4).trans rfl,(zJ BK101.out 5).trans rfl⟩ (fun hHeld=>?_)
           clear hK K
           refine norm_ (a':=?_) ?_ ?_
           rotate_left
           ·show Act.put _ (some 52) _=_
            simp only [Act.put,List.setIfInBounds_toArray,List.set_cons_zero,List.set_cons_succ,i64_w,i32_w]
            rfl
           refine one_ (i:=1) (N:=some 50) #[true,true,true,true,false,true,true,false,false,false] rfl rfl (one_of HT_.out (by kernel_rfl)) (by decide) (fun K hK=>?_)
           refine goes_ Try.func32 (by kernel_rfl) rfl #[.slice A0 x0_2.length c0] (by rfl) rfl rfl (by (try simp only [List.map_toArray,List.map_cons,List.map_nil]);first|done|rfl|(simp only [List.length_drop,List.length_take];rfl)) ?_
           with_reducible refine (api_Desc.calls _ _ x0_2 t113 _ ?side1 ?side2 A48.out).mono ?_
           (case side1=>repeat (first|exact (zY HO_0.out).2.2|(with_reducible refine yC ?_ _)|(with_reducible refine yD ?_ _)|(with_reducible refine C_drew ?_)))
           (case side2=>exact (zY HO_0.out).2.1)
           rintro e w53 ⟨v114,rfl,ho0,hb⟩
           refine ⟨_,rfl,?_⟩
           have n0_:=Zk (V_elder' (by (with_reducible repeat (first|apply zN|apply zO|apply zQ));exact HO_0.out) (R_base ho0) hb)
           have n1_:=Zk (V_elder' (by (with_reducible repeat (first|apply zN|apply zO|apply zQ));exact HO_21.out) (R_base ho0) hb)
           have n2_:=Zk (R_elder' (by (with_reducible repeat (first|apply yA|apply zZ|apply yB));exact HO118.out) (R_base ho0) hb)
           have n3_:=Zk (R_lower (R_newB (R_newB (R_new' (R_newM (M:=fun k_=>(w.heap.size≤k_)) ho0 (zM (by repeat (first|(with_reducible first|exact HB.out|apply zG|apply zC|apply zH|refine zF ?_ GE101.out|refine zF ?_ GE102.out)|exact HB.out))) (fun k_ h_=>h_)) (R_lt (by (with_reducible repeat (first|apply yA|apply zZ|apply yB));exact HO118.out))) (g:=gb101) (o:=.cells #[.int .i64 x102000_2,.int .i64 x102001_2,.int .i64 x102002_2,.int .i64 x102003_2,.int .i64 x102004_2,.string x102005_2] 24 (0,0)) (by (with_reducible repeat (first|refine zB ?_ _|refine zD ?_|refine zA ?_ _));exact BK101.out)) (g:=gb102) (o:=.cells #[.int .i64 x103000_2,.int .i64 x103001_2,.int .i64 x103002_2,.int .i64 x103003_2,.int .i64 x103004_2,.string x103005_2] 24 (0,0)) (by (with_reducible repeat (first|refine zB ?_ _|refine zD ?_|refine zA ?_ _));exact BK102.out)) (zM (by repeat (first|(with_reducible first|exact HB.out|apply zG|apply zC|apply zH|refine zF ?_ GE101.out|refine zF ?_ GE102.out)|exact HB.out))))
           have n4_:=Zk (zK (g:=gb101) (o:=.cells #[.int .i64 x102000_2,.int .i64 x102001_2,.int .i64 x102002_2,.int .i64 x102003_2,.int .i64 x102004_2,.string x102005_2] 24 (0,0)) (by (with_reducible repeat (first|refine zB ?_ _|refine zD ?_|refine zA ?_ _));exact BK101.out) hb)
           have n5_:=Zk (zK (g:=gb102) (o:=.cells #[.int .i64 x103000_2,.int .i64 x103001_2,.int .i64 x103002_2,.int .i64 x103003_2,.int .i64 x103004_2,.string x103005_2] 24 (0,0)) (by (with_reducible repeat (first|refine zB ?_ _|refine zD ?_|refine zA ?_ _));exact BK102.out) hb)
           have n6_:=Zk (zL (by repeat (first|(with_reducible first|exact HB.out|apply zG|apply zC|apply zH|refine zF ?_ GE101.out|refine zF ?_ GE102.out)|exact HB.out)) hb)
           clear HO_0
           clear HO_21
           clear HO118
           clear BK101
           clear BK102
           clear HB
           have HO_0:=n0_
           have HO_21:=n1_
           have HO118:=n2_
           have HO115:=n3_
           have BK101:=n4_
           have BK102:=n5_
           have HB:=n6_
           clear n0_ n1_ n2_ n3_ n4_ n5_ n6_
           (try clear hb)
           (try clear hb2)
           (try clear hk)
           (try clear hi)
           (try clear ho0)
           refine hK.out _ _ ⟨(zJ BK101.out 0).trans rfl,(zJ BK101.out 1).trans rfl,(zJ BK101.out 2).trans rfl,(zJ BK101.out 3).trans rfl,(zJ BK101.out 4).trans rfl,(zJ BK101.out 5).trans rfl⟩ (fun hHeld=>?_)
           clear hK K
           refine norm_ (a':=?_) ?_ ?_
           rotate_left
           ·show Act.put _ (some 50) _=_
            simp only [Act.put,List.setIfInBounds_toArray,List.set_cons_zero,List.set_cons_succ,i64_w,i32_w]
            rfl
           exact norm_ (by simp only [putAll,Act.put,List.setIfInBounds_toArray,List.set_cons_zero,List.set_cons_succ]) (hCont (v114,v117) _ ⟨hHeld,(by (with_reducible repeat (first|apply yA|apply zZ|apply yB));exact R_mono HO115.out (fun _ hk=>⟨hk.1.1.1.1,⟨hk.1.1.2,⟨hk.1.2,hk.2⟩⟩⟩)),(by (with_reducible repeat (first|apply yA|apply zZ|apply yB));exact R_mono HO118.out (fun _ hk=>⟨hk.1.1.1.1,⟨hk.2,⟨hk.1.1.2,hk.1.2⟩⟩⟩)),(by (with_reducible repeat (first|apply zN|apply zO|apply zQ));exact zU HO_0.out (fun _ hk=>⟨hk.1.1.1,⟨hk.2,⟨hk.1.2,⟨hk.1.1.2.1,hk.1.1.2.2⟩⟩⟩⟩)),(by (with_reducible repeat (first|apply zN|apply zO|apply zQ));exact zU HO_21.out (fun _ hk=>⟨hk.1.1.1,⟨hk.2,⟨hk.1.2,⟨hk.1.1.2.1,hk.1.1.2.2⟩⟩⟩⟩)),(by (with_reducible repeat (first|refine zB ?_ _|refine zD ?_|refine zA ?_ _));exact BK101.out),(by (with_reducible repeat (first|refine zB ?_ _|refine zD ?_|refine zA ?_ _));exact BK102.out),(by repeat (first|(with_reducible first|exact HB.out|apply zG|apply zC|apply zH|refine zF ?_ GE101.out|refine zF ?_ GE102.out)|exact HB.out))⟩)
         rintro ⟨v114,v117⟩ w54 ⟨hS_,h0_,h1_,h2_,h3_,h4_,h5_,h6_⟩
         have n0_:zR (Kd.R k24 24 w54 w.heap.size (fun k_=>(w.heap.size≤k_)∧some k_≠(v117:Value).ownBlock∧k_≠gb101∧k_≠gb102) v114 t113):=⟨h0_⟩
         have n1_:zR (Kd.R k24 24 w54 w.heap.size (fun k_=>(w.heap.size≤k_)∧some k_≠(v114:Value).ownBlock∧k_≠gb101∧k_≠gb102) v117 y116):=⟨h1_⟩
         have n2_:zR (Kd.V k24 24 w54 w.heap.size (fun k_=>(P0_ k_∨w.heap.size≤k_)∧some k_≠(v114:Value).ownBlock∧some k_≠(v117:Value).ownBlock∧k_≠gb101∧k_≠gb102) (.slice A0 x0_2.length c0) x0_2):=⟨h2_⟩
         have n3_:zR (Kd.V k24 24 w54 w.heap.size (fun k_=>(P0_ k_∨w.heap.size≤k_)∧some k_≠(v114:Value).ownBlock∧some k_≠(v117:Value).ownBlock∧k_≠gb101∧k_≠gb102) (.slice A0 x0_2.length c0) x0_2):=⟨h3_⟩
         have n4_:zR (w54.heap[gb101]?=some (.cells #[.int .i64 x102000_2,.int .i64 x102001_2,.int .i64 x102002_2,.int .i64 x102003_2,.int .i64 x102004_2,.string x102005_2] 24 (0,0))):=⟨h4_⟩
         have n5_:zR (w54.heap[gb102]?=some (.cells #[.int .i64 x103000_2,.int .i64 x103001_2,.int .i64 x103002_2,.int .i64 x103003_2,.int .i64 x103004_2,.string x103005_2] 24 (0,0))):=⟨h5_⟩
         have n6_:zR (Below w.heap.size w w54):=⟨h6_⟩
         clear HO_0
         clear HO_21
         clear BK101
         clear BK102
         clear HB
         clear h0_ h1_ h2_ h3_ h4_ h5_ h6_
         have HO115:=n0_
         have HO118:=n1_
         have HO_0:=n2_
         have HO_21:=n3_
         have BK101:=n4_
         have BK102:=n5_
         have HB:=n6_
         clear n0_ n1_ n2_ n3_ n4_ n5_ n6_
         have hHeld:w54.cell? ⟨gb101,0,none⟩=some (.int .i64 x102000_2)∧w54.cell? ⟨gb101,1,none⟩=some (.int .i64 x102001_2)∧w54.cell? ⟨gb101,2,none⟩=some (.int .i64 x102002_2)∧w54.cell? ⟨gb101,3,none⟩=some (.int .i64 x102003_2)∧w54.cell? ⟨gb101,4,none⟩=some (.int .i64 x102004_2)∧w54.cell? ⟨gb101,5,none⟩=some (.string x102005_2):=hS_
         obtain ⟨Ao56,co56,eo56⟩:=R_slice HO118.out
         (first|subst eo56|(injection eo56 with f1_ f2_ f3_;have f4_:=f1_.symm;have f5_:=f3_.symm;clear f1_ f2_ f3_;subst f4_;subst f5_))
         refine norm_ (a':=?_) ?_ ?_
         rotate_left
         ·simp only [putAll,Act.put,List.setIfInBounds_toArray,List.set_cons_zero,List.set_cons_succ]
          rfl
         refine one_ (i:=4) (N:=some 53) #[true,true,true,true,true,true,true,false,false,false] rfl rfl (one_of HT_.out (by kernel_rfl)) (by decide) (fun K hK=>?_)
         refine R_append_rows_step k24 (w0:=w) w.heap.size (by rfl) (.tmp 50) (.tmp 52) 22 24 (.agg #[(.int .i64 0),(.int .i64 0),(.int .i64 0),(.int .i64 0),(.int .i64 0),(.string ⟨#[]⟩)]) 56 rfl Try.underlying22 info24 rfl (by decide) (by omega) v114 t113 y116 _ _ _ (fun k_=>(w.heap.size≤k_)∧some k_≠(.slice Ao56 y116.length co56:Value).ownBlock∧k_≠gb101∧k_≠gb102) (fun _=>False) rfl rfl ?aO ?aR (fun _ _ h=>h) (fun _ h=>h.elim) ?aF ?aB ?aS ?aL ?_
         (case aR=>repeat (first|exact (R_reads' HO118.out).2.2|(with_reducible refine yC ?_ _)|(with_reducible refine yD ?_ _)|(with_reducible refine C_drew ?_)))
         (case aB=>exact (by repeat (first|(with_reducible first|exact HB.out|apply zG|apply zC|apply zH|refine zF ?_ GE101.out|refine zF ?_ GE102.out)|exact HB.out)))
         (case aF=>exact (fun k_ hk=>⟨(Nat.le_trans (zM (by repeat (first|(with_reducible first|exact HB.out|apply zG|apply zC|apply zH|refine zF ?_ GE101.out|refine zF ?_ GE102.out)|exact HB.out))) hk),Kd.fresh' (R_lt (by (with_reducible repeat (first|apply yA|apply zZ|apply yB));exact HO118.out)) k_ hk,Kd.freshB (g:=gb101) (o:=.cells #[.int .i64 x102000_2,.int .i64 x102001_2,.int .i64 x102002_2,.int .i64 x102003_2,.int .i64 x102004_2,.string x102005_2] 24 (0,0)) (by (with_reducible repeat (first|refine zB ?_ _|refine zD ?_|refine zA ?_ _));exact BK101.out) k_ hk,Kd.freshB (g:=gb102) (o:=.cells #[.int .i64 x103000_2,.int .i64 x103001_2,.int .i64 x103002_2,.int .i64 x103003_2,.int .i64 x103004_2,.string x103005_2] 24 (0,0)) (by (with_reducible repeat (first|refine zB ?_ _|refine zD ?_|refine zA ?_ _));exact BK102.out) k_ hk⟩))
         (case aO=>exact (by (with_reducible repeat (first|apply yA|apply zZ|apply yB));exact HO115.out))
         (case aS=>exact (zM (by repeat (first|(with_reducible first|exact HB.out|apply zG|apply zC|apply zH|refine zF ?_ GE101.out|refine zF ?_ GE102.out)|exact HB.out))))
         (case aL=>have:=LMc49.out;omega)
         intro v120 w55 ho hb hg hat
         rw [← Ny119.out] at ho
         have n0_:=Zk (V_afterv (ok:=(fun k_=>(P0_ k_∨w.heap.size≤k_)∧some k_≠(.slice Ao56 y116.length co56:Value).ownBlock∧k_≠gb101∧k_≠gb102)) (by (with_reducible repeat (first|apply zN|apply zO|apply zQ));exact zU HO_0.out (fun _ hk=>⟨⟨hk.1,⟨hk.2.2.1,⟨hk.2.2.2.1,hk.2.2.2.2⟩⟩⟩,hk.2.1⟩)) hg hat)
         have n1_:=Zk (V_afterv (ok:=(fun k_=>(P0_ k_∨w.heap.size≤k_)∧some k_≠(.slice Ao56 y116.length co56:Value).ownBlock∧k_≠gb101∧k_≠gb102)) (by (with_reducible repeat (first|apply zN|apply zO|apply zQ));exact zU HO_21.out (fun _ hk=>⟨⟨hk.1,⟨hk.2.2.1,⟨hk.2.2.2.1,hk.2.2.2.2⟩⟩⟩,hk.2.1⟩)) hg hat)
         have n2_:=Zk (blk_grown (g:=gb101) (o:=.cells #[.int .i64 x102000_2,.int .i64 x102001_2,.int .i64 x102002_2,.int .i64 x102003_2,.int .i64 x102004_2,.string x102005_2] 24 (0,0)) (by (with_reducible repeat (first|refine zB ?_ _|refine zD ?_|refine zA ?_ _));exact BK101.out) hg (R_away HO115.out (fun _ hk=>hk.2.2.1)))
         have n3_:=Zk (blk_grown (g:=gb102) (o:=.cells #[.int .i64 x103000_2,.int .i64 x103001_2,.int .i64 x103002_2,.int .i64 x103003_2,.int .i64 x103004_2,.string x103005_2] 24 (0,0)) (by (with_reducible repeat (first|refine zB ?_ _|refine zD ?_|refine zA ?_ _));exact BK102.out) hg (R_away HO115.out (fun _ hk=>hk.2.2.2)))
         have n4_:=Zk (R_after (ok:=(fun k_=>(w.heap.size≤k_)∧k_≠gb101∧k_≠gb102)) (by (with_reducible repeat (first|apply yA|apply zZ|apply yB));exact R_mono HO118.out (fun _ hk=>⟨⟨hk.1,⟨hk.2.2.1,hk.2.2.2⟩⟩,hk.2.1⟩)) hg hat)
         have n5_:=Zk (hb)
         have n6_:=Zk (ho)
         clear HO_0
         clear HO_21
         clear BK101
         clear BK102
         clear HO118
         clear HB
         clear HO115
         have HO_0:=n0_
         have HO_21:=n1_
         have BK101:=n2_
         have BK102:=n3_
         have HO118:=n4_
         have HB:=n5_
         have HO121:=n6_
         clear n0_ n1_ n2_ n3_ n4_ n5_ n6_
         clear ho hb hg hat
         refine hK.out _ _ ⟨(zJ BK101.out 0).trans rfl,(zJ BK101.out 1).trans rfl,(zJ BK101.out 2).trans rfl,(zJ BK101.out 3).trans rfl,(zJ BK101.out 4).trans rfl,(zJ BK101.out 5).trans rfl⟩ (fun hHeld=>?_)
         clear hK K
         refine norm_ (a':=?_) ?_ ?_
         rotate_left
         ·show Act.put _ (some 53) _=_
          simp only [Act.put,List.setIfInBounds_toArray,List.set_cons_zero,List.set_cons_succ,i64_w,i32_w]
          rfl
         refine pure_ (i:=7) (N:=some 4) (v:=?_) (a':=?_) #[true,true,true,true,true,true,true,true,false,false] rfl rfl (any_of HT_.out (by kernel_rfl)) (fun _ _ _ h=>h) (Or.inl ⟨by rfl,?_⟩) ?_ ?_
         rotate_left
         ·intro w'
          go_simp
          with_reducible rfl
         rotate_left
         ·simp only [Act.put,List.setIfInBounds_toArray,List.set_cons_zero,List.set_cons_succ,i64_w,i32_w]
          rfl
         refine pure_ (i:=8) (N:=some 5) (v:=?_) (a':=?_) #[true,true,true,true,true,true,true,true,true,false] rfl rfl (any_of HT_.out (by kernel_rfl)) (fun _ _ _ h=>h) (Or.inl ⟨by rfl,?_⟩) ?_ ?_
         rotate_left
         ·intro w'
          go_simp
          with_reducible rfl
         rotate_left
         ·simp only [Act.put,List.setIfInBounds_toArray,List.set_cons_zero,List.set_cons_succ,i64_w,i32_w]
          rfl
         refine pure_ (i:=9) (N:=some 6) (v:=?_) (a':=?_) #[true,true,true,true,true,true,true,true,true,true] rfl rfl (any_of HT_.out (by kernel_rfl)) (fun _ _ _ h=>h) (Or.inl ⟨by rfl,?_⟩) ?_ ?_
         rotate_left
         ·intro w'
          go_simp
          with_reducible rfl
         rotate_left
         ·simp only [Act.put,List.setIfInBounds_toArray,List.set_cons_zero,List.set_cons_succ,i64_w,i32_w]
          rfl
         refine done_ (done_of HT_.out (by kernel_rfl)) ?_
         try go_wp2
         go_ret3
         exact ⟨_,by first|rfl|(simp [errW_none,errW_some] <;> rfl)|(simp [*,errW_none,errW_some] <;> rfl),zU (R_V (by (with_reducible repeat (first|apply yA|apply zZ|apply yB));exact R_mono HO121.out (fun _ hk=>hk.1))) (fun k_ hk=>by first|exact ⟨(.inr (hk.1)),hk.2⟩|exact (.inr (hk))),by repeat (first|(with_reducible first|exact HB.out|apply zG|apply zC|apply zH|refine zF ?_ GE101.out|refine zF ?_ GE102.out)|exact HB.out)⟩
        ·rw [if_neg c49] at H
         exact absurd H (by simp)
end Go.Proofs.Ytpljggoogodhlaa.Q
end
section

namespace Go.Proofs.Ytpljggoogodhlaa.Q
open Go.RowKit Go.Proofs.YtpljggoogodhlaaW.PrintWords Go.Proofs.YtpljggoogodhlaaW.PrintLast Go.Proofs.YtpljggoogodhlaaW.PrintMore Go.Proofs.YtpljggoogodhlaaM
open Kd
attribute [local go_sem] max2_int min2_int max_two min_two max_three min_three max_four min_four
set_option linter.unusedVariables false
set_option linter.unusedSimpArgs false
def fdtab_open.f (l0:List (S24)) (a1:Int):Option (Bool):=if a1 ≥ 0 then (if a1 < (l0.length:Int) then (if 0≤a1 then (some (((rd_T24 l0 a1).f0) != 0)) else (none)) else (some false)) else (some false)
set_option maxHeartbeats 8000000 in
set_option maxRecDepth 10000000 in
theorem fdtab_open.calls (A0:Option Addr) (c0:Nat) (l0:List (S24)) (a1:Int) (r:Bool) (w:World) (hr0:Kd.C k24 w A0 l0.length l0) (hc0:l0.length≤c0) (h:fdtab_open.f l0 a1=some r) :
  Calls Try.prog 37 #[.slice A0 l0.length c0,.int .i64 a1] w fun e w'=>e=.returned (.bool r)∧Drawn0 w w':=by
 have HR0:=Zk hr0
 have HC0:=Zk hc0
 clear hr0 hc0
 have H:(if a1 ≥ 0 then (if a1 < (l0.length:Int) then (if 0≤a1 then (some (((rd_T24 l0 a1).f0) != 0)) else (none)) else (some false)) else (some false))=some r:=h
 clear h
 by_cases c3:a1 ≥ 0
 ·rw [if_pos c3] at H
  have c3b0:decide (0≤a1)=true:=decide_eq_true c3
  clear c3
  by_cases c4:a1 < (l0.length:Int)
  ·rw [if_pos c4] at H
   have c4b0:decide (a1 < (l0.length:Int))=true:=decide_eq_true c4
   clear c4
   by_cases c5:0≤a1
   ·rw [if_pos c5] at H
    have c5b0:decide (0≤a1)=true:=decide_eq_true c5
    clear c5
    obtain rfl:=Option.some.inj H
    have p128:0≤(a1:Int):=of_decide_eq_true (by first|(with_reducible assumption)|assumption)
    have q128:a1 < (l0.length:Int):=of_decide_eq_true (by first|(with_reducible assumption)|assumption)
    obtain ⟨ad128,e128,hx128_0,hx128_1,hx128_2,hx128_3,hx128_4,hx128_5⟩:=at_T24 HR0.out a1 p128 q128
    cases e128
    replace p128:=eq_true p128
    replace q128:=eq_true q128
    go_enter Try.func37,Try.ntmps37
    go_wp2
    go_ret
    exact ⟨by first|rfl|(simp;done)|(simp [*];done),by repeat (first|exact Drawn0.refl _|apply Drawn0.step)⟩
   ·rw [if_neg c5] at H
    exact absurd H (by simp)
  ·rw [if_neg c4] at H
   have c4b0:decide (a1 < (l0.length:Int))=false:=decide_eq_false c4
   clear c4
   obtain rfl:=Option.some.inj H
   go_enter Try.func37,Try.ntmps37
   go_wp2
   go_ret
   exact ⟨by first|rfl|(simp;done)|(simp [*];done),by repeat (first|exact Drawn0.refl _|apply Drawn0.step)⟩
 ·rw [if_neg c3] at H
  have c3b0:decide (0≤a1)=false:=decide_eq_false c3
  clear c3
  obtain rfl:=Option.some.inj H
  go_enter Try.func37,Try.ntmps37
  go_wp2
  go_ret
  exact ⟨by first|rfl|(simp;done)|(simp [*];done),by repeat (first|exact Drawn0.refl _|apply Drawn0.step)⟩
def fdtab_Release.j0:Nat→List (S24)→Int→Bool→Option ((List (S24)) × Bool × Int)
 |0,_,_,_=>none
 |k + 1,x0,x1,x20=>if x20=true then (some (x0,false,15)) else ((api_Desc.f x0).bind fun t131=>(if 0≤x1 then (if x1 < (t131.length:Int) then ((some (t131.set (x1:Int).toNat (⟨(rd_T24 t131 x1).f0,(rd_T24 t131 x1).f1,(rd_T24 t131 x1).f2,(rd_T24 t131 x1).f3,wrap64 (((rd_T24 t131 x1).f4) - 1),(rd_T24 t131 x1).f5⟩:S24):List (S24))).bind fun y135=>(if ((rd_T24 y135 x1).f4)=0 then (some ((y135.set (x1:Int).toNat (⟨0,0,0,0,0,(⟨#[]⟩:ByteArray)⟩:S24)),(((rd_T24 y135 x1).f4) == 0),0)) else (some (y135,(((rd_T24 y135 x1).f4) == 0),0)))) else (none)) else (none)))
def fdtab_Release.f (k:Nat) (l0:List (S24)) (a1:Int):Option ((List (S24)) × Bool × Int):=(fdtab_open.f l0 a1).bind fun t129=>(if t129=true then (if 0≤a1 then (if a1 < (l0.length:Int) then (fdtab_Release.j0 k l0 a1 (decide (((rd_T24 l0 a1).f4) < 1))) else (none)) else (none)) else (fdtab_Release.j0 k l0 a1 true))
theorem fdtab_Release.mono_l:∀ k,(∀ y0 y1 y2,LeO (fdtab_Release.j0 k y0 y1 y2) (fdtab_Release.j0 (k + 1) y0 y1 y2))
 |0=>fun _ _ _ r h=>by simp [fdtab_Release.j0] at h
 |k + 1=>by
  have ih0:=fdtab_Release.mono_l k
  ·intro y0 y1 y2
   unfold fdtab_Release.j0
   repeat' first
   |(with_reducible exact ih0 _ _ _)
   |(with_reducible exact LeO.refl _)
   |(with_reducible exact LeO.none _)
   |(with_reducible refine LeO.ite ?_ ?_)
   |(with_reducible refine LeO.bind ?_ (fun _=>?_))
   |exact ih0 _ _ _
   |exact LeO.none _
   |refine LeO.ite ?_ ?_
   |refine LeO.bind ?_ (fun _=>?_)
theorem fdtab_Release.mono:∀ a0 a1 k,LeO (fdtab_Release.f k a0 a1) (fdtab_Release.f (k + 1) a0 a1):=by
 intro a0 a1 k
 have ih0:=fdtab_Release.mono_l k
 unfold fdtab_Release.f
 repeat' first
   |(with_reducible exact ih0 _ _ _)
   |(with_reducible exact LeO.refl _)
   |(with_reducible exact LeO.none _)
   |(with_reducible refine LeO.ite ?_ ?_)
   |(with_reducible refine LeO.bind ?_ (fun _=>?_))
   |exact ih0 _ _ _
   |exact LeO.none _
   |refine LeO.ite ?_ ?_
   |refine LeO.bind ?_ (fun _=>?_)
set_option maxHeartbeats 8000000 in
set_option maxRecDepth 10000000 in
theorem fdtab_Release.calls (k:Nat) (P0_:Nat→Prop) (A0:Option Addr) (c0:Nat) (l0:List (S24)) (a1:Int) (r1:List (S24)) (r2:Bool) (r3:Int) (w:World) (hs0:Kd.V k24 24 w w.heap.size (fun k_=>P0_ k_) (.slice A0 l0.length c0) l0) (h:fdtab_Release.f k l0 a1=some (r1,r2,r3)) :
  Calls Try.prog 22 #[.slice A0 l0.length c0,.int .i64 a1] w fun e w'=>∃ v0_:Value,e=.returned (.tuple #[v0_,.bool r2,.int .i64 r3])∧Kd.V k24 24 w' w.heap.size (fun k_=>(P0_ k_∨w.heap.size≤k_)) v0_ r1∧Below w.heap.size w w':=by
 have hu24:=Try.underlying24
 have HO0:=Zk (show Kd.V k24 24 w w.heap.size (fun k_=>(P0_ k_∨w.heap.size≤k_)) (.slice A0 l0.length c0) l0 from zU hs0 (fun k_ hk=>.inl hk))
 have HB:=Zk (Below.refl w.heap.size w)
 have H:((fdtab_open.f l0 a1).bind fun t129=>(if t129=true then (if 0≤a1 then (if a1 < (l0.length:Int) then (fdtab_Release.j0 k l0 a1 (decide (((rd_T24 l0 a1).f4) < 1))) else (none)) else (none)) else (fdtab_Release.j0 k l0 a1 true)))=some (r1,r2,r3):=h
 clear h
 have HC3:=Zk H
 clear H
 go_enter Try.func22,Try.ntmps22
 go_upto_region 1 with (fail)
 go_cut [20] (fun v20 wc=>∃ (kq:Nat) (x20_2:Bool),v20=.bool x20_2∧zR (fdtab_Release.j0 kq l0 a1 x20_2=some (r1,r2,r3))∧zR (kq≤k)∧zR (Kd.V k24 24 wc w.heap.size (fun k_=>(P0_ k_∨w.heap.size≤k_)) (.slice A0 l0.length c0) l0)∧zR (Below w.heap.size w wc))
 case first=>
  have H:=HC3.out
  clear HC3
  replace H:=Option.bind_eq_some_iff.mp H
  obtain ⟨t129,A40,H⟩:=H
  replace H:(if t129=true then (if 0≤a1 then (if a1 < (l0.length:Int) then (fdtab_Release.j0 k l0 a1 (decide (((rd_T24 l0 a1).f4) < 1))) else (none)) else (none)) else (fdtab_Release.j0 k l0 a1 true))=some (r1,r2,r3):=H
  have A4:=Zk A40
  clear A40
  by_cases c5:t129=true
  ·subst c5
   have H1:(if 0≤a1 then (if a1 < (l0.length:Int) then (fdtab_Release.j0 k l0 a1 (decide (((rd_T24 l0 a1).f4) < 1))) else (none)) else (none))=some (r1,r2,r3):=by rw [if_pos rfl] at H;exact H
   clear H
   have H:=H1
   clear H1
   by_cases c6:0≤a1
   ·rw [if_pos c6] at H
    have c6b0:decide (0≤a1)=true:=decide_eq_true c6
    clear c6
    (first|rw [c6b0]|(simp only [i64_w,i32_w];rw [c6b0])|skip)
    by_cases c7:a1 < (l0.length:Int)
    ·rw [if_pos c7] at H
     have c7b0:decide (a1 < (l0.length:Int))=true:=decide_eq_true c7
     clear c7
     have H':=Zk H
     clear H
     go_wp2_with (first|((with_reducible refine zW (f:=37) rfl ?_);refine yF (some 11) rfl rfl Try.func37 (by kernel_rfl) rfl #[.slice A0 l0.length c0,.int .i64 a1] rfl (by (try simp only [List.map_toArray,List.map_cons,List.map_nil]);first|done|rfl|(simp only [List.length_drop,List.length_take];rfl)) ?_;(with_reducible refine (fdtab_open.calls _ _ l0 a1 true _ ?side1 ?side2 A4.out).mono ?_);(case side1=>repeat (first|exact (zY HO0.out).2.2|(with_reducible refine yC ?_ _)|(with_reducible refine yD ?_ _)|(with_reducible refine C_drew ?_)));(case side2=>exact (zY HO0.out).2.1);rintro e w' ⟨rfl,⟨nd,rfl⟩⟩;refine ⟨_,rfl,?_⟩;have p130:0≤(a1:Int):=of_decide_eq_true (by first|(with_reducible assumption)|assumption);have q130:a1 < (l0.length:Int):=of_decide_eq_true (by first|(with_reducible assumption)|assumption);obtain ⟨ad130,e130,hx130_0,hx130_1,hx130_2,hx130_3,hx130_4,hx130_5⟩:=at_T24 (zY HO0.out).2.2 a1 p130 q130;cases e130;replace p130:=eq_true p130;replace q130:=eq_true q130))
     go_meet
     case rel=>exact ⟨_,(decide (((rd_T24 l0 a1).f4) < 1)),(by first|rfl|(simp;done)|(simp [*];done)|(generalize ByteArray.toList _=l_;cases l_ <;> rfl)),H',⟨by first|omega|exact Nat.le_refl _⟩,⟨by (with_reducible repeat (first|apply zN|apply zO|apply zQ));exact HO0.out⟩,⟨by repeat (first|(with_reducible first|exact HB.out|apply zG|apply zC|apply zH)|exact HB.out)⟩⟩
    ·rw [if_neg c7] at H
     exact absurd H (by simp)
   ·rw [if_neg c6] at H
    exact absurd H (by simp)
  ·replace c5:=Bool.eq_false_iff.mpr c5
   subst c5
   have H1:(fdtab_Release.j0 k l0 a1 true)=some (r1,r2,r3):=by rw [if_neg (show ¬ (false=true) by decide)] at H;exact H
   clear H
   have H:=H1
   clear H1
   have H':=Zk H
   clear H
   go_wp2_with (first|((with_reducible refine zW (f:=37) rfl ?_);refine yF (some 11) rfl rfl Try.func37 (by kernel_rfl) rfl #[.slice A0 l0.length c0,.int .i64 a1] rfl (by (try simp only [List.map_toArray,List.map_cons,List.map_nil]);first|done|rfl|(simp only [List.length_drop,List.length_take];rfl)) ?_;(with_reducible refine (fdtab_open.calls _ _ l0 a1 false _ ?side1 ?side2 A4.out).mono ?_);(case side1=>repeat (first|exact (zY HO0.out).2.2|(with_reducible refine yC ?_ _)|(with_reducible refine yD ?_ _)|(with_reducible refine C_drew ?_)));(case side2=>exact (zY HO0.out).2.1);rintro e w' ⟨rfl,⟨nd,rfl⟩⟩;refine ⟨_,rfl,?_⟩))
   go_meet
   case rel=>exact ⟨_,(true),(by first|rfl|(simp;done)|(simp [*];done)|(generalize ByteArray.toList _=l_;cases l_ <;> rfl)),H',⟨by first|omega|exact Nat.le_refl _⟩,⟨by (with_reducible repeat (first|apply zN|apply zO|apply zQ));exact HO0.out⟩,⟨by repeat (first|(with_reducible first|exact HB.out|apply zG|apply zC|apply zH)|exact HB.out)⟩⟩
 case rest=>
  clear HC3
  try clear p1
  try clear q1
  try clear hx1
  try clear c2
  try clear p2
  try clear c3
  try clear c5
  try clear c6
  try clear c6b0
  try clear c7
  try clear c7b0
  try clear hx130_0
  try clear hx130_1
  try clear hx130_2
  try clear hx130_3
  try clear hx130_4
  try clear hx130_5
  try clear p130
  try clear q130
  obtain ⟨kq,x20_2,rfl,HA,HJ2,HO_0,HB⟩:=hcut
  cases kq with
  |zero=>exact absurd HA.out (by simp [fdtab_Release.j0])
  |succ kj2=>
   have H:=HA.out
   clear HA
   simp only [fdtab_Release.j0] at H
   by_cases c8:x20_2=true
   ·subst c8
    have H1:(some (l0,false,15))=some (r1,r2,r3):=by rw [if_pos rfl] at H;exact H
    clear H
    have H:=H1
    clear H1
    simp only [Option.some.injEq,Prod.mk.injEq] at H
    obtain ⟨rfl,rfl,rfl⟩:=H
    go_wp2
    go_ret3
    exact ⟨_,by first|rfl|(simp [errW_none,errW_some] <;> rfl)|(simp [*,errW_none,errW_some] <;> rfl),by (with_reducible repeat (first|apply zN|apply zO|apply zQ));exact HO_0.out,by repeat (first|(with_reducible first|exact HB.out|apply zG|apply zC|apply zH)|exact HB.out)⟩
   ·replace c8:=Bool.eq_false_iff.mpr c8
    subst c8
    have H1:((api_Desc.f l0).bind fun t131=>(if 0≤a1 then (if a1 < (t131.length:Int) then ((some (t131.set (a1:Int).toNat (⟨(rd_T24 t131 a1).f0,(rd_T24 t131 a1).f1,(rd_T24 t131 a1).f2,(rd_T24 t131 a1).f3,wrap64 (((rd_T24 t131 a1).f4) - 1),(rd_T24 t131 a1).f5⟩:S24):List (S24))).bind fun y135=>(if ((rd_T24 y135 a1).f4)=0 then (some ((y135.set (a1:Int).toNat (⟨0,0,0,0,0,(⟨#[]⟩:ByteArray)⟩:S24)),(((rd_T24 y135 a1).f4) == 0),0)) else (some (y135,(((rd_T24 y135 a1).f4) == 0),0)))) else (none)) else (none)))=some (r1,r2,r3):=by rw [if_neg (show ¬ (false=true) by decide)] at H;exact H
    clear H
    have H:=H1
    clear H1
    replace H:=Option.bind_eq_some_iff.mp H
    obtain ⟨t131,A90,H⟩:=H
    replace H:(if 0≤a1 then (if a1 < (t131.length:Int) then ((some (t131.set (a1:Int).toNat (⟨(rd_T24 t131 a1).f0,(rd_T24 t131 a1).f1,(rd_T24 t131 a1).f2,(rd_T24 t131 a1).f3,wrap64 (((rd_T24 t131 a1).f4) - 1),(rd_T24 t131 a1).f5⟩:S24):List (S24))).bind fun y135=>(if ((rd_T24 y135 a1).f4)=0 then (some ((y135.set (a1:Int).toNat (⟨0,0,0,0,0,(⟨#[]⟩:ByteArray)⟩:S24)),(((rd_T24 y135 a1).f4) == 0),0)) else (some (y135,(((rd_T24 y135 a1).f4) == 0),0)))) else (none)) else (none))=some (r1,r2,r3):=H
    have A9:=Zk A90
    clear A90
    by_cases c10:0≤a1
    ·rw [if_pos c10] at H
     have c10b0:decide (0≤a1)=true:=decide_eq_true c10
     clear c10
     by_cases c11:a1 < (t131.length:Int)
     ·rw [if_pos c11] at H
      have c11b0:decide (a1 < (t131.length:Int))=true:=decide_eq_true c11
      clear c11
      obtain ⟨y135,hy135⟩:∃ y_:List (S24),y_=(t131.set (a1:Int).toNat (⟨(rd_T24 t131 a1).f0,(rd_T24 t131 a1).f1,(rd_T24 t131 a1).f2,(rd_T24 t131 a1).f3,wrap64 (((rd_T24 t131 a1).f4) - 1),(rd_T24 t131 a1).f5⟩:S24)):=⟨_,rfl⟩
      replace H:(if ((rd_T24 y135 a1).f4)=0 then (some ((y135.set (a1:Int).toNat (⟨0,0,0,0,0,(⟨#[]⟩:ByteArray)⟩:S24)),(((rd_T24 y135 a1).f4) == 0),0)) else (some (y135,(((rd_T24 y135 a1).f4) == 0),0)))=some (r1,r2,r3):=by first|(rw [hy135];with_reducible exact H)|(have H2_:=(Option.bind_some _ _).symm.trans H;rw [hy135];with_reducible exact H2_)|(have H2_:=(Option.bind_some _ _).symm.trans H;with_reducible exact H2_)|with_reducible exact H|(rw [hy135];exact H)|exact H
      have Ny135:=Zk hy135
      clear hy135
      by_cases c13:((rd_T24 y135 a1).f4)=0
      ·rw [if_pos c13] at H
       have c13b0:(((rd_T24 y135 a1).f4) == 0)=true:=beq_iff_eq.mpr c13
       have c13b1:(((rd_T24 y135 a1).f4) != 0)=false:=bne_eq_false_iff_eq.mpr c13
       clear c13
       obtain ⟨y137,hy137⟩:∃ y_:List (S24),y_=(y135.set (a1:Int).toNat (⟨0,0,0,0,0,(⟨#[]⟩:ByteArray)⟩:S24)):=⟨_,rfl⟩
       replace H:(some (y137,(((rd_T24 y135 a1).f4) == 0),0))=some (r1,r2,r3):=by first|(rw [hy137];with_reducible exact H)|(have H2_:=(Option.bind_some _ _).symm.trans H;rw [hy137];with_reducible exact H2_)|(have H2_:=(Option.bind_some _ _).symm.trans H;with_reducible exact H2_)|with_reducible exact H|(rw [hy137];exact H)|exact H
       have Ny137:=Zk hy137
       clear hy137
       simp only [Option.some.injEq,Prod.mk.injEq] at H
       obtain ⟨rfl,rfl,rfl⟩:=H
       go_wp2_with (first|((with_reducible refine zW (f:=32) rfl ?_);refine yF (some 23) rfl rfl Try.func32 (by kernel_rfl) rfl #[.slice A0 l0.length c0] rfl (by (try simp only [List.map_toArray,List.map_cons,List.map_nil]);first|done|rfl|(simp only [List.length_drop,List.length_take];rfl)) ?_;(with_reducible refine (api_Desc.calls _ _ l0 t131 _ ?side1 ?side2 A9.out).mono ?_);(case side1=>repeat (first|exact (zY HO_0.out).2.2|(with_reducible refine yC ?_ _)|(with_reducible refine yD ?_ _)|(with_reducible refine C_drew ?_)));(case side2=>exact (zY HO_0.out).2.1);rintro e w15 ⟨v132,rfl,ho0,hb⟩;refine ⟨_,rfl,?_⟩;have n0_:=Zk (V_elder' (by (with_reducible repeat (first|apply zN|apply zO|apply zQ));exact HO_0.out) (R_base ho0) hb);have n1_:=Zk (R_lower (R_newM (M:=fun k_=>(w.heap.size≤k_)) ho0 (zM (by repeat (first|(with_reducible first|exact HB.out|apply zG|apply zC|apply zH)|exact HB.out))) (fun k_ h_=>h_)) (zM (by repeat (first|(with_reducible first|exact HB.out|apply zG|apply zC|apply zH)|exact HB.out))));have n2_:=Zk (zL (by repeat (first|(with_reducible first|exact HB.out|apply zG|apply zC|apply zH)|exact HB.out)) hb);clear HO_0;clear HB;have HO_0:=n0_;have HO133:=n1_;have HB:=n2_;clear n0_ n1_ n2_;(try clear hb);(try clear hb2);(try clear hk);(try clear hi);(try clear ho0);obtain ⟨Ao16,co16,eo16⟩:=R_slice HO133.out;subst eo16;have p134:0≤(a1:Int):=of_decide_eq_true (by first|(with_reducible assumption)|assumption);have q134:a1 < (t131.length:Int):=of_decide_eq_true (by first|(with_reducible assumption)|assumption);obtain ⟨ad134,e134,hx134_0,hx134_1,hx134_2,hx134_3,hx134_4,hx134_5⟩:=at_T24 (R_reads' HO133.out).2.2 a1 p134 q134;cases e134;replace p134:=eq_true p134;replace q134:=eq_true q134;have p12:0≤(a1:Int):=of_decide_eq_true (by first|(with_reducible assumption)|assumption);have q12:(a1:Int) < ((t131.length:Int):Int):=of_decide_eq_true (by first|(with_reducible assumption)|assumption);obtain ⟨go12,co12,eo12,gb12,gl12,cl12,HG12⟩:=R_form HO133.out (by omega);(first|cases eo12|(injection eo12 with ea_ en_ ec_;(first|subst ea_|(injection ea_ with ea_;subst ea_));subst ec_;clear en_));have GB12:=Zk gb12;have GG12:=Zk HG12;clear gb12 gl12 HG12;(first|simp only [add_plain] at hx134_0|skip);(first|simp only [add_plain] at hx134_1|skip);(first|simp only [add_plain] at hx134_2|skip);(first|simp only [add_plain] at hx134_3|skip);(first|simp only [add_plain] at hx134_4|skip);(first|simp only [add_plain] at hx134_5|skip);obtain ⟨ce12,hcl12,hM12,hcc12,hfr12⟩:=R_elem HO133.out z24 (a1:Int) p12 q12;obtain rfl:=k24_openM hM12;have hx12_0:w15.cell? ⟨go12,(a1:Int).toNat * 6,none⟩=some (.int .i64 ((rd_T24 t131 a1).f0)):=hcc12 0 _ rfl;have hx12_1:w15.cell? ⟨go12,(a1:Int).toNat * 6 + 1,none⟩=some (.int .i64 ((rd_T24 t131 a1).f1)):=hcc12 1 _ rfl;have hx12_2:w15.cell? ⟨go12,(a1:Int).toNat * 6 + 2,none⟩=some (.int .i64 ((rd_T24 t131 a1).f2)):=hcc12 2 _ rfl;have hx12_3:w15.cell? ⟨go12,(a1:Int).toNat * 6 + 3,none⟩=some (.int .i64 ((rd_T24 t131 a1).f3)):=hcc12 3 _ rfl;have hx12_4:w15.cell? ⟨go12,(a1:Int).toNat * 6 + 4,none⟩=some (.int .i64 ((rd_T24 t131 a1).f4)):=hcc12 4 _ rfl;have hx12_5:w15.cell? ⟨go12,(a1:Int).toNat * 6 + 5,none⟩=some (.string ((rd_T24 t131 a1).f5)):=hcc12 5 _ rfl;have hf12_0:w15.frozen? ⟨go12,(a1:Int).toNat * 6,none⟩=false:=hfr12 0;have hf12_1:w15.frozen? ⟨go12,(a1:Int).toNat * 6 + 1,none⟩=false:=hfr12 1;have hf12_2:w15.frozen? ⟨go12,(a1:Int).toNat * 6 + 2,none⟩=false:=hfr12 2;have hf12_3:w15.frozen? ⟨go12,(a1:Int).toNat * 6 + 3,none⟩=false:=hfr12 3;have hf12_4:w15.frozen? ⟨go12,(a1:Int).toNat * 6 + 4,none⟩=false:=hfr12 4;have hf12_5:w15.frozen? ⟨go12,(a1:Int).toNat * 6 + 5,none⟩=false:=hfr12 5;clear hcl12 hcc12 hfr12 hM12;replace p12:=eq_true p12;replace q12:=eq_true q12;have n_:=Zk (R_mono (ok':=(fun k_=>(w.heap.size≤k_))) HO133.out (fun k_ hk=>hk.1));clear HO133;have HO133:=n_;clear n_;have HX17:=Zk (show Kd.R k24 24 w15 w.heap.size (fun k_=>(w.heap.size≤k_)) (.slice (some ⟨go12,0,none⟩) t131.length co16) t131 from (by (with_reducible repeat (first|apply yA|apply zZ|apply yB));exact HO133.out));obtain ⟨ce17,hcl17,hM17,hcc17,hfr17⟩:=R_elem HX17.out z24 (a1:Int) (of_decide_eq_true (by first|(with_reducible assumption)|assumption)) (by have h_:(a1:Int) < ((t131.length:Int):Int):=of_decide_eq_true (by first|(with_reducible assumption)|assumption);first|exact h_|(have e_:=(R_reads' HO133.out).1;omega)|simpa using h_);obtain rfl:=k24_openM hM17;have HP17:=R_seg HX17.out (a1:Int) (of_decide_eq_true (by first|(with_reducible assumption)|assumption)) (by have h_:(a1:Int) < ((t131.length:Int):Int):=of_decide_eq_true (by first|(with_reducible assumption)|assumption);first|exact h_|(have e_:=(R_reads' HO133.out).1;omega)|simpa using h_) (seg:=[.int .i64 (wrap64 (((rd_T24 t131 a1).f4) - 1))]) (j:=4) hcl17 hcc17 (show 5≤6 from by decide) (x':=(⟨(rd_T24 t131 a1).f0,(rd_T24 t131 a1).f1,(rd_T24 t131 a1).f2,(rd_T24 t131 a1).f3,wrap64 (((rd_T24 t131 a1).f4) - 1),(rd_T24 t131 a1).f5⟩:S24)) (k24_mkM _ _ _ (⟨(rd_T24 t131 a1).f0,(rd_T24 t131 a1).f1,(rd_T24 t131 a1).f2,(rd_T24 t131 a1).f3,wrap64 (((rd_T24 t131 a1).f4) - 1),(rd_T24 t131 a1).f5⟩:S24) ) (fun _ hk=>hk);have hx17_4:=hcc17 4 _ rfl;(try simp only [show (k24).sz=6 from rfl,Nat.mul_one,Nat.add_zero] at hx17_4);have hf17_4:=hfr17 4;(try simp only [show (k24).sz=6 from rfl,Nat.mul_one,Nat.add_zero] at hf17_4);clear hcl17 hcc17 hfr17 hM17)|((with_reducible refine gate_store (t:=3) (p:=31) rfl ?_);refine store_event (t:=3) (p:=31) (v:=?vo_w18) (w1:=(w15.setCell ⟨go12,(a1:Int).toNat * 6 + 4,none⟩ (.int .i64 (wrap64 (((rd_T24 t131 a1).f4) - 1))))) ?hg ?ho ?hn ?hr ?_;(case ho=>rfl);(case hg=>rfl);(case hn=>rfl);(case hr=>first|(go_simp;done)|(go_simp;rfl));intro w18 hw;have hg:w15.grownBy w18 (some go12):=(by rw [hw];exact HP17.2);have hp_:Kd.R k24 24 w18 w.heap.size (fun k_=>(w.heap.size≤k_)) (.slice (some ⟨go12,0,none⟩) t131.length co16) y135:=(by rw [hw,Ny135.out];exact HP17.1);clear HP17;have n0_:=Zk (V_afterv (v:=(.slice (some ⟨go12,0,none⟩) t131.length co16)) (v1:=(.slice (some ⟨go12,0,none⟩) t131.length co16)) (ok:=(fun k_=>(P0_ k_∨w.heap.size≤k_))) (by (with_reducible repeat (first|apply zN|apply zO|apply zQ));exact HO_0.out) hg (.inl rfl));have n1_:=Zk (hp_);have n2_:=Zk ((by rw [hw];exact zF (HB.out) GB12.out:Below w.heap.size w w18));clear HO_0;clear HO133;clear HB;have HO_0:=n0_;have HO133:=n1_;have HB:=n2_;clear n0_ n1_ n2_;clear hg hw hp_;have p136:0≤(a1:Int):=of_decide_eq_true (by first|(with_reducible assumption)|assumption);have q136:a1 < (y135.length:Int):=(by have h_:(a1:Int) < ((t131.length:Int):Int):=of_decide_eq_true (by first|(with_reducible assumption)|assumption);first|(have e_:=(R_reads' HO133.out).1;omega)|simpa only [Ny135.out,List.length_set] using h_);have ql136:((a1:Int) < ((t131.length:Int):Int))=True:=eq_true (of_decide_eq_true (by first|(with_reducible assumption)|assumption));obtain ⟨ad136,e136,hx136_0,hx136_1,hx136_2,hx136_3,hx136_4,hx136_5⟩:=at_T24 (R_reads' HO133.out).2.2 a1 p136 q136;obtain rfl:(⟨go12,0,none⟩:Addr)=ad136:=(by injection e136);(first|simp only [add_plain] at hx136_0|simp only [add_at] at hx136_0|simp only [Addr.add,Nat.zero_add] at hx136_0|skip);(first|simp only [add_plain] at hx136_1|simp only [add_at] at hx136_1|simp only [Addr.add,Nat.zero_add] at hx136_1|skip);(first|simp only [add_plain] at hx136_2|simp only [add_at] at hx136_2|simp only [Addr.add,Nat.zero_add] at hx136_2|skip);(first|simp only [add_plain] at hx136_3|simp only [add_at] at hx136_3|simp only [Addr.add,Nat.zero_add] at hx136_3|skip);(first|simp only [add_plain] at hx136_4|simp only [add_at] at hx136_4|simp only [Addr.add,Nat.zero_add] at hx136_4|skip);(first|simp only [add_plain] at hx136_5|simp only [add_at] at hx136_5|simp only [Addr.add,Nat.zero_add] at hx136_5|skip);replace p136:=eq_true p136;replace q136:=eq_true q136;have p14:0≤(a1:Int):=of_decide_eq_true (by first|(with_reducible assumption)|assumption);have q14:(a1:Int) < ((t131.length:Int):Int):=of_decide_eq_true (by first|(with_reducible assumption)|assumption);obtain ⟨ce14,hcl14,hM14,hcc14,hfr14⟩:=R_elem HO133.out z24 (a1:Int) p14 q14;obtain rfl:=k24_openM hM14;have hx14_0:w18.cell? ⟨go12,(a1:Int).toNat * 6,none⟩=some (.int .i64 ((rd_T24 y135 a1).f0)):=hcc14 0 _ rfl;have hx14_1:w18.cell? ⟨go12,(a1:Int).toNat * 6 + 1,none⟩=some (.int .i64 ((rd_T24 y135 a1).f1)):=hcc14 1 _ rfl;have hx14_2:w18.cell? ⟨go12,(a1:Int).toNat * 6 + 2,none⟩=some (.int .i64 ((rd_T24 y135 a1).f2)):=hcc14 2 _ rfl;have hx14_3:w18.cell? ⟨go12,(a1:Int).toNat * 6 + 3,none⟩=some (.int .i64 ((rd_T24 y135 a1).f3)):=hcc14 3 _ rfl;have hx14_4:w18.cell? ⟨go12,(a1:Int).toNat * 6 + 4,none⟩=some (.int .i64 ((rd_T24 y135 a1).f4)):=hcc14 4 _ rfl;have hx14_5:w18.cell? ⟨go12,(a1:Int).toNat * 6 + 5,none⟩=some (.string ((rd_T24 y135 a1).f5)):=hcc14 5 _ rfl;have hf14_0:w18.frozen? ⟨go12,(a1:Int).toNat * 6,none⟩=false:=hfr14 0;have hf14_1:w18.frozen? ⟨go12,(a1:Int).toNat * 6 + 1,none⟩=false:=hfr14 1;have hf14_2:w18.frozen? ⟨go12,(a1:Int).toNat * 6 + 2,none⟩=false:=hfr14 2;have hf14_3:w18.frozen? ⟨go12,(a1:Int).toNat * 6 + 3,none⟩=false:=hfr14 3;have hf14_4:w18.frozen? ⟨go12,(a1:Int).toNat * 6 + 4,none⟩=false:=hfr14 4;have hf14_5:w18.frozen? ⟨go12,(a1:Int).toNat * 6 + 5,none⟩=false:=hfr14 5;clear hcl14 hcc14 hfr14 hM14;replace p14:=eq_true p14;replace q14:=eq_true q14;have HX19:=Zk (show Kd.R k24 24 w18 w.heap.size (fun k_=>(w.heap.size≤k_)) (.slice (some ⟨go12,0,none⟩) t131.length co16) y135 from (by (with_reducible repeat (first|apply yA|apply zZ|apply yB));exact HO133.out));obtain ⟨ce19,hcl19,hM19,hcc19,hfr19⟩:=R_elem HX19.out z24 (a1:Int) (of_decide_eq_true (by first|(with_reducible assumption)|assumption)) (by have h_:(a1:Int) < ((t131.length:Int):Int):=of_decide_eq_true (by first|(with_reducible assumption)|assumption);first|exact h_|(have e_:=(R_reads' HO133.out).1;omega)|simpa using h_);obtain rfl:=k24_openM hM19;have HP19:=R_seg HX19.out (a1:Int) (of_decide_eq_true (by first|(with_reducible assumption)|assumption)) (by have h_:(a1:Int) < ((t131.length:Int):Int):=of_decide_eq_true (by first|(with_reducible assumption)|assumption);first|exact h_|(have e_:=(R_reads' HO133.out).1;omega)|simpa using h_) (seg:=[.int .i64 0,.int .i64 0,.int .i64 0,.int .i64 0,.int .i64 0,.string (⟨#[]⟩:ByteArray)]) (j:=0) hcl19 hcc19 (show 6≤6 from by decide) (x':=(⟨0,0,0,0,0,(⟨#[]⟩:ByteArray)⟩:S24)) (k24_mkM _ _ _ (⟨0,0,0,0,0,(⟨#[]⟩:ByteArray)⟩:S24) ) (fun _ hk=>hk);have hx19_0:=hcc19 0 _ rfl;(try simp only [show (k24).sz=6 from rfl,Nat.mul_one,Nat.add_zero] at hx19_0);have hf19_0:=hfr19 0;(try simp only [show (k24).sz=6 from rfl,Nat.mul_one,Nat.add_zero] at hf19_0);have hx19_1:=hcc19 1 _ rfl;(try simp only [show (k24).sz=6 from rfl,Nat.mul_one,Nat.add_zero] at hx19_1);have hf19_1:=hfr19 1;(try simp only [show (k24).sz=6 from rfl,Nat.mul_one,Nat.add_zero] at hf19_1);have hx19_2:=hcc19 2 _ rfl;(try simp only [show (k24).sz=6 from rfl,Nat.mul_one,Nat.add_zero] at hx19_2);have hf19_2:=hfr19 2;(try simp only [show (k24).sz=6 from rfl,Nat.mul_one,Nat.add_zero] at hf19_2);have hx19_3:=hcc19 3 _ rfl;(try simp only [show (k24).sz=6 from rfl,Nat.mul_one,Nat.add_zero] at hx19_3);have hf19_3:=hfr19 3;(try simp only [show (k24).sz=6 from rfl,Nat.mul_one,Nat.add_zero] at hf19_3);have hx19_4:=hcc19 4 _ rfl;(try simp only [show (k24).sz=6 from rfl,Nat.mul_one,Nat.add_zero] at hx19_4);have hf19_4:=hfr19 4;(try simp only [show (k24).sz=6 from rfl,Nat.mul_one,Nat.add_zero] at hf19_4);have hx19_5:=hcc19 5 _ rfl;(try simp only [show (k24).sz=6 from rfl,Nat.mul_one,Nat.add_zero] at hx19_5);have hf19_5:=hfr19 5;(try simp only [show (k24).sz=6 from rfl,Nat.mul_one,Nat.add_zero] at hf19_5);clear hcl19 hcc19 hfr19 hM19)|((with_reducible refine gate_store (t:=24) (p:=42) rfl ?_);refine store_event (t:=24) (p:=42) (v:=?vo_w20) (w1:=((((((w18.setCell ⟨go12,(a1:Int).toNat * 6,none⟩ (.int .i64 0)).setCell ⟨go12,(a1:Int).toNat * 6 + 1,none⟩ (.int .i64 0)).setCell ⟨go12,(a1:Int).toNat * 6 + 2,none⟩ (.int .i64 0)).setCell ⟨go12,(a1:Int).toNat * 6 + 3,none⟩ (.int .i64 0)).setCell ⟨go12,(a1:Int).toNat * 6 + 4,none⟩ (.int .i64 0)).setCell ⟨go12,(a1:Int).toNat * 6 + 5,none⟩ (.string (⟨#[]⟩:ByteArray)))) ?hg ?ho ?hn ?hr ?_;(case ho=>rfl);(case hg=>rfl);(case hn=>rfl);(case hr=>first|(go_simp;done)|(go_simp;rfl));intro w20 hw;have hg:w18.grownBy w20 (some go12):=(by rw [hw];exact HP19.2);have hp_:Kd.R k24 24 w20 w.heap.size (fun k_=>(w.heap.size≤k_)) (.slice (some ⟨go12,0,none⟩) t131.length co16) y137:=(by rw [hw,Ny137.out];exact HP19.1);clear HP19;have n0_:=Zk (V_afterv (v:=(.slice (some ⟨go12,0,none⟩) t131.length co16)) (v1:=(.slice (some ⟨go12,0,none⟩) t131.length co16)) (ok:=(fun k_=>(P0_ k_∨w.heap.size≤k_))) (by (with_reducible repeat (first|apply zN|apply zO|apply zQ));exact HO_0.out) hg (.inl rfl));have n1_:=Zk (hp_);have n2_:=Zk ((by rw [hw];exact zF (zF (zF (zF (zF (zF (HB.out) GB12.out) GB12.out) GB12.out) GB12.out) GB12.out) GB12.out:Below w.heap.size w w20));clear HO_0;clear HO133;clear HB;have HO_0:=n0_;have HO133:=n1_;have HB:=n2_;clear n0_ n1_ n2_;clear hg hw hp_))
       go_ret3
       exact ⟨_,by first|rfl|(simp [errW_none,errW_some] <;> rfl)|(simp [*,errW_none,errW_some] <;> rfl),zU (R_V (by (with_reducible repeat (first|apply yA|apply zZ|apply yB));exact HO133.out)) (fun k_ hk=>by first|exact ⟨(.inr (hk.1)),hk.2⟩|exact (.inr (hk))),by repeat (first|(with_reducible first|exact HB.out|apply zG|apply zC|apply zH)|exact HB.out)⟩
      ·rw [if_neg c13] at H
       have c13b0:(((rd_T24 y135 a1).f4) == 0)=false:=beq_eq_false_iff_ne.mpr c13
       have c13b1:(((rd_T24 y135 a1).f4) != 0)=true:=bne_iff_ne.mpr c13
       simp only [Option.some.injEq,Prod.mk.injEq] at H
       obtain ⟨rfl,rfl,rfl⟩:=H
       go_wp2_with (first|((with_reducible refine zW (f:=32) rfl ?_);refine yF (some 23) rfl rfl Try.func32 (by kernel_rfl) rfl #[.slice A0 l0.length c0] rfl (by (try simp only [List.map_toArray,List.map_cons,List.map_nil]);first|done|rfl|(simp only [List.length_drop,List.length_take];rfl)) ?_;(with_reducible refine (api_Desc.calls _ _ l0 t131 _ ?side1 ?side2 A9.out).mono ?_);(case side1=>repeat (first|exact (zY HO_0.out).2.2|(with_reducible refine yC ?_ _)|(with_reducible refine yD ?_ _)|(with_reducible refine C_drew ?_)));(case side2=>exact (zY HO_0.out).2.1);rintro e w21 ⟨v132,rfl,ho0,hb⟩;refine ⟨_,rfl,?_⟩;have n0_:=Zk (V_elder' (by (with_reducible repeat (first|apply zN|apply zO|apply zQ));exact HO_0.out) (R_base ho0) hb);have n1_:=Zk (R_lower (R_newM (M:=fun k_=>(w.heap.size≤k_)) ho0 (zM (by repeat (first|(with_reducible first|exact HB.out|apply zG|apply zC|apply zH)|exact HB.out))) (fun k_ h_=>h_)) (zM (by repeat (first|(with_reducible first|exact HB.out|apply zG|apply zC|apply zH)|exact HB.out))));have n2_:=Zk (zL (by repeat (first|(with_reducible first|exact HB.out|apply zG|apply zC|apply zH)|exact HB.out)) hb);clear HO_0;clear HB;have HO_0:=n0_;have HO133:=n1_;have HB:=n2_;clear n0_ n1_ n2_;(try clear hb);(try clear hb2);(try clear hk);(try clear hi);(try clear ho0);obtain ⟨Ao22,co22,eo22⟩:=R_slice HO133.out;subst eo22;have p134:0≤(a1:Int):=of_decide_eq_true (by first|(with_reducible assumption)|assumption);have q134:a1 < (t131.length:Int):=of_decide_eq_true (by first|(with_reducible assumption)|assumption);obtain ⟨ad134,e134,hx134_0,hx134_1,hx134_2,hx134_3,hx134_4,hx134_5⟩:=at_T24 (R_reads' HO133.out).2.2 a1 p134 q134;cases e134;replace p134:=eq_true p134;replace q134:=eq_true q134;have p12:0≤(a1:Int):=of_decide_eq_true (by first|(with_reducible assumption)|assumption);have q12:(a1:Int) < ((t131.length:Int):Int):=of_decide_eq_true (by first|(with_reducible assumption)|assumption);obtain ⟨go12,co12,eo12,gb12,gl12,cl12,HG12⟩:=R_form HO133.out (by omega);(first|cases eo12|(injection eo12 with ea_ en_ ec_;(first|subst ea_|(injection ea_ with ea_;subst ea_));subst ec_;clear en_));have GB12:=Zk gb12;have GG12:=Zk HG12;clear gb12 gl12 HG12;(first|simp only [add_plain] at hx134_0|skip);(first|simp only [add_plain] at hx134_1|skip);(first|simp only [add_plain] at hx134_2|skip);(first|simp only [add_plain] at hx134_3|skip);(first|simp only [add_plain] at hx134_4|skip);(first|simp only [add_plain] at hx134_5|skip);obtain ⟨ce12,hcl12,hM12,hcc12,hfr12⟩:=R_elem HO133.out z24 (a1:Int) p12 q12;obtain rfl:=k24_openM hM12;have hx12_0:w21.cell? ⟨go12,(a1:Int).toNat * 6,none⟩=some (.int .i64 ((rd_T24 t131 a1).f0)):=hcc12 0 _ rfl;have hx12_1:w21.cell? ⟨go12,(a1:Int).toNat * 6 + 1,none⟩=some (.int .i64 ((rd_T24 t131 a1).f1)):=hcc12 1 _ rfl;have hx12_2:w21.cell? ⟨go12,(a1:Int).toNat * 6 + 2,none⟩=some (.int .i64 ((rd_T24 t131 a1).f2)):=hcc12 2 _ rfl;have hx12_3:w21.cell? ⟨go12,(a1:Int).toNat * 6 + 3,none⟩=some (.int .i64 ((rd_T24 t131 a1).f3)):=hcc12 3 _ rfl;have hx12_4:w21.cell? ⟨go12,(a1:Int).toNat * 6 + 4,none⟩=some (.int .i64 ((rd_T24 t131 a1).f4)):=hcc12 4 _ rfl;have hx12_5:w21.cell? ⟨go12,(a1:Int).toNat * 6 + 5,none⟩=some (.string ((rd_T24 t131 a1).f5)):=hcc12 5 _ rfl;have hf12_0:w21.frozen? ⟨go12,(a1:Int).toNat * 6,none⟩=false:=hfr12 0;have hf12_1:w21.frozen? ⟨go12,(a1:Int).toNat * 6 + 1,none⟩=false:=hfr12 1;have hf12_2:w21.frozen? ⟨go12,(a1:Int).toNat * 6 + 2,none⟩=false:=hfr12 2;have hf12_3:w21.frozen? ⟨go12,(a1:Int).toNat * 6 + 3,none⟩=false:=hfr12 3;have hf12_4:w21.frozen? ⟨go12,(a1:Int).toNat * 6 + 4,none⟩=false:=hfr12 4;have hf12_5:w21.frozen? ⟨go12,(a1:Int).toNat * 6 + 5,none⟩=false:=hfr12 5;clear hcl12 hcc12 hfr12 hM12;replace p12:=eq_true p12;replace q12:=eq_true q12;have n_:=Zk (R_mono (ok':=(fun k_=>(w.heap.size≤k_))) HO133.out (fun k_ hk=>hk.1));clear HO133;have HO133:=n_;clear n_;have HX23:=Zk (show Kd.R k24 24 w21 w.heap.size (fun k_=>(w.heap.size≤k_)) (.slice (some ⟨go12,0,none⟩) t131.length co22) t131 from (by (with_reducible repeat (first|apply yA|apply zZ|apply yB));exact HO133.out));obtain ⟨ce23,hcl23,hM23,hcc23,hfr23⟩:=R_elem HX23.out z24 (a1:Int) (of_decide_eq_true (by first|(with_reducible assumption)|assumption)) (by have h_:(a1:Int) < ((t131.length:Int):Int):=of_decide_eq_true (by first|(with_reducible assumption)|assumption);first|exact h_|(have e_:=(R_reads' HO133.out).1;omega)|simpa using h_);obtain rfl:=k24_openM hM23;have HP23:=R_seg HX23.out (a1:Int) (of_decide_eq_true (by first|(with_reducible assumption)|assumption)) (by have h_:(a1:Int) < ((t131.length:Int):Int):=of_decide_eq_true (by first|(with_reducible assumption)|assumption);first|exact h_|(have e_:=(R_reads' HO133.out).1;omega)|simpa using h_) (seg:=[.int .i64 (wrap64 (((rd_T24 t131 a1).f4) - 1))]) (j:=4) hcl23 hcc23 (show 5≤6 from by decide) (x':=(⟨(rd_T24 t131 a1).f0,(rd_T24 t131 a1).f1,(rd_T24 t131 a1).f2,(rd_T24 t131 a1).f3,wrap64 (((rd_T24 t131 a1).f4) - 1),(rd_T24 t131 a1).f5⟩:S24)) (k24_mkM _ _ _ (⟨(rd_T24 t131 a1).f0,(rd_T24 t131 a1).f1,(rd_T24 t131 a1).f2,(rd_T24 t131 a1).f3,wrap64 (((rd_T24 t131 a1).f4) - 1),(rd_T24 t131 a1).f5⟩:S24) ) (fun _ hk=>hk);have hx23_4:=hcc23 4 _ rfl;(try simp only [show (k24).sz=6 from rfl,Nat.mul_one,Nat.add_zero] at hx23_4);have hf23_4:=hfr23 4;(try simp only [show (k24).sz=6 from rfl,Nat.mul_one,Nat.add_zero] at hf23_4);clear hcl23 hcc23 hfr23 hM23)|((with_reducible refine gate_store (t:=3) (p:=31) rfl ?_);refine store_event (t:=3) (p:=31) (v:=?vo_w24) (w1:=(w21.setCell ⟨go12,(a1:Int).toNat * 6 + 4,none⟩ (.int .i64 (wrap64 (((rd_T24 t131 a1).f4) - 1))))) ?hg ?ho ?hn ?hr ?_;(case ho=>rfl);(case hg=>rfl);(case hn=>rfl);(case hr=>first|(go_simp;done)|(go_simp;rfl));intro w24 hw;have hg:w21.grownBy w24 (some go12):=(by rw [hw];exact HP23.2);have hp_:Kd.R k24 24 w24 w.heap.size (fun k_=>(w.heap.size≤k_)) (.slice (some ⟨go12,0,none⟩) t131.length co22) y135:=(by rw [hw,Ny135.out];exact HP23.1);clear HP23;have n0_:=Zk (V_afterv (v:=(.slice (some ⟨go12,0,none⟩) t131.length co22)) (v1:=(.slice (some ⟨go12,0,none⟩) t131.length co22)) (ok:=(fun k_=>(P0_ k_∨w.heap.size≤k_))) (by (with_reducible repeat (first|apply zN|apply zO|apply zQ));exact HO_0.out) hg (.inl rfl));have n1_:=Zk (hp_);have n2_:=Zk ((by rw [hw];exact zF (HB.out) GB12.out:Below w.heap.size w w24));clear HO_0;clear HO133;clear HB;have HO_0:=n0_;have HO133:=n1_;have HB:=n2_;clear n0_ n1_ n2_;clear hg hw hp_;have p136:0≤(a1:Int):=of_decide_eq_true (by first|(with_reducible assumption)|assumption);have q136:a1 < (y135.length:Int):=(by have h_:(a1:Int) < ((t131.length:Int):Int):=of_decide_eq_true (by first|(with_reducible assumption)|assumption);first|(have e_:=(R_reads' HO133.out).1;omega)|simpa only [Ny135.out,List.length_set] using h_);have ql136:((a1:Int) < ((t131.length:Int):Int))=True:=eq_true (of_decide_eq_true (by first|(with_reducible assumption)|assumption));obtain ⟨ad136,e136,hx136_0,hx136_1,hx136_2,hx136_3,hx136_4,hx136_5⟩:=at_T24 (R_reads' HO133.out).2.2 a1 p136 q136;obtain rfl:(⟨go12,0,none⟩:Addr)=ad136:=(by injection e136);(first|simp only [add_plain] at hx136_0|simp only [add_at] at hx136_0|simp only [Addr.add,Nat.zero_add] at hx136_0|skip);(first|simp only [add_plain] at hx136_1|simp only [add_at] at hx136_1|simp only [Addr.add,Nat.zero_add] at hx136_1|skip);(first|simp only [add_plain] at hx136_2|simp only [add_at] at hx136_2|simp only [Addr.add,Nat.zero_add] at hx136_2|skip);(first|simp only [add_plain] at hx136_3|simp only [add_at] at hx136_3|simp only [Addr.add,Nat.zero_add] at hx136_3|skip);(first|simp only [add_plain] at hx136_4|simp only [add_at] at hx136_4|simp only [Addr.add,Nat.zero_add] at hx136_4|skip);(first|simp only [add_plain] at hx136_5|simp only [add_at] at hx136_5|simp only [Addr.add,Nat.zero_add] at hx136_5|skip);replace p136:=eq_true p136;replace q136:=eq_true q136))
       go_ret3
       exact ⟨_,by first|rfl|(simp [errW_none,errW_some] <;> rfl)|(simp [*,errW_none,errW_some] <;> rfl),zU (R_V (by (with_reducible repeat (first|apply yA|apply zZ|apply yB));exact HO133.out)) (fun k_ hk=>by first|exact ⟨(.inr (hk.1)),hk.2⟩|exact (.inr (hk))),by repeat (first|(with_reducible first|exact HB.out|apply zG|apply zC|apply zH)|exact HB.out)⟩
     ·rw [if_neg c11] at H
      exact absurd H (by simp)
    ·rw [if_neg c10] at H
     exact absurd H (by simp)
def fdtab_Exec.l0:Nat→List (S36)→List Int→List (S36)→Int→Int→Option ((List (S36)) × List Int)
 |0,_,_,_,_,_=>none
 |k + 1,x4,x5,x8,x9,x10=>if x10 < x9 then (if 0≤x10 then (if x10 < (x8.length:Int) then (if (rd_T36 x8 x10).f2=true then (if x5.length < 17592186044416 then (fdtab_Exec.l0 k x4 (x5 ++ [(rd_T36 x8 x10).f1]) x8 x9 (wrap64 (x10 + 1))) else (none)) else (if x4.length < 5864062014805 then (fdtab_Exec.l0 k (x4 ++ [(⟨(rd_T36 x8 x10).f0,(rd_T36 x8 x10).f1,(rd_T36 x8 x10).f2⟩:S36)]) x5 x8 x9 (wrap64 (x10 + 1))) else (none))) else (none)) else (none)) else (some (x4,x5))
def fdtab_Exec.f (k:Nat) (l0:List (S36)):Option ((List (S36)) × List Int):=fdtab_Exec.l0 k ([]:List (S36)) ([]:List Int) l0 (l0.length:Int) 0
theorem fdtab_Exec.mono_l:∀ k,(∀ y0 y1 y2 y3 y4,LeO (fdtab_Exec.l0 k y0 y1 y2 y3 y4) (fdtab_Exec.l0 (k + 1) y0 y1 y2 y3 y4))
 |0=>fun _ _ _ _ _ r h=>by simp [fdtab_Exec.l0] at h
 |k + 1=>by
  have ih0:=fdtab_Exec.mono_l k
  ·intro y0 y1 y2 y3 y4
   unfold fdtab_Exec.l0
   repeat' first
   |(with_reducible exact ih0 _ _ _ _ _)
   |(with_reducible exact LeO.refl _)
   |(with_reducible exact LeO.none _)
   |(with_reducible refine LeO.ite ?_ ?_)
   |(with_reducible refine LeO.bind ?_ (fun _=>?_))
   |exact ih0 _ _ _ _ _
   |exact LeO.none _
   |refine LeO.ite ?_ ?_
   |refine LeO.bind ?_ (fun _=>?_)
theorem fdtab_Exec.mono:∀ a0 k,LeO (fdtab_Exec.f k a0) (fdtab_Exec.f (k + 1) a0):=by
 intro a0 k
 have ih0:=fdtab_Exec.mono_l k
 unfold fdtab_Exec.f
 repeat' first
   |(with_reducible exact ih0 _ _ _ _ _)
   |(with_reducible exact LeO.refl _)
   |(with_reducible exact LeO.none _)
   |(with_reducible refine LeO.ite ?_ ?_)
   |(with_reducible refine LeO.bind ?_ (fun _=>?_))
   |exact ih0 _ _ _ _ _
   |exact LeO.none _
   |refine LeO.ite ?_ ?_
   |refine LeO.bind ?_ (fun _=>?_)
set_option maxHeartbeats 8000000 in
set_option maxRecDepth 10000000 in
theorem fdtab_Exec.calls (k:Nat) (A0:Option Addr) (c0:Nat) (l0:List (S36)) (r1:List (S36)) (r2:List Int) (w:World) (hr0:Kd.C k36 w A0 l0.length l0) (hc0:l0.length≤c0) (h:fdtab_Exec.f k l0=some (r1,r2)) :
  Calls Try.prog 28 #[.slice A0 l0.length c0] w fun e w'=>∃ v0_ v1_:Value,e=.returned (.tuple #[v0_,v1_])∧Kd.R k36 36 w' w.heap.size (fun _=>True) v0_ r1∧Kd.R (Kd.int .i64) 3 w' w.heap.size (fun _=>True) v1_ r2∧Below w.heap.size w w':=by
 have hu36:=Try.underlying36
 have HR0:=Zk hr0
 have HC0:=Zk hc0
 clear hr0 hc0
 have HB:=Zk (Below.refl w.heap.size w)
 have H:(fdtab_Exec.l0 k ([]:List (S36)) ([]:List Int) l0 (l0.length:Int) 0)=some (r1,r2):=h
 clear h
 have H':=Zk H
 clear H
 go_enter Try.func28,Try.ntmps28
 go_wp2
 go_loopg [4,5,10] k (fun kq v4 v5 v10 w'=>∃ (x4_1:List (S36)) (x5_1:List Int) (x10_1:Int),v10=.int .i64 x10_1∧zR (fdtab_Exec.l0 kq x4_1 x5_1 l0 (l0.length:Int) x10_1=some (r1,r2))∧zR (kq≤k)∧zR (Kd.R k36 36 w' w.heap.size (fun _=>True) v4 x4_1)∧zR (Kd.R (Kd.int .i64) 3 w' w.heap.size (fun _=>True) v5 x5_1)∧zR (Below w.heap.size w w'))
 case atStart=>exact ⟨(([]:List (S36))),(([]:List Int)),(0),(by first|rfl|(simp;done)|(simp [*];done)|(generalize ByteArray.toList _=l_;cases l_ <;> rfl)),H',⟨Nat.le_refl _⟩,⟨by first|exact R_nil _ _ _ _ _|exact Kd.N_nil _ _ _ _ _|exact V_nil _ _ _ _ _|exact Kd.Q_nil _ _ _ _ _|exact Kd.S_nil _ _ _ _ _⟩,⟨by first|exact R_nil _ _ _ _ _|exact Kd.N_nil _ _ _ _ _|exact V_nil _ _ _ _ _|exact Kd.Q_nil _ _ _ _ _|exact Kd.S_nil _ _ _ _ _⟩,⟨by repeat (first|(with_reducible first|exact HB.out|apply zG|apply zC|apply zH)|exact HB.out)⟩⟩
 case round=>
  clear H'
  obtain ⟨x4_1,x5_1,x10_1,rfl,HA,HK1,HO_4,HO_5,HB⟩:=hrel
  cases gk with
  |zero=>exact absurd HA.out (by simp [fdtab_Exec.l0])
  |succ k1=>
   have H:=HA.out
   clear HA
   simp only [fdtab_Exec.l0] at H
   by_cases c2:x10_1 < (l0.length:Int)
   ·rw [if_pos c2] at H
    have c2b0:decide (x10_1 < (l0.length:Int))=true:=decide_eq_true c2
    clear c2
    by_cases c3:0≤x10_1
    ·rw [if_pos c3] at H
     have c3b0:decide (0≤x10_1)=true:=decide_eq_true c3
     clear c3
     by_cases c4:x10_1 < (l0.length:Int)
     ·rw [if_pos c4] at H
      have c4b0:decide (x10_1 < (l0.length:Int))=true:=decide_eq_true c4
      clear c4
      obtain ⟨bq5,hbq5⟩:∃ b_:Bool,b_=((rd_T36 l0 x10_1).f2):=⟨_,rfl⟩
      replace H:(if bq5=true then (if x5_1.length < 17592186044416 then (fdtab_Exec.l0 k1 x4_1 (x5_1 ++ [(rd_T36 l0 x10_1).f1]) l0 (l0.length:Int) (wrap64 (x10_1 + 1))) else (none)) else (if x4_1.length < 5864062014805 then (fdtab_Exec.l0 k1 (x4_1 ++ [(⟨(rd_T36 l0 x10_1).f0,(rd_T36 l0 x10_1).f1,bq5⟩:S36)]) x5_1 l0 (l0.length:Int) (wrap64 (x10_1 + 1))) else (none)))=some (r1,r2):=by rw [← hbq5] at H;exact H
      have Nbq5:=Zk hbq5
      clear hbq5
      by_cases c6:bq5=true
      ·subst c6
       have H1:(if x5_1.length < 17592186044416 then (fdtab_Exec.l0 k1 x4_1 (x5_1 ++ [(rd_T36 l0 x10_1).f1]) l0 (l0.length:Int) (wrap64 (x10_1 + 1))) else (none))=some (r1,r2):=by rw [if_pos rfl] at H;exact H
       clear H
       have H:=H1
       clear H1
       by_cases c7:x5_1.length < 17592186044416
       ·rw [if_pos c7] at H
        have LMc7:=Zk c7
        clear c7
        obtain ⟨y140,hy140⟩:∃ y_:List Int,y_=(x5_1 ++ [(rd_T36 l0 x10_1).f1]):=⟨_,rfl⟩
        replace H:(fdtab_Exec.l0 k1 x4_1 y140 l0 (l0.length:Int) (wrap64 (x10_1 + 1)))=some (r1,r2):=by first|(rw [hy140];with_reducible exact H)|(have H2_:=(Option.bind_some _ _).symm.trans H;rw [hy140];with_reducible exact H2_)|(have H2_:=(Option.bind_some _ _).symm.trans H;with_reducible exact H2_)|with_reducible exact H|(rw [hy140];exact H)|exact H
        have Ny140:=Zk hy140
        clear hy140
        have H':=Zk H
        clear H
        have p138:0≤(x10_1:Int):=of_decide_eq_true (by first|(with_reducible assumption)|assumption)
        have q138:x10_1 < (l0.length:Int):=of_decide_eq_true (by first|(with_reducible assumption)|assumption)
        obtain ⟨ad138,e138,hx138_0,hx138_1,hx138_2⟩:=at_T36 HR0.out x10_1 p138 q138
        (try rw [← Nbq5.out] at hx138_2)
        cases e138
        replace hx138_0:=(HB.out.cell (World.block_lt_of_cell? w _ hx138_0)).trans hx138_0
        replace hx138_1:=(HB.out.cell (World.block_lt_of_cell? w _ hx138_1)).trans hx138_1
        replace hx138_2:=(HB.out.cell (World.block_lt_of_cell? w _ hx138_2)).trans hx138_2
        replace p138:=eq_true p138
        replace q138:=eq_true q138
        go_wp2_with (first|((with_reducible refine yE (N:=7) rfl ?_);refine yG ?hg (N:=7) ?hd (cs:=#[.int .i64 0,.int .i64 0,.bool false]) (t:=36) ?hr ?_;(case hd=>rfl);(case hg=>rfl);(case hr=>first|(go_simp;done)|(go_simp;rfl));intro gb139 hg w8 hbox hb;have n0_:=Zk (R_below (R_elderB (by (with_reducible repeat (first|apply yA|apply zZ|apply yB));exact HO_4.out) gb139 (Nat.le_of_eq hg.symm)) hb);have n1_:=Zk (R_below (by (with_reducible repeat (first|apply yA|apply zZ|apply yB));exact HO_5.out) hb);have n2_:=Zk (zL (by repeat (first|(with_reducible first|exact HB.out|apply zG|apply zC|apply zH)|exact HB.out)) hb);have n3_:=Zk (hbox);have n4_:=Zk ((by rw [hg];exact (zM (by repeat (first|(with_reducible first|exact HB.out|apply zG|apply zC|apply zH)|exact HB.out))):w.heap.size≤gb139));have n5_:=Zk ((by rw [hg];exact (zM (by repeat (first|(with_reducible first|exact HB.out|apply zG|apply zC|apply zH)|exact HB.out))):w.heap.size≤gb139));clear HO_4;clear HO_5;clear HB;have HO_4:=n0_;have HO_5:=n1_;have HB:=n2_;have BK139:=n3_;have GW139:=n4_;have GE139:=n5_;clear n0_ n1_ n2_ n3_ n4_ n5_;clear hb hbox hg;have hcz9_0:w8.cell? ⟨gb139,0,none⟩=some (.int .i64 0):=(zJ BK139.out 0).trans rfl;have hcz9_1:w8.cell? ⟨gb139,1,none⟩=some (.int .i64 0):=(zJ BK139.out 1).trans rfl;have hcz9_2:w8.cell? ⟨gb139,2,none⟩=some (.bool false):=(zJ BK139.out 2).trans rfl;have hfz9_0:=zI BK139.out 0;have hfz9_1:=zI BK139.out 1;have hfz9_2:=zI BK139.out 2)|((with_reducible refine gate_builtin (b:=.append) (xs:=#[.tmp 16,.tmp 19]) rfl ?_);at_builtin;refine R_append (Kd.int .i64) (w0:=w) w.heap.size rfl (.tmp 16) (.tmp 19) 60 3 (.int .i64 0) 8 rfl Try.underlying60 info3 rfl (by decide) (by omega) u5 x5_1 ((rd_T36 l0 x10_1).f1) [.int .i64 ((rd_T36 l0 x10_1).f1)] (fun _=>True) (fun _=>False) rfl (by first|(go_simp;done)|(go_simp;rfl)) ?aP (fun _ hk=>hk.elim) ?aF ?aO ?aB ?aS ?aL ?_;(case aP=>exact rfl);(case aB=>exact (by repeat (first|(with_reducible first|exact HB.out|apply zG|apply zC|apply zH|refine zF ?_ GE139.out)|exact HB.out)));(case aF=>exact (fun _ _=>trivial));(case aO=>exact (by (with_reducible repeat (first|apply yA|apply zZ|apply yB));exact R_mono (R_far (p:=⟨gb139,2,none⟩) (R_far (p:=⟨gb139,1,none⟩) (R_far (p:=⟨gb139,0,none⟩) (R_types HO_5.out BK139.out (by decide)) (fun _ hk=>hk.2) (.int .i64 ((rd_T36 l0 x10_1).f0))) (fun _ hk=>hk.2) (.int .i64 ((rd_T36 l0 x10_1).f1))) (fun _ hk=>hk.2) (.bool true)) (fun _ hk=>trivial)));(case aS=>exact (zM (by repeat (first|(with_reducible first|exact HB.out|apply zG|apply zC|apply zH|refine zF ?_ GE139.out)|exact HB.out))));(case aL=>have:=LMc7.out;omega);intro v141 w10 ho hb hg hat;rw [← Ny140.out] at ho;have n0_:=Zk (R_over' (by (with_reducible repeat (first|apply yA|apply zZ|apply yB));exact (R_mono (R_far (p:=⟨gb139,2,none⟩) (R_far (p:=⟨gb139,1,none⟩) (R_far (p:=⟨gb139,0,none⟩) (R_mono HO_4.out (fun k_ hk=>(⟨hk,hk.2⟩:_∧k_≠gb139))) (fun _ hk=>hk.2) (.int .i64 ((rd_T36 l0 x10_1).f0))) (fun _ hk=>hk.2) (.int .i64 ((rd_T36 l0 x10_1).f1))) (fun _ hk=>hk.2) (.bool true)) (fun _ h_=>h_.1))) (R_typed (by (with_reducible repeat (first|apply yA|apply zZ|apply yB));exact (R_mono (R_far (p:=⟨gb139,2,none⟩) (R_far (p:=⟨gb139,1,none⟩) (R_far (p:=⟨gb139,0,none⟩) (R_types HO_5.out BK139.out (by decide)) (fun _ hk=>hk.2) (.int .i64 ((rd_T36 l0 x10_1).f0))) (fun _ hk=>hk.2) (.int .i64 ((rd_T36 l0 x10_1).f1))) (fun _ hk=>hk.2) (.bool true)) (fun _ h_=>h_.1)))) (by decide) hg);have n1_:=Zk (blk_grown (g:=gb139) (o:=.cells #[.int .i64 ((rd_T36 l0 x10_1).f0),.int .i64 ((rd_T36 l0 x10_1).f1),.bool true] 36 (0,0)) (by (with_reducible repeat (first|refine zB ?_ _|refine zD ?_|refine zA ?_ _));refine zS (cs:=#[.int .i64 ((rd_T36 l0 x10_1).f0),.int .i64 ((rd_T36 l0 x10_1).f1),.bool false]) ?_ 2 _ rfl;(with_reducible repeat (first|refine zB ?_ _|refine zD ?_|refine zA ?_ _));refine zS (cs:=#[.int .i64 ((rd_T36 l0 x10_1).f0),.int .i64 0,.bool false]) ?_ 1 _ rfl;(with_reducible repeat (first|refine zB ?_ _|refine zD ?_|refine zA ?_ _));refine zS (cs:=#[.int .i64 0,.int .i64 0,.bool false]) ?_ 0 _ rfl;(with_reducible repeat (first|refine zB ?_ _|refine zD ?_|refine zA ?_ _));exact BK139.out) hg (R_ne HO_5.out BK139.out (by decide)));have n2_:=Zk (hb);have n3_:=Zk (ho);clear HO_4;clear BK139;clear HB;clear HO_5;have HO_4:=n0_;have BK139:=n1_;have HB:=n2_;have HO142:=n3_;clear n0_ n1_ n2_ n3_;clear ho hb hg hat))
        go_roundg k1
        case measure=>have:=HK1.out;omega
        case rel=>exact ⟨(x4_1),(y140),(wrap64 (x10_1 + 1)),(by first|rfl|(simp;done)|(simp [*];done)|(generalize ByteArray.toList _=l_;cases l_ <;> rfl)),H',⟨by have:=HK1.out;omega⟩,⟨by (with_reducible repeat (first|apply yA|apply zZ|apply yB));exact R_mono HO_4.out (fun _ hk=>trivial)⟩,⟨by (with_reducible repeat (first|apply yA|apply zZ|apply yB));exact HO142.out⟩,⟨by repeat (first|(with_reducible first|exact HB.out|apply zG|apply zC|apply zH|refine zF ?_ GE139.out)|exact HB.out)⟩⟩
       ·rw [if_neg c7] at H
        exact absurd H (by simp)
      ·replace c6:=Bool.eq_false_iff.mpr c6
       subst c6
       have H1:(if x4_1.length < 5864062014805 then (fdtab_Exec.l0 k1 (x4_1 ++ [(⟨(rd_T36 l0 x10_1).f0,(rd_T36 l0 x10_1).f1,false⟩:S36)]) x5_1 l0 (l0.length:Int) (wrap64 (x10_1 + 1))) else (none))=some (r1,r2):=by rw [if_neg (show ¬ (false=true) by decide)] at H;exact H
       clear H
       have H:=H1
       clear H1
       by_cases c11:x4_1.length < 5864062014805
       ·rw [if_pos c11] at H
        have LMc11:=Zk c11
        clear c11
        obtain ⟨y143,hy143⟩:∃ y_:List (S36),y_=(x4_1 ++ [(⟨(rd_T36 l0 x10_1).f0,(rd_T36 l0 x10_1).f1,false⟩:S36)]):=⟨_,rfl⟩
        replace H:(fdtab_Exec.l0 k1 y143 x5_1 l0 (l0.length:Int) (wrap64 (x10_1 + 1)))=some (r1,r2):=by first|(rw [hy143];with_reducible exact H)|(have H2_:=(Option.bind_some _ _).symm.trans H;rw [hy143];with_reducible exact H2_)|(have H2_:=(Option.bind_some _ _).symm.trans H;with_reducible exact H2_)|with_reducible exact H|(rw [hy143];exact H)|exact H
        have Ny143:=Zk hy143
        clear hy143
        have H':=Zk H
        clear H
        have p138:0≤(x10_1:Int):=of_decide_eq_true (by first|(with_reducible assumption)|assumption)
        have q138:x10_1 < (l0.length:Int):=of_decide_eq_true (by first|(with_reducible assumption)|assumption)
        obtain ⟨ad138,e138,hx138_0,hx138_1,hx138_2⟩:=at_T36 HR0.out x10_1 p138 q138
        (try rw [← Nbq5.out] at hx138_2)
        cases e138
        replace hx138_0:=(HB.out.cell (World.block_lt_of_cell? w _ hx138_0)).trans hx138_0
        replace hx138_1:=(HB.out.cell (World.block_lt_of_cell? w _ hx138_1)).trans hx138_1
        replace hx138_2:=(HB.out.cell (World.block_lt_of_cell? w _ hx138_2)).trans hx138_2
        replace p138:=eq_true p138
        replace q138:=eq_true q138
        go_wp2_with (first|((with_reducible refine yE (N:=7) rfl ?_);refine yG ?hg (N:=7) ?hd (cs:=#[.int .i64 0,.int .i64 0,.bool false]) (t:=36) ?hr ?_;(case hd=>rfl);(case hg=>rfl);(case hr=>first|(go_simp;done)|(go_simp;rfl));intro gb139 hg w12 hbox hb;have n0_:=Zk (R_below (R_elderB (by (with_reducible repeat (first|apply yA|apply zZ|apply yB));exact HO_4.out) gb139 (Nat.le_of_eq hg.symm)) hb);have n1_:=Zk (R_below (by (with_reducible repeat (first|apply yA|apply zZ|apply yB));exact HO_5.out) hb);have n2_:=Zk (zL (by repeat (first|(with_reducible first|exact HB.out|apply zG|apply zC|apply zH)|exact HB.out)) hb);have n3_:=Zk (hbox);have n4_:=Zk ((by rw [hg];exact (zM (by repeat (first|(with_reducible first|exact HB.out|apply zG|apply zC|apply zH)|exact HB.out))):w.heap.size≤gb139));have n5_:=Zk ((by rw [hg];exact (zM (by repeat (first|(with_reducible first|exact HB.out|apply zG|apply zC|apply zH)|exact HB.out))):w.heap.size≤gb139));clear HO_4;clear HO_5;clear HB;have HO_4:=n0_;have HO_5:=n1_;have HB:=n2_;have BK139:=n3_;have GW139:=n4_;have GE139:=n5_;clear n0_ n1_ n2_ n3_ n4_ n5_;clear hb hbox hg;have hcz13_0:w12.cell? ⟨gb139,0,none⟩=some (.int .i64 0):=(zJ BK139.out 0).trans rfl;have hcz13_1:w12.cell? ⟨gb139,1,none⟩=some (.int .i64 0):=(zJ BK139.out 1).trans rfl;have hcz13_2:w12.cell? ⟨gb139,2,none⟩=some (.bool false):=(zJ BK139.out 2).trans rfl;have hfz13_0:=zI BK139.out 0;have hfz13_1:=zI BK139.out 1;have hfz13_2:=zI BK139.out 2)|((with_reducible refine gate_builtin (b:=.append) (xs:=#[.tmp 21,.tmp 23]) rfl ?_);at_builtin;refine R_append k36 (w0:=w) w.heap.size rfl (.tmp 21) (.tmp 23) 34 36 (.agg #[(.int .i64 0),(.int .i64 0),(.bool false)]) 24 rfl Try.underlying34 info36 rfl (by decide) (by omega) u4 x4_1 (⟨(rd_T36 l0 x10_1).f0,(rd_T36 l0 x10_1).f1,false⟩:S36) [.int .i64 ((rd_T36 l0 x10_1).f0),.int .i64 ((rd_T36 l0 x10_1).f1),.bool false] (fun k_=>k_≠gb139) (fun _=>False) rfl (by first|(go_simp;done)|(go_simp;rfl)) ?aP (fun _ hk=>hk.elim) ?aF ?aO ?aB ?aS ?aL ?_;(case aP=>exact k36_mkM _ _ _ (⟨(rd_T36 l0 x10_1).f0,(rd_T36 l0 x10_1).f1,false⟩:S36));(case aB=>exact (by repeat (first|(with_reducible first|exact HB.out|apply zG|apply zC|apply zH|refine zF ?_ GE139.out)|exact HB.out)));(case aF=>exact (fun k_ hk=>Kd.freshB (g:=gb139) (o:=.cells #[.int .i64 ((rd_T36 l0 x10_1).f0),.int .i64 ((rd_T36 l0 x10_1).f1),.bool false] 36 (0,0)) (by (with_reducible repeat (first|refine zB ?_ _|refine zD ?_|refine zA ?_ _));refine zS (cs:=#[.int .i64 ((rd_T36 l0 x10_1).f0),.int .i64 ((rd_T36 l0 x10_1).f1),.bool false]) ?_ 2 _ rfl;(with_reducible repeat (first|refine zB ?_ _|refine zD ?_|refine zA ?_ _));refine zS (cs:=#[.int .i64 ((rd_T36 l0 x10_1).f0),.int .i64 0,.bool false]) ?_ 1 _ rfl;(with_reducible repeat (first|refine zB ?_ _|refine zD ?_|refine zA ?_ _));refine zS (cs:=#[.int .i64 0,.int .i64 0,.bool false]) ?_ 0 _ rfl;(with_reducible repeat (first|refine zB ?_ _|refine zD ?_|refine zA ?_ _));exact BK139.out) k_ hk));(case aO=>exact (by (with_reducible repeat (first|apply yA|apply zZ|apply yB));exact R_mono (R_far (p:=⟨gb139,2,none⟩) (R_far (p:=⟨gb139,1,none⟩) (R_far (p:=⟨gb139,0,none⟩) (R_mono HO_4.out (fun k_ hk=>(⟨hk,hk.2⟩:_∧k_≠gb139))) (fun _ hk=>hk.2) (.int .i64 ((rd_T36 l0 x10_1).f0))) (fun _ hk=>hk.2) (.int .i64 ((rd_T36 l0 x10_1).f1))) (fun _ hk=>hk.2) (.bool false)) (fun _ hk=>hk.1.2)));(case aS=>exact (zM (by repeat (first|(with_reducible first|exact HB.out|apply zG|apply zC|apply zH|refine zF ?_ GE139.out)|exact HB.out))));(case aL=>have:=LMc11.out;omega);intro v144 w14 ho hb hg hat;rw [← Ny143.out] at ho;have n0_:=Zk (R_over' (by (with_reducible repeat (first|apply yA|apply zZ|apply yB));exact (R_mono (R_far (p:=⟨gb139,2,none⟩) (R_far (p:=⟨gb139,1,none⟩) (R_far (p:=⟨gb139,0,none⟩) (R_types HO_5.out BK139.out (by decide)) (fun _ hk=>hk.2) (.int .i64 ((rd_T36 l0 x10_1).f0))) (fun _ hk=>hk.2) (.int .i64 ((rd_T36 l0 x10_1).f1))) (fun _ hk=>hk.2) (.bool false)) (fun _ h_=>h_.1))) (R_typed (by (with_reducible repeat (first|apply yA|apply zZ|apply yB));exact (R_mono (R_far (p:=⟨gb139,2,none⟩) (R_far (p:=⟨gb139,1,none⟩) (R_far (p:=⟨gb139,0,none⟩) (R_mono HO_4.out (fun k_ hk=>(⟨hk,hk.2⟩:_∧k_≠gb139))) (fun _ hk=>hk.2) (.int .i64 ((rd_T36 l0 x10_1).f0))) (fun _ hk=>hk.2) (.int .i64 ((rd_T36 l0 x10_1).f1))) (fun _ hk=>hk.2) (.bool false)) (fun _ h_=>h_.1)))) (by decide) hg);have n1_:=Zk (blk_grown (g:=gb139) (o:=.cells #[.int .i64 ((rd_T36 l0 x10_1).f0),.int .i64 ((rd_T36 l0 x10_1).f1),.bool false] 36 (0,0)) (by (with_reducible repeat (first|refine zB ?_ _|refine zD ?_|refine zA ?_ _));refine zS (cs:=#[.int .i64 ((rd_T36 l0 x10_1).f0),.int .i64 ((rd_T36 l0 x10_1).f1),.bool false]) ?_ 2 _ rfl;(with_reducible repeat (first|refine zB ?_ _|refine zD ?_|refine zA ?_ _));refine zS (cs:=#[.int .i64 ((rd_T36 l0 x10_1).f0),.int .i64 0,.bool false]) ?_ 1 _ rfl;(with_reducible repeat (first|refine zB ?_ _|refine zD ?_|refine zA ?_ _));refine zS (cs:=#[.int .i64 0,.int .i64 0,.bool false]) ?_ 0 _ rfl;(with_reducible repeat (first|refine zB ?_ _|refine zD ?_|refine zA ?_ _));exact BK139.out) hg (R_away HO_4.out (fun _ hk=>hk.2)));have n2_:=Zk (hb);have n3_:=Zk (ho);clear HO_5;clear BK139;clear HB;clear HO_4;have HO_5:=n0_;have BK139:=n1_;have HB:=n2_;have HO145:=n3_;clear n0_ n1_ n2_ n3_;clear ho hb hg hat))
        go_roundg k1
        case measure=>have:=HK1.out;omega
        case rel=>exact ⟨(y143),(x5_1),(wrap64 (x10_1 + 1)),(by first|rfl|(simp;done)|(simp [*];done)|(generalize ByteArray.toList _=l_;cases l_ <;> rfl)),H',⟨by have:=HK1.out;omega⟩,⟨by (with_reducible repeat (first|apply yA|apply zZ|apply yB));exact R_mono HO145.out (fun _ hk=>trivial)⟩,⟨by (with_reducible repeat (first|apply yA|apply zZ|apply yB));exact HO_5.out⟩,⟨by repeat (first|(with_reducible first|exact HB.out|apply zG|apply zC|apply zH|refine zF ?_ GE139.out)|exact HB.out)⟩⟩
       ·rw [if_neg c11] at H
        exact absurd H (by simp)
     ·rw [if_neg c4] at H
      exact absurd H (by simp)
    ·rw [if_neg c3] at H
     exact absurd H (by simp)
   ·rw [if_neg c2] at H
    have c2b0:decide (x10_1 < (l0.length:Int))=false:=decide_eq_false c2
    clear c2
    simp only [Option.some.injEq,Prod.mk.injEq] at H
    obtain ⟨rfl,rfl⟩:=H
    go_wp2
    go_ret2
    exact ⟨_,_,by first|rfl|(simp [errW_none,errW_some] <;> rfl)|(simp [*,errW_none,errW_some] <;> rfl),by (with_reducible repeat (first|apply yA|apply zZ|apply yB));exact HO_4.out,by (with_reducible repeat (first|apply yA|apply zZ|apply yB));exact HO_5.out,by repeat (first|(with_reducible first|exact HB.out|apply zG|apply zC|apply zH)|exact HB.out)⟩
end Go.Proofs.Ytpljggoogodhlaa.Q
end
