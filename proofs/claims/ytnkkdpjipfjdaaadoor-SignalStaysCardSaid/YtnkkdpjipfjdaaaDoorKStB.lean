/- Own texts of one claim, put one behind the other by wip/tool/pack.py: words beside the print's, what each printed function computes, and the plain laws. -/
import Derived.Test.YtnkkdpjipfjdaaaDoorKStA
import Derived.Lib.SliceRun
import Derived.Laws.IdiomCopy
import Derived.Deep.WholeRow
import Derived.Shelf.Strconv.Itoa0
import Derived.Shelf.Strconv.Itoa1
import Derived.Shelf.LaysM
import Derived.Shelf.Strconv.Itoa2
import Derived.Shelf.Strconv.Itoa3
import Derived.Shelf.Slices.Turned
import Derived.Shelf.Spec.SlicesInsert
import Derived.Shelf.Spec.SlicesInsertGrow
import Derived.Ground.Names2Prog
import Derived.Ground.SlgnProg
import Derived.Test.YtnkkdpjipfjdaaaDoorProg
import Derived.WalkKit
import Derived.WalkSpells
import Derived.Deep.RegionLaw
import Derived.Shelf.Abstract
import Derived.Below
import Derived.Deep.Draws
import Derived.Deep.AppendLies
import Derived.Maps.AppendAt
import Derived.OwnWalk
import Derived.Laws.BytesArg
import Derived.Laws.MakeOwn
import Derived.Laws.OwnMore
import Derived.Deep.OwnRows
import Derived.Tactics
import Derived.Lib.ConvBytes
import Derived.Laws.Slices
import Derived.KernelRfl
import Derived.RowKit3
import Derived.Deep.LoopGhost
import Derived.Deep.QuietTactic
import Derived.BigQuiet
import Derived.WideLaws
import Derived.Deep.DeepCutAuto
import Derived.Deep.CutBlock
import Derived.Deep.RegionHeld3
import Derived.Laws.Rows
import Derived.Lib.AppendStr
import Derived.ArgAppend
import Derived.OrdersHeld
import Derived.Laws.BitsLemmas
import Derived.RowKit
section
namespace Go.Proofs.YtnkkdpjipfjdaaaDoorM
open Go Go.RowKit Go.Proofs.YtnkkdpjipfjdaaaDoorW.PrintWords
theorem Zk {p:Prop} (h:p):zN p:=⟨h⟩
theorem zeroCells_size (z:Array Value) (n:Nat):(Builtin.zeroCells z n).toList.length=n * z.size:=by simp [Builtin.zeroCells]
theorem zeroCells_one (z:Array Value) (n:Nat) (h1:∀ u ∈ z.toList,u.oneCell'=true):∀ u ∈ (Builtin.zeroCells z n).toList,u.oneCell'=true:=by
  intro u hu
  simp only [Builtin.zeroCells,Array.toList_map,List.mem_map,Array.mem_toList_iff,Array.mem_range] at hu
  obtain ⟨i,hi,rfl⟩:=hu
  have hpos:0 < z.size:=by
    rcases Nat.eq_zero_or_pos z.size with h|h
    · rw [h] at hi;omega
    · exact h
  have hlt:i % z.size < z.size:=Nat.mod_lt _ hpos
  rw [getElem!_pos z (i % z.size) hlt]
  exact h1 _ (Array.mem_toList_iff.2 (Array.getElem_mem hlt))
theorem run_clear_k {P:Program} (w:World) (t e:TypeId) (z:Value) (ht:P.underlying t=some (.slice e)) (hv:∀ w,(zeroValue e).run P w=.ok z w) (h1:∀ u ∈ z.cells.toList,u.oneCell'=true) (b o n c:Nat) (hn:0 < n)
    (hc:∀ j,j < n * z.cells.size→(w.cell? ⟨b,o + j,none⟩).isSome=true) (hf:∀ j,j < n * z.cells.size→w.frozen? ⟨b,o + j,none⟩=false) :
    ∃ zs:List Value,zs.length=n * z.cells.size∧∀ ty,(Builtin.clear_ #[t] ty #[.slice (some ⟨b,o,none⟩) n c]).run P w=.ok (.tuple #[]) (w.setCells b o zs):=by
  refine ⟨(Builtin.zeroCells z.cells n).toList,zeroCells_size _ _,fun ty=>?_⟩
  have hst:=run_storeCells_cells (P:=P) b o (Builtin.zeroCells z.cells n).toList 0 w (by rw [zeroCells_size];simpa using hc) (by rw [zeroCells_size];simpa using hf) (zeroCells_one _ _ h1)
  simp only [Nat.add_zero] at hst
  obtain ⟨m,rfl⟩:∃ m,n=m + 1:=⟨n - 1,by omega⟩
  simp [Builtin.clear_,run_underlying ht,hv,hst]
section
variable {α:Type} (d:Kd α) {e base g m cap:Nat} {W:World} {ok:Nat→Prop} {xs:List α}
theorem R_room (h:d.R e W base ok (.slice (some ⟨g,0,none⟩) m cap) xs):(∀ j,j < cap * d.sz→(W.cell? ⟨g,j,none⟩).isSome=true)∧(∀ j,W.frozen? ⟨g,j,none⟩=false)∧g < W.heap.size∧base≤g∧xs.length=m∧m≤cap∧cap≤9223372036854775807:=by
  obtain ⟨h0,inner,⟨hl0,h2⟩,hr⟩:=h
  rcases h2 with ⟨h,_⟩|⟨g',cap',cur,hv,hb,hh,hn,hm,hcs,ht⟩
  · cases h
  · injection hv with h1 h2 h3
    injection h1 with h1
    injection h1 with h1
    subst h1 h3
    refine ⟨fun j hj=>?_,fun j=>zI hh j,yN hh,hb,h2.symm,by omega,hm⟩
    rw [zJ hh j,Array.getElem?_eq_getElem (by omega)]
    rfl
theorem R_tail (h:d.R e W base ok (.slice (some ⟨g,0,none⟩) m cap) xs) (zs:List Value) (o:Nat) (ho:m * d.sz≤o) (hl:o + zs.length≤cap * d.sz) :
    d.R e (W.setCells g o zs) base ok (.slice (some ⟨g,0,none⟩) m cap) xs∧W.grownBy (W.setCells g o zs) (some g):=by
  obtain ⟨h0,inner,⟨hl0,h2⟩,hr⟩:=h
  rcases h2 with ⟨h,_⟩|⟨g',cap',cur,hv,hb,hh,hn,hm,hcs,ht⟩
  · cases h
  · injection hv with h1 h2 h3
    injection h1 with h1
    injection h1 with h1
    subst h1 h3 h2
    obtain ⟨cur',h3,h4,h5⟩:=setCells_row zs o W cur hh (by omega)
    have hsame:=setCells_same g zs o W
    have hg:W.grownBy (W.setCells g o zs) (some g):=⟨hsame.1,hsame.2.1,hsame.2.2.1,by rw [hsame.2.2.2];exact Nat.le_refl _,fun i _ hne=>setCells_far zs o i (fun he=>hne (by rw [he]))⟩
    refine ⟨⟨h0,inner,⟨hl0,.inr ⟨g,cap,cur',rfl,hb,h3,hn,hm,by rw [h4];exact hcs,?_⟩⟩,?_⟩,hg⟩
    · rw [h5,List.append_assoc,List.take_append_of_le_length (by rw [List.length_take];exact Nat.le_min.2 ⟨ho,by have h9:cur.toList.length=cap * d.sz:=Array.length_toList.trans hcs;rw [h9];exact Nat.mul_le_mul_right _ hn⟩),List.take_take,Nat.min_eq_left ho]
      exact ht
    · exact hr.imp_ (fun p c hp=>Kd.M_grown hp hg (fun k hk he=>hk.2 (by rw [he];rfl)))
end
end Go.Proofs.YtnkkdpjipfjdaaaDoorM
namespace Go.Proofs.YtnkkdpjipfjdaaaDoorM
def idxP {α:Type} (p:α→Bool):List α→Nat→Int
  |[],_=>-1
  |x :: l,i=>if p x=true then (i:Int) else idxP p l (i + 1)
theorem idxP_hit {α:Type} (p:α→Bool) (z:α):∀ (l:List α) (i k:Nat),k < l.length→(∀ j,j < k→p (l.getD j z)=false)→p (l.getD k z)=true→idxP p l i=((i + k:Nat):Int)
  |[],_,_,h,_,_=>absurd h (by simp)
  |x :: l,i,0,_,_,h=>by
    have hx:p x=true:=h
    simp [idxP,hx]
  |x :: l,i,k + 1,hk,hj,h=>by
    have hx:p x=false:=hj 0 (by omega)
    rw [idxP,hx,if_neg (by simp),idxP_hit p z l (i + 1) k (by simpa using hk) (fun j hj'=>hj (j + 1) (by omega)) h]
    congr 1
    omega
theorem idxP_miss {α:Type} (p:α→Bool) (z:α):∀ (l:List α) (i:Nat),(∀ j,j < l.length→p (l.getD j z)=false)→idxP p l i=-1
  |[],_,_=>rfl
  |x :: l,i,h=>by
    have hx:p x=false:=h 0 (by simp)
    rw [idxP,hx,if_neg (by simp)]
    exact idxP_miss p z l (i + 1) (fun j hj=>h (j + 1) (by simpa using hj))
end Go.Proofs.YtnkkdpjipfjdaaaDoorM
namespace Go.Proofs.YtnkkdpjipfjdaaaDoorM
open Go Go.RowKit Go.Proofs.YtnkkdpjipfjdaaaDoorW.PrintWords
end Go.Proofs.YtnkkdpjipfjdaaaDoorM
namespace Go.Proofs.YtnkkdpjipfjdaaaDoorM
open Go Go.RowKit Go.Proofs.YtnkkdpjipfjdaaaDoorW.PrintWords
section
variable {P:Program} {ops:Array Oper} {rest:List Oper} {o o2:Oper} {a:Act} {Q:Exit→Act→World→Prop}
theorem box2_event {W:World} (t:TypeId) (hgd:o.guard=none) (hgd2:o2.guard=none) {N:Tmp} (_hd:o.dst=some N) (hd2:o2.dst=none) (v2:Operand) (ho2:o2.op=.store t (.tmp N) v2) {cs0 cs:Array Value}
    (hrun:(execOp a.eval o).run P W=.ok (.value (.pointer (some ⟨W.heap.size,0,none⟩))) (W.alloc (.cells cs0 t (0,0))))
    (hi:(P.info? t).map (·.size)=some cs.size) (hs:cs0.size=cs.size) (h1:cs.toList.all (·.oneCell')=true)
    (hp:∀ v,(a.put o.dst v).eval (.tmp N)=v) (hv:∀ v,(a.put o.dst v).eval v2=.agg cs)
    (h:∀ g,g=W.heap.size→∀ w1,w1.heap[g]?=some (.cells cs t (0,0))→Below W.heap.size W w1→wpList P ops Q rest (a.put o.dst (.pointer (some ⟨g,0,none⟩))) w1):wpList P ops Q (o :: o2 :: rest) a W:=by
  refine Kd.event_run hgd hrun (yY (w1:=W.alloc (.cells cs t (0,0))) hgd2 ho2 hd2 ?_ (fun w' hw=>?_))
  · have hst:=run_storeAt_new (P:=P) W t cs0 cs hi hs (by rw [← Array.all_toList];exact h1)
    simp only [execOp,ho2,hp,hv,Sem.run_bind,hst,Result.andThen_ok,Sem.run_pure]
  · subst hw
    exact h _ rfl _ (blk_new W _) (zG (Below.refl _ _) _)
end
end Go.Proofs.YtnkkdpjipfjdaaaDoorM
namespace Go.Proofs.YtnkkdpjipfjdaaaDoorM
open Go
theorem cz_at {w w':World} {n:Nat} {p:Addr} {v:Value} (hq:World.drewN w n=w') (h:w.cell? p=some v):w'.cell? p=some v:=by subst hq;exact h
theorem fz_at {w w':World} {n:Nat} {p:Addr} (hq:World.drewN w n=w') (h:w.frozen? p=false):w'.frozen? p=false:=by subst hq;exact h
end Go.Proofs.YtnkkdpjipfjdaaaDoorM
namespace Go.Proofs.YtnkkdpjipfjdaaaDoorM
open Go Go.RowKit Go.Proofs.YtnkkdpjipfjdaaaDoorW.PrintWords
theorem V_att {α:Type} {d:Kd α} {e base m:Nat} {ok:Nat→Prop} {w w':World} {v:Value} {xs:List α} (hq:w.drewN m=w') (h:Kd.V d e w base ok v xs):Kd.V d e w' base ok v xs:=by subst hq;exact Kd.zK h m
end Go.Proofs.YtnkkdpjipfjdaaaDoorM

end
section
namespace Go.Proofs
open Go.Shelf
def Tryd.lays171_ren:Go.Shelf.Ren:=⟨fun|171=>33|243=>51|246=>58|283=>63|284=>64|285=>65|286=>66|129=>70|317=>69|318=>71|319=>72|320=>73|337=>75|338=>76|n=>n,fun|3=>3|9=>9|2=>2|4=>4|171=>70|0=>0|53=>71|37=>74|5=>5|173=>75|212=>78|51=>79|20=>20|213=>80|46=>67|232=>84|233=>85|n=>n,fun|17=>0|18=>1|19=>2|n=>n⟩
theorem Tryd.lays171:Go.Proofs.Lays.n171 Tryd.prog Tryd.lays171_ren:={
  mixed:=by kernel_rfl
  f129:=Tryd.func70.trans (congrArg some (by kernel_rfl))
  f171:=Tryd.func33.trans (congrArg some (by kernel_rfl))
  f243:=Tryd.func51.trans (congrArg some (by kernel_rfl))
  f246:=Tryd.func58.trans (congrArg some (by kernel_rfl))
  f283:=Tryd.func63.trans (congrArg some (by kernel_rfl))
  f284:=Tryd.func64.trans (congrArg some (by kernel_rfl))
  f285:=Tryd.func65.trans (congrArg some (by kernel_rfl))
  f286:=Tryd.func66.trans (congrArg some (by kernel_rfl))
  f317:=Tryd.func69.trans (congrArg some (by kernel_rfl))
  f318:=Tryd.func71.trans (congrArg some (by kernel_rfl))
  f319:=Tryd.func72.trans (congrArg some (by kernel_rfl))
  f320:=Tryd.func73.trans (congrArg some (by kernel_rfl))
  f337:=Tryd.func75.trans (congrArg some (by kernel_rfl))
  f338:=Tryd.func76.trans (congrArg some (by kernel_rfl))
  t0:=Tryd.underlying0
  a0:=Tryd.isAgg0
  z0:=Tryd.sizeOf0
  v0:=Tryd.zeroValue0
  t2:=Tryd.underlying2
  a2:=Tryd.isAgg2
  z2:=Tryd.sizeOf2
  v2:=Tryd.zeroValue2
  t3:=Tryd.underlying3
  a3:=Tryd.isAgg3
  z3:=Tryd.sizeOf3
  v3:=Tryd.zeroValue3
  t4:=Tryd.underlying4
  a4:=Tryd.isAgg4
  z4:=Tryd.sizeOf4
  v4:=Tryd.zeroValue4
  t5:=Tryd.underlying5
  a5:=Tryd.isAgg5
  z5:=Tryd.sizeOf5
  v5:=Tryd.zeroValue5
  t9:=Tryd.underlying9
  a9:=Tryd.isAgg9
  z9:=Tryd.sizeOf9
  v9:=Tryd.zeroValue9
  t20:=Tryd.underlying20
  a20:=Tryd.isAgg20
  z20:=Tryd.sizeOf20
  v20:=Tryd.zeroValue20
  t37:=Tryd.underlying74
  a37:=Tryd.isAgg74
  z37:=Tryd.sizeOf74
  v37:=Tryd.zeroValue74
  t46:=Tryd.underlying67
  a46:=Tryd.isAgg67
  z46:=Tryd.sizeOf67
  v46:=Tryd.zeroValue67
  t51:=Tryd.underlying79
  a51:=Tryd.isAgg79
  z51:=Tryd.sizeOf79
  v51:=Tryd.zeroValue79
  t53:=Tryd.underlying71
  a53:=Tryd.isAgg71
  z53:=Tryd.sizeOf71
  v53:=Tryd.zeroValue71
  t171:=Tryd.underlying70
  a171:=Tryd.isAgg70
  z171:=Tryd.sizeOf70
  v171:=Tryd.zeroValue70
  t173:=Tryd.underlying75
  a173:=Tryd.isAgg75
  z173:=Tryd.sizeOf75
  v173:=Tryd.zeroValue75
  t212:=Tryd.underlying78
  a212:=Tryd.isAgg78
  z212:=Tryd.sizeOf78
  v212:=Tryd.zeroValue78
  t213:=Tryd.underlying80
  a213:=Tryd.isAgg80
  z213:=Tryd.sizeOf80
  t232:=Tryd.underlying84
  a232:=Tryd.isAgg84
  z232:=Tryd.sizeOf84
  v232:=Tryd.zeroValue84
  t233:=Tryd.underlying85
  a233:=Tryd.isAgg85
  z233:=Tryd.sizeOf85
  v233:=Tryd.zeroValue85
  g17:=by kernel_rfl
  g18:=by kernel_rfl
  g19:=by kernel_rfl }
open Go.RowKit Go.Sort Go.Lib in
theorem Tryd.strconv_Itoa_small (i:Nat) (hi:i < 100) (w:World) :
    Calls Tryd.prog 33 #[.int .i64 i] w fun e w'=>e=.returned (.string ⟨(Lib.decDigits i).toArray⟩)∧w'=w:=Any.strconv_Itoa_small Tryd.lays171 i hi w
def Tryd.lays114_ren:Go.Shelf.Ren:=⟨fun|114=>37|n=>n,fun|28=>28|3=>3|4=>4|9=>9|20=>20|0=>0|n=>n,fun|n=>n⟩
theorem Tryd.lays114:Go.Proofs.Lays.n114 Tryd.prog Tryd.lays114_ren:={
  mixed:=by kernel_rfl
  f114:=Tryd.func37.trans (congrArg some (by kernel_rfl))
  t0:=Tryd.underlying0
  a0:=Tryd.isAgg0
  z0:=Tryd.sizeOf0
  v0:=Tryd.zeroValue0
  t3:=Tryd.underlying3
  a3:=Tryd.isAgg3
  z3:=Tryd.sizeOf3
  v3:=Tryd.zeroValue3
  t4:=Tryd.underlying4
  a4:=Tryd.isAgg4
  z4:=Tryd.sizeOf4
  v4:=Tryd.zeroValue4
  t9:=Tryd.underlying9
  a9:=Tryd.isAgg9
  z9:=Tryd.sizeOf9
  v9:=Tryd.zeroValue9
  t20:=Tryd.underlying20
  a20:=Tryd.isAgg20
  z20:=Tryd.sizeOf20
  v20:=Tryd.zeroValue20
  t28:=Tryd.underlying28
  a28:=Tryd.isAgg28
  z28:=Tryd.sizeOf28
  v28:=Tryd.zeroValue28 }
open Go.Lib in
theorem Tryd.slices_Min_int (b off n c:Nat) (zs:List Int) (w:World) (hn:0 < n) (hz:n≤zs.length) (hbig:n≤9223372036854775807) (hc:∀ j,j < zs.length→w.cell? ⟨b,off + j,none⟩=some (.int .i64 (zs.getD j 0))) :
    Calls Tryd.prog 37 #[.slice (some ⟨b,off,none⟩) n c] w fun e w'=>e=.returned (.int .i64 (Lib.minOf (zs.take n)))∧w'=w:=Any.slices_Min_int Tryd.lays114 b off n c zs w hn hz hbig hc
def Tryd.laysNm221_ren:Go.Shelf.Ren:=⟨fun|21=>56|27=>61|28=>62|35=>68|39=>74|n=>n,fun|22=>28|3=>3|4=>4|0=>0|n=>n,fun|n=>n⟩
theorem Tryd.laysNm221:Go.Proofs.Lays2.n21 Tryd.prog Tryd.laysNm221_ren:={
  mixed:=by kernel_rfl
  f21:=Tryd.func56.trans (congrArg some (by kernel_rfl))
  f27:=Tryd.func61.trans (congrArg some (by kernel_rfl))
  f28:=Tryd.func62.trans (congrArg some (by kernel_rfl))
  f35:=Tryd.func68.trans (congrArg some (by kernel_rfl))
  f39:=Tryd.func74.trans (congrArg some (by kernel_rfl))
  t0:=Tryd.underlying0
  a0:=Tryd.isAgg0
  z0:=Tryd.sizeOf0
  v0:=Tryd.zeroValue0
  t3:=Tryd.underlying3
  a3:=Tryd.isAgg3
  z3:=Tryd.sizeOf3
  v3:=Tryd.zeroValue3
  t4:=Tryd.underlying4
  a4:=Tryd.isAgg4
  z4:=Tryd.sizeOf4
  v4:=Tryd.zeroValue4
  t22:=Tryd.underlying28
  a22:=Tryd.isAgg28
  z22:=Tryd.sizeOf28
  v22:=Tryd.zeroValue28
  i3:=by kernel_rfl }
open Go.RowKit Go.Lib in
theorem Tryd.slices_Insert_int_shift (b off n c i vb voff m vc:Nat) (cs vs:List Value) (w:World) (hi:i < n) (hm:0 < m) (hroom:n + m≤c) (hc63:c≤9223372036854775807) (hvb:vb≠b)
    (hcl:cs.length=n) (hvl:vs.length=m)
    (hcs:∀ j v,cs[j]?=some v→w.cell? ⟨b,off + j,none⟩=some v) (hsp:∀ j,j < n + m→(w.cell? ⟨b,off + j,none⟩).isSome=true) (hfz:∀ j,j < n + m→w.frozen? ⟨b,off + j,none⟩=false)
    (hvs:∀ j v,vs[j]?=some v→w.cell? ⟨vb,voff + j,none⟩=some v) (h1c:∀ v ∈ cs,v.oneCell'=true) (h1v:∀ v ∈ vs,v.oneCell'=true)
    (tA tB:TypeId) (kA kB:Nat) (hsa:w.shape? vb=some (tA,kA)) (hsb:w.shape? b=some (tB,kB)) (hkB:kB≠0) (hfa:w.frozen? ⟨vb,voff,none⟩=false) (hfe:w.frozen? ⟨vb,kA,none⟩=false) :
    Calls Tryd.prog 56 #[.slice (some ⟨b,off,none⟩) n c,.int .i64 i,.slice (some ⟨vb,voff,none⟩) m vc] w fun e w'=>
      e=.returned (.slice (some ⟨b,off,none⟩) (n + m) c)∧w'=(w.drew.setCells b (off + (i + m)) (cs.drop i)).setCells b (off + i) vs:=Any2.slices_Insert_int_shift Tryd.laysNm221 b off n c i vb voff m vc cs vs w hi hm hroom hc63 hvb hcl hvl hcs hsp hfz hvs h1c h1v tA tB kA kB hsa hsb hkB hfa hfe
open Go.RowKit Go.Lib in
theorem Tryd.slices_Insert_int_end_room (b off n c vb voff m vc:Nat) (vs:List Value) (w:World) (hm:0 < m) (hroom:n + m≤c) (hc63:c≤9223372036854775807)
    (hvl:vs.length=m) (hsp:∀ j,j < m→(w.cell? ⟨b,off + n + j,none⟩).isSome=true) (hfz:∀ j,j < m→w.frozen? ⟨b,off + n + j,none⟩=false)
    (hvs:∀ j v,vs[j]?=some v→w.cell? ⟨vb,voff + j,none⟩=some v) (h1v:∀ v ∈ vs,v.oneCell'=true) :
    Calls Tryd.prog 56 #[.slice (some ⟨b,off,none⟩) n c,.int .i64 n,.slice (some ⟨vb,voff,none⟩) m vc] w fun e w'=>
      e=.returned (.slice (some ⟨b,off,none⟩) (n + m) c)∧w'=w.setCells b (off + n) vs:=Any2.slices_Insert_int_end_room Tryd.laysNm221 b off n c vb voff m vc vs w hm hroom hc63 hvl hsp hfz hvs h1v
open Go.RowKit Go.Lib in
theorem Tryd.slices_Insert_int_end_grow (base:Option Addr) (n c vb voff m vc:Nat) (cs vs:List Value) (w:World) (hm:0 < m) (hnc:n≤c) (hroom:c < n + m) (hbig:(n + m) * 8≤140737488355328)
    (hcl:cs.length=n) (hvl:vs.length=m) (hnil:base=none→n=0)
    (hcs:∀ a,base=some a→∀ j v,cs[j]?=some v→w.cell? (a.add j)=some v)
    (hvs:∀ j v,vs[j]?=some v→w.cell? ⟨vb,voff + j,none⟩=some v) (h1v:∀ v ∈ vs,v.oneCell'=true) :
    Calls Tryd.prog 56 #[.slice base n c,.int .i64 n,.slice (some ⟨vb,voff,none⟩) m vc] w fun e w'=>
      e=.returned (.slice (some ⟨w.heap.size,0,none⟩) (n + m) (grownCap w (n + m) c 3))∧
      w'=w.drew.alloc (.cells ((cs ++ vs).toArray ++ Builtin.zeroCells (Value.int .i64 0).cells (grownCap w (n + m) c 3 - (n + m))) 3):=Any2.slices_Insert_int_end_grow Tryd.laysNm221 base n c vb voff m vc cs vs w hm hnc hroom hbig hcl hvl hnil hcs hvs h1v
open Go.RowKit Go.Lib in
theorem Tryd.slices_Insert_int_grow (b off n c i vb voff m vc:Nat) (cs vs:List Value) (w:World) (hi:i < n) (hm:0 < m) (hnc:n≤c) (hroom:c < n + m) (hbig:(n + m) * 8≤140737488355328)
    (hcl:cs.length=n) (hvl:vs.length=m)
    (hcs:∀ j v,cs[j]?=some v→w.cell? ⟨b,off + j,none⟩=some v)
    (hvs:∀ j v,vs[j]?=some v→w.cell? ⟨vb,voff + j,none⟩=some v) (h1c:∀ v ∈ cs,v.oneCell'=true) (h1v:∀ v ∈ vs,v.oneCell'=true) :
    Calls Tryd.prog 56 #[.slice (some ⟨b,off,none⟩) n c,.int .i64 i,.slice (some ⟨vb,voff,none⟩) m vc] w fun e w'=>
      e=.returned (.slice (some ⟨w.heap.size,0,none⟩) (n + m) (grownCap w (n + m) c 3))∧
      w'=(((w.alloc (.cells ((cs.take i).toArray ++ Builtin.zeroCells (Value.int .i64 0).cells (n + m - i) ++ Builtin.zeroCells (Value.int .i64 0).cells (grownCap w (n + m) c 3 - (n + m))) 3)).drew.setCells w.heap.size i vs).drew).setCells w.heap.size (i + m) (cs.drop i):=Any2.slices_Insert_int_grow Tryd.laysNm221 b off n c i vb voff m vc cs vs w hi hm hnc hroom hbig hcl hvl hcs hvs h1c h1v
end Go.Proofs

end
section
namespace Go.Proofs.YtnkkdpjipfjdaaaDoor.Ix
open Go.RowKit Go.Proofs.YtnkkdpjipfjdaaaDoorW.PrintWords Go.Proofs.YtnkkdpjipfjdaaaDoorW.PrintLast Go.Proofs.YtnkkdpjipfjdaaaDoorW.PrintMore Go.Proofs.YtnkkdpjipfjdaaaDoorM
set_option linter.unusedVariables false
set_option linter.unusedSimpArgs false
set_option maxHeartbeats 1000000 in
set_option maxRecDepth 100000 in
theorem idx_any (g:Nat) (lb:Array Value) (eg:∀ args (w:World),(callFunc g args).run Tryd.prog w=.ok (.enter g args) w) (p:Int→Bool) (A0:Option Addr) (c0:Nat) (l0:List Int) (w:World) (hr0:Kd.C (Kd.int .i64) w A0 l0.length l0) (hc0:l0.length≤c0)
    (hp:∀ (m:Nat) (x:Int),Calls Tryd.prog g (#[.int .i64 x] ++ lb) (w.drewN m) fun e w'=>e=.returned (.bool (p x))∧Drawn0 (w.drewN m) w') :
    Calls Tryd.prog 57 #[.slice A0 l0.length c0,.func (.func g) #[] lb] w fun e w'=>e=.returned (.int .i64 (idxP p l0 0))∧Drawn0 w w':=by
  obtain ⟨n,hn⟩:∃ n,n=l0.length:=⟨_,rfl⟩
  have hmax:n≤9223372036854775807:=by have:=hr0.2.1;omega
  have hA:0 < n→∃ ad,A0=some ad:=fun h=>by obtain ⟨ad,h1,_⟩:=hr0.2.2 (by omega);exact ⟨ad,h1⟩
  rw [← hn] at hr0 ⊢
  have HN:=zN.mk hn
  have HP:=zN.mk hp
  have HR:=zN.mk hr0
  clear hp hr0 hn hc0
  by_cases h0:0 < n
  · obtain ⟨ad,rfl⟩:=hA h0
    clear hA h0
    go_enter Tryd.func57,Tryd.ntmps57
    go_wp2
    go_loopg [5,8] n (fun gg _ s8 wr=>∃ kk m:Nat,kk≤n∧n - kk≤gg∧s8=.int .i64 kk∧zN (wr=w.drewN m)∧zN (∀ j,j < kk→p (l0.getD j 0)=false))
    case atStart=>exact ⟨0,0,Nat.zero_le _,by omega,rfl,⟨rfl⟩,⟨fun j hj=>absurd hj (Nat.not_lt_zero _)⟩⟩
    case round=>
      obtain ⟨kk,m,hkk,hg,rfl,BW,A⟩:=hrel
      by_cases hlt:kk < n
      · have hltz:(kk:Int) < (n:Int):=by omega
        obtain ⟨ad',e',x0⟩:=Kd.at_int (Kd.yF HR.out m) (kk:Int) (by omega) hltz
        injection e' with e'
        subst e'
        rw [Int.toNat_natCast] at x0
        rw [← BW.out] at x0
        have hcall:=HP.out m (rd l0 (kk:Int))
        rw [← BW.out] at hcall
        have hy:rd l0 (kk:Int)=l0.getD kk 0:=rfl
        rw [hy] at hcall x0
        generalize hy2:l0.getD kk 0=y at hcall x0
        have B:=zN.mk hy2
        clear hy2 hy
        cases hq:p y with
        |true=>
          have HQ:=zN.mk hq
          rw [hq] at hcall
          clear hq
          go_wp2_with ((with_reducible refine hcall.mono ?_);rintro e w' ⟨rfl,⟨nd,rfl⟩⟩)
          go_ret
          refine ⟨?_,?_⟩
          · rw [idxP_hit p 0 l0 0 kk (by have:=HN.out;omega) A.out (by rw [B.out];exact HQ.out),Nat.zero_add]
            rfl
          · rw [BW.out]
            exact ⟨_,by rw [World.drewN_drewN]⟩
        |false=>
          have HQ:=zN.mk hq
          rw [hq] at hcall
          clear hq
          go_wp2_with ((with_reducible refine hcall.mono ?_);rintro e w' ⟨rfl,⟨nd,rfl⟩⟩)
          go_roundg (n - (kk + 1))
          case measure=>omega
          case rel=>
            refine ⟨kk + 1,m + nd,by omega,by omega,by go_num,⟨by rw [BW.out,World.drewN_drewN]⟩,⟨fun j hj=>?_⟩⟩
            by_cases e:j=kk
            · subst e
              rw [B.out];exact HQ.out
            · exact A.out j (by omega)
      · have hltz:¬ (kk:Int) < (n:Int):=by omega
        have:kk=n:=by omega
        subst this
        go_wp2
        go_ret
        refine ⟨?_,⟨m,BW.out⟩⟩
        rw [idxP_miss p 0 l0 0 (by rw [← HN.out];exact A.out)]
        rfl
  · have hz:n=0:=by omega
    subst hz
    have hl:l0=[]:=List.eq_nil_of_length_eq_zero HN.out.symm
    subst hl
    clear hA h0
    go_enter Tryd.func57,Tryd.ntmps57
    go_wp2
    go_loopg [5,8] 0 (fun gg _ s8 wr=>s8=.int .i64 0∧zN (w=wr))
    case atStart=>exact ⟨rfl,⟨rfl⟩⟩
    case round=>
      obtain ⟨rfl,hw⟩:=hrel
      obtain rfl:=hw.out
      go_wp2
      go_ret
      exact ⟨rfl,Drawn0.refl _⟩
end Go.Proofs.YtnkkdpjipfjdaaaDoor.Ix

end
section
namespace Go.Proofs.YtnkkdpjipfjdaaaDoor.Ix
open Go.RowKit Go.Proofs.YtnkkdpjipfjdaaaDoorW.PrintWords Go.Proofs.YtnkkdpjipfjdaaaDoorW.PrintLast Go.Proofs.YtnkkdpjipfjdaaaDoorW.PrintMore Go.Proofs.YtnkkdpjipfjdaaaDoorM
set_option linter.unusedVariables false
set_option linter.unusedSimpArgs false
theorem idxP_spec (p:Int→Bool):∀ (l:List Int) (i:Nat),(idxP p l i=-1∧∀ x ∈ l,p x=false)∨∃ k:Nat,k < l.length∧idxP p l i=((i + k:Nat):Int)∧p (l.getD k 0)=true∧∀ j,j < k→p (l.getD j 0)=false
  |[],i=>.inl ⟨rfl,fun x hx=>absurd hx (by simp)⟩
  |x :: l,i=>by
    cases hx:p x with
    |true=>exact .inr ⟨0,by simp,by rw [idxP,if_pos hx];rfl,hx,fun j hj=>absurd hj (Nat.not_lt_zero _)⟩
    |false=>
      have e:idxP p (x :: l) i=idxP p l (i + 1):=by rw [idxP,if_neg (by simp [hx])]
      rcases idxP_spec p l (i + 1) with ⟨h1,h2⟩|⟨k,h1,h2,h3,h4⟩
      · refine .inl ⟨e.trans h1,fun y hy=>?_⟩
        rcases List.mem_cons.1 hy with rfl|hy
        · exact hx
        · exact h2 y hy
      · refine .inr ⟨k + 1,by simpa using h1,by rw [e,h2];congr 1;omega,h3,fun j hj=>?_⟩
        cases j with
        |zero=>exact hx
        |succ j=>exact h4 j (by omega)
theorem filter_take (p:Int→Bool) (l:List Int) (j:Nat) (hj:j < l.length):(l.take (j + 1)).filter (fun x=>!p x)=(l.take j).filter (fun x=>!p x) ++ (if p (l.getD j 0)=true then [] else [l.getD j 0]):=by
  rw [List.take_succ_eq_append_getElem hj,List.filter_append,List.getD_eq_getElem?_getD,List.getElem?_eq_getElem hj]
  congr 1
  simp only [Option.getD_some,List.filter_cons,List.filter_nil]
  cases p l[j] <;> simp
theorem filter_none (p:Int→Bool) (l:List Int) (k:Nat) (h:∀ j,j < k→p (l.getD j 0)=false) (hk:k≤l.length):(l.take k).filter (fun x=>!p x)=l.take k:=by
  rw [List.filter_eq_self]
  intro x hx
  obtain ⟨j,hj,e⟩:=List.getElem_of_mem hx
  have hj2:j < k:=by rw [List.length_take] at hj;omega
  have:=h j hj2
  rw [List.getD_eq_getElem?_getD,List.getElem?_eq_getElem (by omega)] at this
  rw [List.getElem_take] at e
  rw [← e]
  simpa using this
set_option maxHeartbeats 4000000 in
set_option maxRecDepth 1000000 in
theorem del_any (g:Nat) (lb:Array Value) (eg:∀ args (w:World),(callFunc g args).run Tryd.prog w=.ok (.enter g args) w) (p:Int→Bool) (Q:World→Prop) (P0_:Nat→Prop) (u:Value) (l0:List Int) (w0 w:World) (hB:Below w0.heap.size w0 w) (ho0:Kd.R (Kd.int .i64) 3 w w0.heap.size P0_ u l0)
    (hQ:Q w) (hQd:∀ W m,Q W→Q (W.drewN m)) (hQs:∀ b,u.ownBlock=some b→∀ W i v,Q W→Q (W.setCell ⟨b,i,none⟩ v))
    (hp:∀ (W:World) (x:Int),Q W→Calls Tryd.prog g (#[.int .i64 x] ++ lb) W fun e w'=>e=.returned (.bool (p x))∧Drawn0 W w') :
    Calls Tryd.prog 54 #[u,.func (.func g) #[] lb] w fun e w'=>∃ v0_:Value,e=.returned v0_∧Kd.R (Kd.int .i64) 3 w' w0.heap.size P0_ v0_ (l0.filter fun x=>!p x)∧Below w0.heap.size w0 w':=by
  obtain ⟨A,cap,rfl⟩:=Kd.yQ ho0
  have hrd:=Kd.yZ ho0
  have hidx:=idx_any g lb eg p A cap l0 w hrd.2.2 hrd.2.1 (fun m x=>hp _ x (hQd w m hQ))
  rcases idxP_spec p l0 0 with ⟨e1,hall⟩|⟨k0,hk0,e1,hk1,hk2⟩
  · rw [e1] at hidx
    have hf:(l0.filter fun x=>!p x)=l0:=List.filter_eq_self.2 (fun x hx=>by simp [hall x hx])
    rw [hf]
    have HX:=zN.mk hidx
    have HO:=zN.mk ho0
    have HB:=zN.mk hB
    clear hidx ho0 hB hrd hall hf e1 hQ hQd hQs hp
    go_enter Tryd.func54,Tryd.ntmps54
    go_wp2_with ((with_reducible refine HX.out.mono ?_);rintro e w' ⟨rfl,⟨nd,rfl⟩⟩)
    go_ret
    exact ⟨_,rfl,Kd.zQ HO.out _,zD HB.out _⟩
  · obtain ⟨b,rfl⟩:∃ b,A=some ⟨b,0,none⟩:=by
      obtain ⟨_,inner,⟨_,h2⟩,_⟩:=ho0
      rcases h2 with ⟨h2,_⟩|⟨g',cap',cur,hv,_⟩
      · injection h2 with h2 h3
        omega
      · injection hv with hv
        exact ⟨g',hv⟩
    have hQs':=hQs b rfl
    have hroom:=R_room _ ho0
    obtain ⟨n,hn⟩:∃ n,n=l0.length:=⟨_,rfl⟩
    have hcap:n≤cap:=by rw [hn];exact hroom.2.2.2.2.2.1
    have hmax:cap≤9223372036854775807:=hroom.2.2.2.2.2.2
    have hge:w0.heap.size≤b:=hroom.2.2.2.1
    have hw0:=hB.size
    rw [e1,Nat.zero_add] at hidx
    rw [← hn] at hidx ho0 hk0 ⊢
    have HX:=zN.mk hidx
    have HO:=zN.mk ho0
    have HB:=zN.mk hB
    have HN:=zN.mk hn
    have HQ:=zN.mk hQ
    have HQd:=zN.mk hQd
    have HQs:=zN.mk hQs'
    have HP:=zN.mk hp
    have HK1:=zN.mk hk1
    have HK2:=zN.mk hk2
    have HG:=zN.mk hge
    clear hidx ho0 hB hrd e1 hQ hQd hQs hQs' hp hroom hn hge hw0 hk1 hk2
    go_enter Tryd.func54,Tryd.ntmps54
    go_wp2_with ((with_reducible refine HX.out.mono ?_);rintro e w' ⟨rfl,⟨nd,rfl⟩⟩)
    go_loopg [5,6,7] n (fun gg s5 s6 _ wr=>∃ (ii jj:Nat) (xs:List Int),jj≤n∧ii < jj∧n - jj≤gg∧s5=.int .i64 ii∧s6=.int .i64 jj∧zN (Kd.R (Kd.int .i64) 3 wr w0.heap.size P0_ (.slice (some ⟨b,0,none⟩) n cap) xs)∧zN (xs.length=n)∧zN (xs.take ii=(l0.take jj).filter fun x=>!p x)∧zN (xs.drop jj=l0.drop jj)∧zN (Q wr)∧zN (Below w0.heap.size w0 wr))
    case atStart=>
      refine ⟨k0,k0 + 1,l0,by omega,by omega,by omega,rfl,by go_num,⟨Kd.zQ HO.out _⟩,⟨HN.out.symm⟩,⟨?_⟩,⟨rfl⟩,⟨HQd.out _ _ HQ.out⟩,⟨zD HB.out _⟩⟩
      rw [filter_take p l0 k0 (by have:=HN.out;omega),if_pos HK1.out,List.append_nil,filter_none p l0 k0 HK2.out (by have:=HN.out;omega)]
    case round=>
      obtain ⟨ii,jj,xs,hjj,hii,hg,rfl,rfl,HR,HL,HF,HD,HQ1,HB1⟩:=hrel
      by_cases hlt:jj < n
      · have hltz:(jj:Int) < (n:Int):=by omega
        have hitz:(ii:Int) < (n:Int):=by omega
        have hx:=(Kd.R_celln (enc:=Value.int .i64) (h1:=fun _=>rfl) (0:Int) HR.out (jj:Int) (by omega) hltz)
        have hxi:=(Kd.R_celln (enc:=Value.int .i64) (h1:=fun _=>rfl) (0:Int) HR.out (ii:Int) (by omega) hitz)
        rw [Int.toNat_natCast] at hx hxi
        have hgd:rdOf (0:Int) xs (jj:Int)=l0.getD jj 0:=by
          unfold rdOf
          rw [Int.toNat_natCast]
          have h1:=congrArg (fun z=>z.getD 0 0) HD.out
          simpa [List.getD_eq_getElem?_getD] using h1
        rw [hgd] at hx
        generalize hy:l0.getD jj 0=y at hx
        have HY:=zN.mk hy
        have hxc:=hx.1
        have hic:=hxi.1
        have hif:=hxi.2
        clear hy hgd hx hxi
        have hdd:xs.drop (jj + 1)=l0.drop (jj + 1):=by
          have h1:=congrArg (List.drop 1) HD.out
          rwa [List.drop_drop,List.drop_drop] at h1
        have HDD:=zN.mk hdd
        clear hdd
        have hcall:=HP.out wr y HQ1.out
        cases hq:p y with
        |true=>
          have HPY:=zN.mk hq
          rw [hq] at hcall
          clear hq
          go_wp2_with ((with_reducible refine hcall.mono ?_);rintro e w' ⟨rfl,⟨nd,rfl⟩⟩)
          go_roundg (n - (jj + 1))
          case measure=>omega
          case rel=>
            refine ⟨ii,jj + 1,xs,by omega,by omega,by omega,rfl,by go_num,⟨Kd.zQ HR.out _⟩,HL,⟨?_⟩,⟨HDD.out⟩,⟨HQd.out _ _ HQ1.out⟩,⟨zD HB1.out _⟩⟩
            rw [filter_take p l0 jj (by have:=HN.out;omega),HY.out,if_pos HPY.out,List.append_nil]
            exact HF.out
        |false=>
          have HPY:=zN.mk hq
          rw [hq] at hcall
          clear hq
          go_wp2_with ((with_reducible refine hcall.mono ?_);rintro e w' ⟨rfl,⟨nd,rfl⟩⟩)
          go_roundg (n - (jj + 1))
          case measure=>omega
          case rel=>
            have hput:=Kd.R_putn (enc:=Value.int .i64) (h1:=fun _=>rfl) (Kd.zQ HR.out nd) (ii:Int) y
            rw [Int.toNat_natCast] at hput
            refine ⟨ii + 1,jj + 1,xs.set ii y,by omega,by omega,by omega,by go_num,by go_num,⟨hput⟩,⟨by rw [List.length_set];exact HL.out⟩,⟨?_⟩,⟨?_⟩,⟨HQs.out _ _ _ (HQd.out _ _ HQ1.out)⟩,⟨(zD HB1.out _).setCell (p:=⟨b,ii,none⟩) HG.out _⟩⟩
            · have hil:ii < (xs.set ii y).length:=by rw [List.length_set,HL.out];omega
              rw [filter_take p l0 jj (by have:=HN.out;omega),HY.out,if_neg (by simp [HPY.out]),← HF.out,List.take_succ_eq_append_getElem hil,List.getElem_set_self,List.take_set_of_le (Nat.le_refl _)]
            · rw [List.drop_set_of_lt (by omega)]
              exact HDD.out
      · have hje:jj=n:=by omega
        subst hje
        have hrm:=R_room _ HR.out
        have ht:=Kd.R_take HR.out (m:=ii) (by rw [HL.out];omega)
        have hne:¬ cap=ii:=by omega
        have hltz:¬ (jj:Int) < (jj:Int):=by omega
        have hsz:Kd.sz (Kd.int .i64)=1:=rfl
        have hcz:(Value.cells (Value.int .i64 0)).size=1:=rfl
        obtain ⟨zs,hz,hcl⟩:=run_clear_k (P:=Tryd.prog) wr 28 3 (.int .i64 0) Tryd.underlying28 (fun w=>by rfl) (by simp [Value.cells,Value.oneCell']) b ii (jj - ii) (cap - ii) (by omega) (fun q hq=>hrm.1 _ (by rw [hcz] at hq;rw [hsz];omega)) (fun q hq=>hrm.2.1 _)
        have ht2:=zN.mk (R_tail _ ht zs ii (by rw [hsz];omega) (by rw [hz,hcz,hsz];omega))
        have hfin:xs.take ii=l0.filter fun x=>!p x:=by
          rw [HF.out,List.take_of_length_le (by have:=HN.out;omega)]
        have HFF:=zN.mk hfin
        have HZ:=zN.mk hz
        have HRR:=zN.mk hrm
        clear hz hrm hsz hcz ht hfin
        go_wp2
        go_ret
        have hW1:w0.heap.size≤wr.heap.size:=HB1.out.size
        refine ⟨_,rfl,?_,pw_below_grown HB1.out (some b) hW1 ht2.out.2 (fun k hk=>by injection hk with hk;subst hk;exact HG.out)⟩
        rw [← HFF.out]
        exact ht2.out.1
end Go.Proofs.YtnkkdpjipfjdaaaDoor.Ix

end
section
namespace Go.Proofs.YtnkkdpjipfjdaaaDoor.Ix
open Go.RowKit Go.Proofs.YtnkkdpjipfjdaaaDoorW.PrintWords Go.Proofs.YtnkkdpjipfjdaaaDoorW.PrintLast Go.Proofs.YtnkkdpjipfjdaaaDoorW.PrintMore Go.Proofs.YtnkkdpjipfjdaaaDoorM
set_option linter.unusedVariables false
set_option linter.unusedSimpArgs false
set_option maxHeartbeats 8000000
set_option maxRecDepth 1000000
theorem pred34 (x:Int) (W:World):Calls Tryd.prog 34 (#[.int .i64 x] ++ #[]) W fun e w'=>e=.returned (.bool (x == 19 ||(x == 20 ||(x == 4 ||x == 5))))∧Drawn0 W w':=by
  by_cases c0:x=19
  · have c0b0:(x == 19)=true:=beq_iff_eq.mpr c0
    have c0b1:(x != 19)=false:=bne_eq_false_iff_eq.mpr c0
    clear c0
    go_enter Tryd.func34,Tryd.ntmps34
    go_wp2
    go_ret
    exact ⟨by first|rfl|(simp;done)|(simp [*];done),by repeat (first|exact Drawn0.refl _|apply Drawn0.step)⟩
  · have c0b0:(x == 19)=false:=beq_eq_false_iff_ne.mpr c0
    have c0b1:(x != 19)=true:=bne_iff_ne.mpr c0
    by_cases c1:x=20
    · have c1b0:(x == 20)=true:=beq_iff_eq.mpr c1
      have c1b1:(x != 20)=false:=bne_eq_false_iff_eq.mpr c1
      clear c1
      go_enter Tryd.func34,Tryd.ntmps34
      go_wp2
      go_ret
      exact ⟨by first|rfl|(simp;done)|(simp [*];done),by repeat (first|exact Drawn0.refl _|apply Drawn0.step)⟩
    · have c1b0:(x == 20)=false:=beq_eq_false_iff_ne.mpr c1
      have c1b1:(x != 20)=true:=bne_iff_ne.mpr c1
      by_cases c2:x=4
      · have c2b0:(x == 4)=true:=beq_iff_eq.mpr c2
        have c2b1:(x != 4)=false:=bne_eq_false_iff_eq.mpr c2
        clear c2
        go_enter Tryd.func34,Tryd.ntmps34
        go_wp2
        go_ret
        exact ⟨by first|rfl|(simp;done)|(simp [*];done),by repeat (first|exact Drawn0.refl _|apply Drawn0.step)⟩
      · have c2b0:(x == 4)=false:=beq_eq_false_iff_ne.mpr c2
        have c2b1:(x != 4)=true:=bne_iff_ne.mpr c2
        go_enter Tryd.func34,Tryd.ntmps34
        go_wp2
        go_ret
        exact ⟨by first|rfl|(simp;done)|(simp [*];done),by repeat (first|exact Drawn0.refl _|apply Drawn0.step)⟩
theorem pred44 (x:Int) (W:World):Calls Tryd.prog 44 (#[.int .i64 x] ++ #[]) W fun e w'=>e=.returned (.bool (x == 18))∧Drawn0 W w':=by
  go_enter Tryd.func44,Tryd.ntmps44
  go_wp2
  go_ret
  exact ⟨by first|rfl|(simp;done)|(simp [*];done),by repeat (first|exact Drawn0.refl _|apply Drawn0.step)⟩
theorem pred47 (x:Int) (W:World):Calls Tryd.prog 47 (#[.int .i64 x] ++ #[]) W fun e w'=>e=.returned (.bool (x == 9 ||x == 19))∧Drawn0 W w':=by
  by_cases c0:x=9
  · have c0b0:(x == 9)=true:=beq_iff_eq.mpr c0
    have c0b1:(x != 9)=false:=bne_eq_false_iff_eq.mpr c0
    clear c0
    go_enter Tryd.func47,Tryd.ntmps47
    go_wp2
    go_ret
    exact ⟨by first|rfl|(simp;done)|(simp [*];done),by repeat (first|exact Drawn0.refl _|apply Drawn0.step)⟩
  · have c0b0:(x == 9)=false:=beq_eq_false_iff_ne.mpr c0
    have c0b1:(x != 9)=true:=bne_iff_ne.mpr c0
    go_enter Tryd.func47,Tryd.ntmps47
    go_wp2
    go_ret
    exact ⟨by first|rfl|(simp;done)|(simp [*];done),by repeat (first|exact Drawn0.refl _|apply Drawn0.step)⟩
theorem pred41 (x a1:Int) (gb:Nat) (W:World) (hb:W.heap[gb]?=some (.cells #[.int .i64 a1] 3 (0,0))):Calls Tryd.prog 41 (#[.int .i64 x] ++ #[.pointer (some ⟨gb,0,none⟩)]) W fun e w'=>e=.returned (.bool (x == a1))∧Drawn0 W w':=by
  have hc:W.cell? ⟨gb,0,none⟩=some (.int .i64 a1):=by simp [World.cell?,hb]
  clear hb
  go_enter Tryd.func41,Tryd.ntmps41
  go_wp2
  go_ret
  exact ⟨by first|rfl|(simp;done)|(simp [*];done),by repeat (first|exact Drawn0.refl _|apply Drawn0.step)⟩
theorem pred48 (x a1:Int) (gb:Nat) (W:World) (hb:W.heap[gb]?=some (.cells #[.int .i64 a1] 3 (0,0))):Calls Tryd.prog 48 (#[.int .i64 x] ++ #[.pointer (some ⟨gb,0,none⟩)]) W fun e w'=>e=.returned (.bool (x == a1))∧Drawn0 W w':=by
  have hc:W.cell? ⟨gb,0,none⟩=some (.int .i64 a1):=by simp [World.cell?,hb]
  clear hb
  go_enter Tryd.func48,Tryd.ntmps48
  go_wp2
  go_ret
  exact ⟨by first|rfl|(simp;done)|(simp [*];done),by repeat (first|exact Drawn0.refl _|apply Drawn0.step)⟩
theorem idxP_any (p:Int→Bool) (l:List Int):decide (idxP p l 0 ≥ 0)=l.any p:=by
  rcases idxP_spec p l 0 with ⟨h1,h2⟩|⟨k,h1,h2,h3,h4⟩
  · rw [h1]
    have:l.any p=false:=by rw [List.any_eq_false];intro x hx;simp [h2 x hx]
    rw [this];rfl
  · rw [h2]
    have:l.any p=true:=by
      rw [List.any_eq_true]
      refine ⟨l.getD k 0,?_,h3⟩
      rw [List.getD_eq_getElem?_getD,List.getElem?_eq_getElem h1]
      exact List.getElem_mem h1
    rw [this]
    exact decide_eq_true (Int.natCast_nonneg _)
theorem has_any (g:Nat) (lb:Array Value) (eg:∀ args (w:World),(callFunc g args).run Tryd.prog w=.ok (.enter g args) w) (p:Int→Bool) (A0:Option Addr) (c0:Nat) (l0:List Int) (w:World) (hr0:Kd.C (Kd.int .i64) w A0 l0.length l0) (hc0:l0.length≤c0)
    (hp:∀ (W:World) (x:Int),Calls Tryd.prog g (#[.int .i64 x] ++ lb) W fun e w'=>e=.returned (.bool (p x))∧Drawn0 W w') :
    Calls Tryd.prog 50 #[.slice A0 l0.length c0,.func (.func g) #[] lb] w fun e w'=>e=.returned (.bool (l0.any p))∧Drawn0 w w':=by
  have hidx:=idx_any g lb eg p A0 c0 l0 w hr0 hc0 (fun m x=>hp _ x)
  have ha:=idxP_any p l0
  generalize hq:idxP p l0 0=i at hidx ha
  generalize hv:l0.any p=v at ha
  have HX:=zN.mk hidx
  have HA:=zN.mk ha
  clear hidx ha hr0 hc0 hp hq hv
  go_enter Tryd.func50,Tryd.ntmps50
  go_wp2_with ((with_reducible refine HX.out.mono ?_);rintro e w' ⟨rfl,⟨nd,rfl⟩⟩)
  go_ret
  exact ⟨by rw [← HA.out];rfl,⟨_,rfl⟩⟩
theorem wo_any (g:Nat) (lb:Array Value) (eg:∀ args (w:World),(callFunc g args).run Tryd.prog w=.ok (.enter g args) w) (p:Int→Bool) (A0:Option Addr) (c0:Nat) (l0:List Int) (w:World)
    (hcl:Calls Tryd.prog 53 #[.slice A0 l0.length c0] w fun e w'=>∃ v0_:Value,e=.returned v0_∧Kd.R (Kd.int .i64) 3 w' w.heap.size (fun _=>True) v0_ l0∧Below w.heap.size w w')
    (hp:∀ (W:World) (x:Int),Below w.heap.size w W→Calls Tryd.prog g (#[.int .i64 x] ++ lb) W fun e w'=>e=.returned (.bool (p x))∧Drawn0 W w') :
    Calls Tryd.prog 40 #[.slice A0 l0.length c0,.func (.func g) #[] lb] w fun e w'=>∃ v0_:Value,e=.returned v0_∧Kd.R (Kd.int .i64) 3 w' w.heap.size (fun _=>True) v0_ (l0.filter fun x=>!p x)∧Below w.heap.size w w':=by
  have HD:=zN.mk (fun (u:Value) (w':World) (hu:Kd.R (Kd.int .i64) 3 w' w.heap.size (fun _=>True) u l0) (hB:Below w.heap.size w w')=>
    del_any g lb eg p (fun W=>Below w.heap.size w W) (fun _=>True) u l0 w w' hB hu hB (fun W m h=>zD h _) (fun b hb W i v h=>h.setCell (p:=⟨b,i,none⟩) (by
      obtain ⟨A,cap,rfl⟩:=Kd.yQ hu
      obtain ⟨_,inner,⟨_,h2⟩,_⟩:=hu
      rcases h2 with ⟨h2,_⟩|⟨g',cap',cur,hv,hge,_⟩
      · injection h2 with h2 h3
        subst h2
        cases hb
      · injection hv with hv
        subst hv
        cases hb
        exact hge) _) hp)
  have HX:=zN.mk hcl
  clear hcl hp
  go_enter Tryd.func40,Tryd.ntmps40
  go_wp2_with (first|((with_reducible refine HX.out.mono ?_);rintro e w1 ⟨v,rfl,hR,hB⟩;have HDD:=zN.mk (HD.out v w1 hR hB);clear hR hB)|((with_reducible refine HDD.out.mono ?_);rintro e w2 ⟨v2,rfl,hR,hB⟩;have HR2:=zN.mk hR;have HB2:=zN.mk hB;clear hR hB))
  go_ret
  exact ⟨_,rfl,HR2.out,HB2.out⟩
end Go.Proofs.YtnkkdpjipfjdaaaDoor.Ix

end
section
namespace Go.Proofs.YtnkkdpjipfjdaaaDoor.Ix
open Go.RowKit Go.Proofs.YtnkkdpjipfjdaaaDoorW.PrintWords Go.Proofs.YtnkkdpjipfjdaaaDoorW.PrintLast Go.Proofs.YtnkkdpjipfjdaaaDoorW.PrintMore Go.Proofs.YtnkkdpjipfjdaaaDoorM
set_option linter.unusedVariables false
set_option linter.unusedSimpArgs false
theorem own_setCells {w:World} {g:Nat} {cur:Array Value} (base n cap o:Nat) (vs xs:List Value) (hh:w.heap[g]?=some (.cells cur 3 (0,0))) (hb:base≤g) (hn:n≤cap) (hm:cap≤maxLen) (hcs:cur.size=cap) (ho:o + vs.length≤cap)
    (hx:(cur.toList.take o ++ vs ++ cur.toList.drop (o + vs.length)).take n=xs) (hl:xs.length=n):(w.setCells g o vs).ownsRow base 3 1 (.slice (some ⟨g,0,none⟩) n cap) n xs:=by
  obtain ⟨cur',h3,h4,h5⟩:=setCells_row vs o w cur hh (by omega)
  exact ⟨by omega,.inr ⟨g,cap,cur',rfl,hb,h3,hn,hm,by omega,by rw [h5,Nat.mul_one];exact hx⟩⟩
theorem below_setCells {w0 w:World} (hB:Below w0.heap.size w0 w) (g o:Nat) (vs:List Value) (hg:w0.heap.size≤g):Below w0.heap.size w0 (w.setCells g o vs):=by
  have hsame:=setCells_same g vs o w
  exact pw_below_grown hB (some g) hB.size ⟨hsame.1,hsame.2.1,hsame.2.2.1,by rw [hsame.2.2.2];exact Nat.le_refl _,fun i _ hne=>setCells_far vs o i (fun he=>hne (by rw [he]))⟩ (fun k hk=>by injection hk with hk;subst hk;exact hg)
theorem ins_list (l:List Int) (x:Int) (i:Nat) (hi:i≤l.length):encs (Value.int .i64) (l.take i ++ x :: l.drop i)=(encs (Value.int .i64) l).take i ++ Value.int .i64 x :: (encs (Value.int .i64) l).drop i:=by
  simp [encs,List.map_take,List.map_drop]
theorem ins_any (w0 w:World) (u:Value) (vb vc:Nat) (curv:Array Value) (x:Int) (i n:Nat) (l:List Int) (hB:Below w0.heap.size w0 w) (ho:w.ownsRow w0.heap.size 3 1 u n (encs (Value.int .i64) l)) (hl:l.length=n) (hi:i≤n) (hlim:n < 17592186044416)
    (hvh:w.heap[vb]?=some (.cells curv 3 (0,0))) (hv0:curv[0]?=some (.int .i64 x)) (hvu:u.ownBlock≠some vb) :
    Calls Tryd.prog 56 #[u,.int .i64 i,.slice (some ⟨vb,0,none⟩) 1 vc] w fun e w'=>∃ v0_:Value,e=.returned v0_∧w'.ownsRow w0.heap.size 3 1 v0_ (n + 1) (encs (Value.int .i64) (l.take i ++ x :: l.drop i))∧Below w0.heap.size w0 w':=by
  have hel:(encs (Value.int .i64) l).length=n:=(encs_length l).trans hl
  rw [ins_list l x i (by omega)]
  have h1c:∀ v ∈ encs (Value.int .i64) l,v.oneCell'=true:=by
    intro v hv
    obtain ⟨y,_,rfl⟩:=List.mem_map.1 hv
    rfl
  have h1v:∀ v ∈ [Value.int .i64 x],v.oneCell'=true:=by
    intro v hv
    rw [List.mem_singleton.1 hv];rfl
  have hvs:∀ j v,[Value.int .i64 x][j]?=some v→w.cell? ⟨vb,0 + j,none⟩=some v:=by
    intro j v hj
    cases j with
    |zero=>rw [zJ hvh,← hj];exact hv0
    |succ j=>simp at hj
  generalize encs (Value.int .i64) l=cs at ho hel h1c ⊢
  have hlen:(cs.take i ++ Value.int .i64 x :: cs.drop i).length=n + 1:=by simp;omega
  rcases ho.2 with ⟨rfl,rfl⟩|⟨g,cap,cur,rfl,hb,hh,hn,hm,hcz,ht⟩
  · obtain rfl:cs=[]:=List.eq_nil_of_length_eq_zero hel
    obtain rfl:i=0:=by omega
    refine (Tryd.slices_Insert_int_end_grow none 0 0 vb 0 1 vc [] [Value.int .i64 x] w (by omega) (by omega) (by omega) (by omega) rfl rfl (fun _=>rfl) (fun a ha=>by cases ha) hvs h1v).mono ?_
    rintro e w' ⟨rfl,rfl⟩
    refine ⟨_,rfl,⟨rfl,.inr ⟨w.heap.size,_,_,rfl,hB.size,heap_alloc_new w.drew _,grownCap_ge w _ _ _,grownCap_le_maxLen w _ _ _ (by unfold maxLen;omega),?_,?_⟩⟩,zG (below_drew hB) _⟩
    · have:=grownCap_ge w 1 0 3
      simp [Builtin.zeroCells,Value.cells]
      omega
    · simp
  · rw [Nat.mul_one] at hcz ht
    have hroomc:∀ j,j < cap→(w.cell? ⟨g,j,none⟩).isSome=true:=fun j hj=>by rw [zJ hh,Array.getElem?_eq_getElem (by omega)];rfl
    have hfz:∀ j,w.frozen? ⟨g,j,none⟩=false:=fun j=>zI hh j
    have hm63:cap≤9223372036854775807:=hm
    have hcl:∀ j v,cs[j]?=some v→w.cell? ⟨g,0 + j,none⟩=some v:=by
      intro j v hj
      rw [Nat.zero_add,zJ hh,← hj,← ht,List.getElem?_take,if_pos (by have:=(List.getElem?_eq_some_iff.1 hj).1;omega)]
      simp
    have hvg:vb≠g:=fun h=>hvu (by rw [h];rfl)
    have hcl2:cur.toList.length=cap:=Array.length_toList.trans hcz
    by_cases hin:i=n
    · subst hin
      have hd:cs.drop i=[]:=List.drop_eq_nil_of_le (by omega)
      have htk:cs.take i=cs:=List.take_of_length_le (by omega)
      rw [hd,htk] at hlen ⊢
      by_cases hroom:i + 1≤cap
      · refine (Tryd.slices_Insert_int_end_room g 0 i cap vb 0 1 vc [Value.int .i64 x] w (by omega) hroom hm63 rfl (fun j hj=>hroomc _ (by omega)) (fun j hj=>hfz _) hvs h1v).mono ?_
        rintro e w' ⟨rfl,rfl⟩
        refine ⟨_,rfl,own_setCells _ _ _ _ _ _ hh hb hroom hm hcz (by simp;omega) ?_ hlen,below_setCells hB _ _ _ hb⟩
        rw [Nat.zero_add,ht,List.take_append_of_le_length (by simp;omega),List.take_of_length_le (by simp;omega)]
      · refine (Tryd.slices_Insert_int_end_grow (some ⟨g,0,none⟩) i cap vb 0 1 vc cs [Value.int .i64 x] w (by omega) (by omega) (by omega) (by omega) hel rfl (fun h=>by cases h) (fun a ha j v hj=>by injection ha with ha;subst ha;rw [Addr.add_lit];exact hcl j v hj) hvs h1v).mono ?_
        rintro e w' ⟨rfl,rfl⟩
        refine ⟨_,rfl,⟨by rw [hlen,Nat.mul_one],.inr ⟨w.heap.size,_,_,rfl,hB.size,heap_alloc_new w.drew _,grownCap_ge w _ _ _,grownCap_le_maxLen w _ _ _ (by unfold maxLen;omega),?_,?_⟩⟩,zG (below_drew hB) _⟩
        · have:=grownCap_ge w (i + 1) cap 3
          simp [Builtin.zeroCells,Value.cells]
          omega
        · simp only [Array.toList_append,List.toList_toArray,Nat.mul_one]
          rw [List.take_append_of_le_length (by simp;omega),List.take_of_length_le (by simp;omega)]
    · have hlt:i < n:=by omega
      by_cases hroom:n + 1≤cap
      · obtain ⟨tA,kA,hsa,_⟩:=World.shape?_of_cell? (hvs 0 _ rfl)
        obtain ⟨tB,kB,hsb,hkb,_⟩:=World.shape?_of_cell? (hcl 0 _ (List.getElem?_eq_getElem (by omega)))
        refine (Tryd.slices_Insert_int_shift g 0 n cap i vb 0 1 vc cs [Value.int .i64 x] w hlt (by omega) hroom hm63 hvg hel rfl hcl (fun j hj=>hroomc _ (by omega)) (fun j hj=>hfz _) hvs h1c h1v tA tB kA kB hsa hsb (by omega) (zI hvh _) (zI hvh _)).mono ?_
        rintro e w' ⟨rfl,rfl⟩
        obtain ⟨cur1,h3,h4,h5⟩:=setCells_row (cs.drop i) (0 + (i + 1)) w.drew cur hh (by simp;omega)
        have hs:(cs.drop i).length=n - i:=by simp;omega
        have e1:cur.toList.take i=cs.take i:=by rw [← ht,List.take_take,Nat.min_eq_left (by omega)]
        have e2:cur1.toList.take i=cs.take i:=by
          rw [h5,List.append_assoc,List.take_append_of_le_length (by simp;omega),List.take_take,Nat.min_eq_left (by omega),e1]
        have e3:cur1.toList.drop (i + 1)=cs.drop i ++ cur.toList.drop (n + 1):=by
          rw [h5,List.append_assoc,List.drop_append_of_le_length (by simp;omega),List.drop_eq_nil_of_le (by simp;omega),List.nil_append,hs]
          congr 2
          omega
        refine ⟨_,rfl,own_setCells _ _ _ _ _ _ h3 hb hroom hm (by omega) (by simp;omega) ?_ hlen,below_setCells (below_setCells (below_drew hB) _ _ _ hb) _ _ _ hb⟩
        rw [Nat.zero_add,e2,show i + [Value.int IntKind.i64 x].length=i + 1 from rfl,e3,List.append_assoc,← List.append_assoc [_],← List.append_assoc,List.take_append_of_le_length (by simp;omega),List.take_of_length_le (by simp;omega)]
        rfl
      · refine (Tryd.slices_Insert_int_grow g 0 n cap i vb 0 1 vc cs [Value.int .i64 x] w hlt (by omega) (by omega) (by omega) (by omega) hel rfl hcl hvs h1c h1v).mono ?_
        rintro e w' ⟨rfl,rfl⟩
        have hG:=grownCap_ge w (n + 1) cap 3
        have hGm:=grownCap_le_maxLen w (n + 1) cap 3 (by unfold maxLen;omega)
        generalize grownCap w (n + 1) cap 3=G at hG hGm ⊢
        obtain ⟨R0,hR0⟩:∃ R0:Array Value,R0=(cs.take i).toArray ++ Builtin.zeroCells (Value.int .i64 0).cells (n + 1 - i) ++ Builtin.zeroCells (Value.int .i64 0).cells (G - (n + 1)):=⟨_,rfl⟩
        rw [← hR0]
        have hRs:R0.size=G:=by
          rw [hR0]
          simp [Builtin.zeroCells,Value.cells]
          omega
        have hRl:R0.toList.length=G:=Array.length_toList.trans hRs
        have hRt:R0.toList.take i=cs.take i:=by
          rw [hR0]
          simp only [Array.toList_append,List.toList_toArray,List.append_assoc]
          rw [List.take_append_of_le_length (by simp;omega),List.take_of_length_le (by simp;omega)]
        obtain ⟨cur1,h3,h4,h5⟩:=setCells_row [Value.int .i64 x] i (w.alloc (.cells R0 3)).drew R0 (heap_alloc_new w _) (by simp;omega)
        have hs:(cs.drop i).length=n - i:=by simp;omega
        have e2:cur1.toList.take (i + 1)=cs.take i ++ [Value.int .i64 x]:=by
          rw [h5,hRt,List.take_append_of_le_length (by simp;omega),List.take_of_length_le (by simp;omega)]
        refine ⟨_,rfl,own_setCells _ _ _ _ _ _ h3 hB.size hG hGm (by omega) (by rw [hs];omega) ?_ hlen,below_setCells (below_drew (below_setCells (below_drew (zG hB _)) _ _ _ hB.size)) _ _ _ hB.size⟩
        rw [e2,List.take_append_of_le_length (by simp;omega),List.take_of_length_le (by simp;omega),List.append_assoc]
        rfl
theorem min_any (A0:Option Addr) (c0:Nat) (x:Int) (l:List Int) (w:World) (hr0:Kd.C (Kd.int .i64) w A0 (x :: l).length (x :: l)) (hc0:(x :: l).length≤c0) :
    Calls Tryd.prog 37 #[.slice A0 (x :: l).length c0] w fun e w'=>e=.returned (.int .i64 (l.foldl min x))∧Drawn0 w w':=by
  obtain ⟨ad,rfl,h0⟩:=Kd.at_int hr0 0 (by omega) (by simp)
  obtain ⟨_,_,_,_,hsp⟩:=World.shape?_of_cell? h0
  obtain ⟨b,off,sp⟩:=ad
  obtain rfl:sp=none:=hsp
  have hmax:(x :: l).length≤9223372036854775807:=by have:=hr0.2.1;omega
  refine (Tryd.slices_Min_int b off (x :: l).length c0 (x :: l) w (by simp) (Nat.le_refl _) hmax (fun j hj=>?_)).mono ?_
  · obtain ⟨ad',e',h1⟩:=Kd.at_int hr0 (j:Int) (by omega) (by omega)
    injection e' with e'
    subst e'
    rw [Int.toNat_natCast,Addr.add_lit] at h1
    exact h1
  · rintro e w' ⟨rfl,rfl⟩
    refine ⟨?_,Drawn0.refl _⟩
    rw [List.take_length]
    simp [Go.Lib.minOf,Int.min_self]
end Go.Proofs.YtnkkdpjipfjdaaaDoor.Ix

end
section
namespace Go.Proofs.YtnkkdpjipfjdaaaDoor.Ix
open Go.RowKit Go.Proofs.YtnkkdpjipfjdaaaDoorW.PrintWords Go.Proofs.YtnkkdpjipfjdaaaDoorW.PrintLast Go.Proofs.YtnkkdpjipfjdaaaDoorW.PrintMore Go.Proofs.YtnkkdpjipfjdaaaDoorM
set_option linter.unusedVariables false
set_option linter.unusedSimpArgs false
theorem below_drew0 {w w1:World} (m:Nat) (h:Below (w.drewN m).heap.size (w.drewN m) w1):Below w.heap.size w w1:=⟨h.os,h.tape,h.output,h.size,h.block⟩
set_option maxHeartbeats 8000000 in
set_option maxRecDepth 1000000 in
theorem with_hit (A0:Option Addr) (c0:Nat) (l0:List Int) (a1 r1:Int) (w:World)
    (hbs:Calls Tryd.prog 55 #[.slice A0 l0.length c0,.int .i64 a1] w fun e w'=>e=.returned (.tuple #[.int .i64 r1,.bool true])∧Drawn0 w w')
    (hcl:∀ m,Calls Tryd.prog 53 #[.slice A0 l0.length c0] (w.drewN m) fun e w'=>∃ v0_:Value,e=.returned v0_∧Kd.R (Kd.int .i64) 3 w' (w.drewN m).heap.size (fun _=>True) v0_ l0∧Below (w.drewN m).heap.size (w.drewN m) w') :
    Calls Tryd.prog 45 #[.slice A0 l0.length c0,.int .i64 a1] w fun e w'=>∃ v0_:Value,e=.returned v0_∧Kd.R (Kd.int .i64) 3 w' w.heap.size (fun _=>True) v0_ l0∧Below w.heap.size w w':=by
  have HX:=zN.mk hbs
  have HC:=zN.mk hcl
  clear hbs hcl
  go_enter Tryd.func45,Tryd.ntmps45
  go_wp2_with (first|((with_reducible refine HX.out.mono ?_);rintro e w1 ⟨rfl,⟨nd,rfl⟩⟩)|((with_reducible refine (HC.out _).mono ?_);rintro e w2 ⟨v2,rfl,hR,hB⟩;have HR2:=zN.mk hR;have HB2:=zN.mk hB;clear hR hB))
  go_ret
  exact ⟨_,rfl,HR2.out,below_drew0 _ HB2.out⟩
set_option maxHeartbeats 8000000 in
set_option maxRecDepth 1000000 in
theorem with_miss (A0:Option Addr) (c0:Nat) (l0:List Int) (a1:Int) (i:Nat) (hi:i≤l0.length) (hlim:l0.length < 17592186044416) (w:World)
    (hbs:Calls Tryd.prog 55 #[.slice A0 l0.length c0,.int .i64 a1] w fun e w'=>e=.returned (.tuple #[.int .i64 (i:Int),.bool false])∧Drawn0 w w')
    (hcl:∀ m,Calls Tryd.prog 53 #[.slice A0 l0.length c0] (w.drewN m) fun e w'=>∃ v0_:Value,e=.returned v0_∧Kd.R (Kd.int .i64) 3 w' (w.drewN m).heap.size (fun _=>True) v0_ l0∧Below (w.drewN m).heap.size (w.drewN m) w') :
    Calls Tryd.prog 45 #[.slice A0 l0.length c0,.int .i64 a1] w fun e w'=>∃ v0_:Value,e=.returned v0_∧Kd.R (Kd.int .i64) 3 w' w.heap.size (fun _=>True) v0_ (l0.take i ++ a1 :: l0.drop i)∧Below w.heap.size w w':=by
  have HX:=zN.mk hbs
  have HC:=zN.mk hcl
  have HI:=zN.mk hi
  have HL:=zN.mk hlim
  clear hbs hcl hi hlim
  go_enter Tryd.func45,Tryd.ntmps45
  go_wp2_with (first
    |((with_reducible refine HX.out.mono ?_);rintro e w1 ⟨rfl,⟨nd,rfl⟩⟩)
    |((with_reducible refine (HC.out _).mono ?_);rintro e w2 ⟨v2,rfl,hR,hB⟩;have HR2:=zN.mk hR;have HB2:=zN.mk (below_drew0 _ hB);have HI3:=zN.mk (ins_any w (w2.alloc (.cells #[.int .i64 a1] 3)) v2 w2.heap.size 1 #[.int .i64 a1] a1 i l0.length l0 (zG HB2.out _) (Kd.own_of_R (Kd.zR HR2.out _)) rfl HI.out HL.out (blk_new w2 _) rfl (fun h=>absurd (own_lt (Kd.own_of_R HR2.out) _ h) (Nat.lt_irrefl _)));clear hR hB)
    |((with_reducible refine HI3.out.mono ?_);rintro e w4 ⟨v4,rfl,hR,hB⟩;have HR4:=zN.mk hR;have HB4:=zN.mk hB;clear hR hB))
  go_ret
  refine ⟨_,rfl,Kd.R_of_own (h1:=fun _=>rfl) ?_ (fun _ _=>trivial),HB4.out⟩
  have h:=HR4.out
  have hlen:(l0.take i ++ a1 :: l0.drop i).length=l0.length + 1:=by have:=HI.out;simp;omega
  rw [hlen]
  exact h
end Go.Proofs.YtnkkdpjipfjdaaaDoor.Ix

end
section
namespace Go.Proofs.YtnkkdpjipfjdaaaDoor.Ix
open Go.RowKit Go.Proofs.YtnkkdpjipfjdaaaDoorW.PrintWords Go.Proofs.YtnkkdpjipfjdaaaDoorW.PrintLast Go.Proofs.YtnkkdpjipfjdaaaDoorW.PrintMore Go.Proofs.YtnkkdpjipfjdaaaDoorM
set_option linter.unusedVariables false
set_option linter.unusedSimpArgs false
def sigNames:List ByteArray:=[(⟨#[]⟩:ByteArray),(⟨#[72,85,80]⟩:ByteArray),(⟨#[73,78,84]⟩:ByteArray),(⟨#[81,85,73,84]⟩:ByteArray),(⟨#[84,84,73,78]⟩:ByteArray),(⟨#[84,84,79,85]⟩:ByteArray),(⟨#[]⟩:ByteArray),(⟨#[]⟩:ByteArray),(⟨#[]⟩:ByteArray),(⟨#[75,73,76,76]⟩:ByteArray),(⟨#[85,83,82,49]⟩:ByteArray),(⟨#[]⟩:ByteArray),(⟨#[85,83,82,50]⟩:ByteArray),(⟨#[80,73,80,69]⟩:ByteArray),(⟨#[65,76,82,77]⟩:ByteArray),(⟨#[84,69,82,77]⟩:ByteArray),(⟨#[]⟩:ByteArray),(⟨#[67,72,76,68]⟩:ByteArray),(⟨#[67,79,78,84]⟩:ByteArray),(⟨#[83,84,79,80]⟩:ByteArray),(⟨#[84,83,84,80]⟩:ByteArray)]
def sigName (n:Int):ByteArray:=if 0≤n then sigNames.getD n.toNat ⟨#[]⟩ else ⟨#[]⟩
set_option maxHeartbeats 8000000 in
set_option maxRecDepth 1000000 in
theorem name_any (a0:Int) (w:World):Calls Tryd.prog 13 #[.int .i64 a0] w fun e w'=>e=.returned (.string (sigName a0))∧Below w.heap.size w w':=by
  by_cases c1:a0 < 0
  · have hr:sigName a0=⟨#[]⟩:=by unfold sigName;rw [if_neg (by omega)]
    rw [hr]
    clear hr
    go_enter Tryd.func13,Tryd.ntmps13
    go_wp2_with (first|((with_reducible refine yT (N:=3) rfl ?_);refine box2_event 53 ?hg ?hg2 (N:=3) ?hd ?hd2 (.tmp 4) ?ho2 (cs0:=#[.string ⟨#[]⟩,.string ⟨#[]⟩,.string ⟨#[]⟩,.string ⟨#[]⟩,.string ⟨#[]⟩,.string ⟨#[]⟩,.string ⟨#[]⟩,.string ⟨#[]⟩,.string ⟨#[]⟩,.string ⟨#[]⟩,.string ⟨#[]⟩,.string ⟨#[]⟩,.string ⟨#[]⟩,.string ⟨#[]⟩,.string ⟨#[]⟩,.string ⟨#[]⟩,.string ⟨#[]⟩,.string ⟨#[]⟩,.string ⟨#[]⟩,.string ⟨#[]⟩,.string ⟨#[]⟩]) (cs:=#[.string ⟨#[]⟩,.string ⟨#[72,85,80]⟩,.string ⟨#[73,78,84]⟩,.string ⟨#[81,85,73,84]⟩,.string ⟨#[84,84,73,78]⟩,.string ⟨#[84,84,79,85]⟩,.string ⟨#[]⟩,.string ⟨#[]⟩,.string ⟨#[]⟩,.string ⟨#[75,73,76,76]⟩,.string ⟨#[85,83,82,49]⟩,.string ⟨#[]⟩,.string ⟨#[85,83,82,50]⟩,.string ⟨#[80,73,80,69]⟩,.string ⟨#[65,76,82,77]⟩,.string ⟨#[84,69,82,77]⟩,.string ⟨#[]⟩,.string ⟨#[67,72,76,68]⟩,.string ⟨#[67,79,78,84]⟩,.string ⟨#[83,84,79,80]⟩,.string ⟨#[84,83,84,80]⟩]) ?hr ?hi ?hs ?h1 ?hp ?hv ?_;(case hd=>rfl);(case hd2=>rfl);(case hg=>rfl);(case hg2=>rfl);(case ho2=>rfl);(case hr=>first|(go_simp;done)|(go_simp;rfl));(case hi=>kernel_rfl);(case hs=>rfl);(case h1=>rfl);(case hp=>intro v_;rfl);(case hv=>intro v_;rfl);intro g hgs w3 hh hb3;have HH:=zN.mk hh;have HB3:=zN.mk hb3;clear hh hb3))
    go_ret
    exact ⟨rfl,HB3.out⟩
  · by_cases c2:a0 > 20
    · have hr:sigName a0=⟨#[]⟩:=by
        unfold sigName
        rw [if_pos (by omega)]
        have:sigNames.length≤a0.toNat:=by show 21≤_;omega
        rw [List.getD_eq_getElem?_getD,List.getElem?_eq_none this]
        rfl
      rw [hr]
      clear hr
      go_enter Tryd.func13,Tryd.ntmps13
      go_wp2_with (first|((with_reducible refine yT (N:=3) rfl ?_);refine box2_event 53 ?hg ?hg2 (N:=3) ?hd ?hd2 (.tmp 4) ?ho2 (cs0:=#[.string ⟨#[]⟩,.string ⟨#[]⟩,.string ⟨#[]⟩,.string ⟨#[]⟩,.string ⟨#[]⟩,.string ⟨#[]⟩,.string ⟨#[]⟩,.string ⟨#[]⟩,.string ⟨#[]⟩,.string ⟨#[]⟩,.string ⟨#[]⟩,.string ⟨#[]⟩,.string ⟨#[]⟩,.string ⟨#[]⟩,.string ⟨#[]⟩,.string ⟨#[]⟩,.string ⟨#[]⟩,.string ⟨#[]⟩,.string ⟨#[]⟩,.string ⟨#[]⟩,.string ⟨#[]⟩]) (cs:=#[.string ⟨#[]⟩,.string ⟨#[72,85,80]⟩,.string ⟨#[73,78,84]⟩,.string ⟨#[81,85,73,84]⟩,.string ⟨#[84,84,73,78]⟩,.string ⟨#[84,84,79,85]⟩,.string ⟨#[]⟩,.string ⟨#[]⟩,.string ⟨#[]⟩,.string ⟨#[75,73,76,76]⟩,.string ⟨#[85,83,82,49]⟩,.string ⟨#[]⟩,.string ⟨#[85,83,82,50]⟩,.string ⟨#[80,73,80,69]⟩,.string ⟨#[65,76,82,77]⟩,.string ⟨#[84,69,82,77]⟩,.string ⟨#[]⟩,.string ⟨#[67,72,76,68]⟩,.string ⟨#[67,79,78,84]⟩,.string ⟨#[83,84,79,80]⟩,.string ⟨#[84,83,84,80]⟩]) ?hr ?hi ?hs ?h1 ?hp ?hv ?_;(case hd=>rfl);(case hd2=>rfl);(case hg=>rfl);(case hg2=>rfl);(case ho2=>rfl);(case hr=>first|(go_simp;done)|(go_simp;rfl));(case hi=>kernel_rfl);(case hs=>rfl);(case h1=>rfl);(case hp=>intro v_;rfl);(case hv=>intro v_;rfl);intro g hgs w3 hh hb3;have HH:=zN.mk hh;have HB3:=zN.mk hb3;clear hh hb3))
      go_ret
      exact ⟨rfl,HB3.out⟩
    · obtain ⟨k,rfl⟩:=Int.eq_ofNat_of_zero_le (a:=a0) (by omega)
      have hk:k < 21:=by omega
      have c3:(k:Int) < 21:=by omega
      have hr:sigName (k:Int)=sigNames.getD k ⟨#[]⟩:=by unfold sigName;rw [if_pos (by omega),Int.toNat_natCast]
      rw [hr]
      obtain ⟨s,hs⟩:∃ s,s=sigNames.getD k ⟨#[]⟩:=⟨_,rfl⟩
      rw [← hs]
      have HS:=zN.mk hs
      have HK:=zN.mk hk
      clear hr hs
      go_enter Tryd.func13,Tryd.ntmps13
      go_wp2_with (first|(((with_reducible refine yT (N:=3) rfl ?_);refine box2_event 53 ?hg ?hg2 (N:=3) ?hd ?hd2 (.tmp 4) ?ho2 (cs0:=#[.string ⟨#[]⟩,.string ⟨#[]⟩,.string ⟨#[]⟩,.string ⟨#[]⟩,.string ⟨#[]⟩,.string ⟨#[]⟩,.string ⟨#[]⟩,.string ⟨#[]⟩,.string ⟨#[]⟩,.string ⟨#[]⟩,.string ⟨#[]⟩,.string ⟨#[]⟩,.string ⟨#[]⟩,.string ⟨#[]⟩,.string ⟨#[]⟩,.string ⟨#[]⟩,.string ⟨#[]⟩,.string ⟨#[]⟩,.string ⟨#[]⟩,.string ⟨#[]⟩,.string ⟨#[]⟩]) (cs:=#[.string ⟨#[]⟩,.string ⟨#[72,85,80]⟩,.string ⟨#[73,78,84]⟩,.string ⟨#[81,85,73,84]⟩,.string ⟨#[84,84,73,78]⟩,.string ⟨#[84,84,79,85]⟩,.string ⟨#[]⟩,.string ⟨#[]⟩,.string ⟨#[]⟩,.string ⟨#[75,73,76,76]⟩,.string ⟨#[85,83,82,49]⟩,.string ⟨#[]⟩,.string ⟨#[85,83,82,50]⟩,.string ⟨#[80,73,80,69]⟩,.string ⟨#[65,76,82,77]⟩,.string ⟨#[84,69,82,77]⟩,.string ⟨#[]⟩,.string ⟨#[67,72,76,68]⟩,.string ⟨#[67,79,78,84]⟩,.string ⟨#[83,84,79,80]⟩,.string ⟨#[84,83,84,80]⟩]) ?hr ?hi ?hs ?h1 ?hp ?hv ?_;(case hd=>rfl);(case hd2=>rfl);(case hg=>rfl);(case hg2=>rfl);(case ho2=>rfl);(case hr=>first|(go_simp;done)|(go_simp;rfl));(case hi=>kernel_rfl);(case hs=>rfl);(case h1=>rfl);(case hp=>intro v_;rfl);(case hv=>intro v_;rfl);intro g hgs w3 hh hb3;have HH:=zN.mk hh;have HB3:=zN.mk hb3;have hc:w3.cell? ⟨g,k,none⟩=some (.string s):=(by
        have hk2:=HK.out
        rw [zJ HH.out,HS.out]
        clear HS HB3 HH hgs
        rcases (by omega:k=0∨k=1∨k=2∨k=3∨k=4∨k=5∨k=6∨k=7∨k=8∨k=9∨k=10∨k=11∨k=12∨k=13∨k=14∨k=15∨k=16∨k=17∨k=18∨k=19∨k=20) with h|h|h|h|h|h|h|h|h|h|h|h|h|h|h|h|h|h|h|h|h <;> subst h <;> rfl);clear hh hb3 hgs)))
      go_ret
      exact ⟨rfl,HB3.out⟩
end Go.Proofs.YtnkkdpjipfjdaaaDoor.Ix

end
section

namespace Go.Proofs.YtnkkdpjipfjdaaaDoor.Q
open Go.RowKit Go.Proofs.YtnkkdpjipfjdaaaDoorW.PrintWords Go.Proofs.YtnkkdpjipfjdaaaDoorW.PrintLast Go.Proofs.YtnkkdpjipfjdaaaDoorW.PrintMore Go.Proofs.YtnkkdpjipfjdaaaDoorM
open Kd
attribute [local go_sem] max2_int min2_int max_two min_two max_three min_three max_four min_four
set_option linter.unusedVariables false
set_option linter.unusedSimpArgs false
def errW:Option Int→Value
 |none=>.nilIface
 |some c=>.iface 0 (.int .i64 c)
theorem errW_none:errW none=.nilIface:=rfl
theorem errW_some (c:Int):errW (some c)=.iface 0 (.int .i64 c):=rfl
theorem info3:(Tryd.prog.info? 3).map (fun i=>(i.zero,i.size,i.bytes))=some (some (.int .i64 0),1,8):=by kernel_rfl
structure S51 where
 f0:Int
 f1:Int
 f2:Int
def z51:S51:=⟨(0:Int),(0:Int),(0:Int)⟩
def k51:Kd S51:=Kd.iso (Kd.pair (Kd.int .i64) (Kd.pair (Kd.int .i64) (Kd.int .i64))) (fun x:S51=>(x.f0,x.f1,x.f2))
theorem k51_heap:Kd.Heap k51:=Kd.heap_iso _ (Kd.heap_pair (Kd.heap_int .i64) (Kd.heap_pair (Kd.heap_int .i64) (Kd.heap_int .i64)))
theorem k51_open {w:World} {x:S51} {cs:List Value} (h:k51.K w x cs):cs=[.int .i64 x.f0,.int .i64 x.f1,.int .i64 x.f2]:=by
 obtain ⟨_,_,rfl,rfl,⟨_,_,rfl,rfl,rfl⟩⟩:=h
 exact rfl
theorem k51_openM {w:World} {base:Nat} {ok:Nat→Prop} {x:S51} {cs:List Value} (h:k51.M w base ok x cs):cs=[.int .i64 x.f0,.int .i64 x.f1,.int .i64 x.f2]:=by
 obtain ⟨_,_,rfl,rfl,⟨_,_,rfl,rfl,rfl⟩⟩:=h
 exact rfl
theorem k51_mk (w:World) (x:S51)  : k51.K w x [.int .i64 x.f0,.int .i64 x.f1,.int .i64 x.f2]:=⟨[.int .i64 x.f0],[.int .i64 x.f1,.int .i64 x.f2],rfl,rfl,⟨[.int .i64 x.f1],[.int .i64 x.f2],rfl,rfl,rfl⟩⟩
theorem k51_mkM (w:World) (base:Nat) (ok:Nat→Prop) (x:S51)  : k51.M w base ok x [.int .i64 x.f0,.int .i64 x.f1,.int .i64 x.f2]:=⟨[.int .i64 x.f0],[.int .i64 x.f1,.int .i64 x.f2],rfl,rfl,⟨[.int .i64 x.f1],[.int .i64 x.f2],rfl,rfl,rfl⟩⟩
theorem k51_mkF (W:World) (ok:Nat→Prop) (x:S51):Kd.FK k51 W ok x [.int .i64 x.f0,.int .i64 x.f1,.int .i64 x.f2]:=fun W2 _=>k51_mk W2 x
def rd_T51 (xs:List S51) (i:Int):S51:=xs.getD i.toNat z51
theorem at_T51 {w:World} {A:Option Addr} {n:Nat} {xs:List S51} (h:Kd.C k51 w A n xs) (i:Int) (h0:0≤i) (h1:i < n):∃ ad,A=some ad∧w.cell? (ad.add (i.toNat * 3))=some (.int .i64 (rd_T51 xs i).f0)∧w.cell? ⟨(ad.add (i.toNat * 3)).block,(ad.add (i.toNat * 3)).off + 1,none⟩=some (.int .i64 (rd_T51 xs i).f1)∧w.cell? ⟨(ad.add (i.toNat * 3)).block,(ad.add (i.toNat * 3)).off + 2,none⟩=some (.int .i64 (rd_T51 xs i).f2):=by
 obtain ⟨ad,c,e,_,hK,hc0⟩:=C_get h z51 i h0 h1
 have hc:∀ j u,c[j]?=some u→w.cell? (ad.add (i.toNat * 3 + j))=some u:=hc0
 obtain rfl:=k51_open hK
 exact ⟨ad,e,hc 0 _ rfl,by rw [← add_field _ _ 1 (by omega)];exact hc 1 _ rfl,by rw [← add_field _ _ 2 (by omega)];exact hc 2 _ rfl⟩
end Go.Proofs.YtnkkdpjipfjdaaaDoor.Q
end
section

namespace Go.Proofs.YtnkkdpjipfjdaaaDoor.Q
open Go.RowKit Go.Proofs.YtnkkdpjipfjdaaaDoorW.PrintWords Go.Proofs.YtnkkdpjipfjdaaaDoorW.PrintLast Go.Proofs.YtnkkdpjipfjdaaaDoorW.PrintMore Go.Proofs.YtnkkdpjipfjdaaaDoorM
open Kd
attribute [local go_sem] max2_int min2_int max_two min_two max_three min_three max_four min_four
set_option linter.unusedVariables false
set_option linter.unusedSimpArgs false
def signal_Name.f (a0:Int):Option ByteArray:=some (Go.Proofs.YtnkkdpjipfjdaaaDoor.Ix.sigName a0)
theorem signal_Name.calls (a0:Int) (r:ByteArray) (w:World) (h:signal_Name.f a0=some r) :
  Calls Tryd.prog 13 #[.int .i64 a0] w fun e w'=>e=.returned (.string r)∧Below w.heap.size w w':=by
 obtain rfl:=Option.some.inj h
 exact Go.Proofs.YtnkkdpjipfjdaaaDoor.Ix.name_any a0 w
def strconv_Itoa_33.f (a0:Int):Option ByteArray:=if 0≤a0∧a0 < 100 then some ⟨(Go.Lib.decDigits a0.toNat).toArray⟩ else none
theorem strconv_Itoa_33.calls (a0:Int) (r:ByteArray) (w:World) (h:strconv_Itoa_33.f a0=some r) :
  Calls Tryd.prog 33 #[.int .i64 a0] w fun e w'=>e=.returned (.string r)∧Drawn0 w w':=by
 unfold strconv_Itoa_33.f at h
 by_cases hc:0≤a0∧a0 < 100
 ·rw [if_pos hc] at h
  obtain rfl:=Option.some.inj h
  obtain ⟨i,rfl⟩:=Int.eq_ofNat_of_zero_le hc.1
  refine (Go.Proofs.Tryd.strconv_Itoa_small i (by omega) w).mono ?_
  rintro e w' ⟨he,rfl⟩
  exact ⟨he,Drawn0.refl _⟩
 ·rw [if_neg hc] at h;cases h
def signal_Number.l0:Nat→ByteArray→Int→Option (Int × Bool)
 |0,_,_=>none
 |k + 1,x0,x4=>if x4≤20 then ((signal_Name.f x4).bind fun t101=>(if t101.toList=([]:List UInt8) then (signal_Number.l0 k x0 (wrap64 (x4 + 1))) else (if x0.toList=t101.toList then (some (x4,true)) else ((strconv_Itoa_33.f x4).bind fun t102=>(if x0.toList=t102.toList then (some (x4,true)) else (signal_Number.l0 k x0 (wrap64 (x4 + 1)))))))) else (some (0,false))
def signal_Number.f (k:Nat) (a0:ByteArray):Option (Int × Bool):=signal_Number.l0 k a0 1
theorem signal_Number.mono_l:∀ k,(∀ y0 y1,LeO (signal_Number.l0 k y0 y1) (signal_Number.l0 (k + 1) y0 y1))
 |0=>fun _ _ r h=>by simp [signal_Number.l0] at h
 |k + 1=>by
  have ih0:=signal_Number.mono_l k
  ·intro y0 y1
   unfold signal_Number.l0
   repeat' first
   |(with_reducible exact ih0 _ _)
   |(with_reducible exact LeO.refl _)
   |(with_reducible exact LeO.none _)
   |(with_reducible refine LeO.ite ?_ ?_)
   |(with_reducible refine LeO.bind ?_ (fun _=>?_))
   |exact ih0 _ _
   |exact LeO.none _
   |refine LeO.ite ?_ ?_
   |refine LeO.bind ?_ (fun _=>?_)
theorem signal_Number.mono:∀ a0 k,LeO (signal_Number.f k a0) (signal_Number.f (k + 1) a0):=by
 intro a0 k
 have ih0:=signal_Number.mono_l k
 unfold signal_Number.f
 repeat' first
   |(with_reducible exact ih0 _ _)
   |(with_reducible exact LeO.refl _)
   |(with_reducible exact LeO.none _)
   |(with_reducible refine LeO.ite ?_ ?_)
   |(with_reducible refine LeO.bind ?_ (fun _=>?_))
   |exact ih0 _ _
   |exact LeO.none _
   |refine LeO.ite ?_ ?_
   |refine LeO.bind ?_ (fun _=>?_)
set_option maxHeartbeats 8000000 in
set_option maxRecDepth 10000000 in
theorem signal_Number.calls (k:Nat) (a0:ByteArray) (r1:Int) (r2:Bool) (w:World) (h:signal_Number.f k a0=some (r1,r2)) :
  Calls Tryd.prog 11 #[.string a0] w fun e w'=>e=.returned (.tuple #[.int .i64 r1,.bool r2])∧Below w.heap.size w w':=by
 have HB:=Zk (Below.refl w.heap.size w)
 have H:(signal_Number.l0 k a0 1)=some (r1,r2):=h
 clear h
 have H':=Zk H
 clear H
 go_enter Tryd.func11,Tryd.ntmps11
 go_wp2
 go_loopg [4] k (fun kq v4 w'=>∃ (x4_1:Int),v4=.int .i64 x4_1∧zN (signal_Number.l0 kq a0 x4_1=some (r1,r2))∧zN (kq≤k)∧zN (Below w.heap.size w w'))
 case atStart=>exact ⟨(1),(by first|rfl|(simp;done)|(simp [*];done)|(generalize ByteArray.toList _=l_;cases l_ <;> rfl)),H',⟨Nat.le_refl _⟩,⟨by repeat (first|(with_reducible first|exact HB.out|apply zG|apply zD|apply zH)|exact HB.out)⟩⟩
 case round=>
  clear H'
  try clear c1
  obtain ⟨x4_1,rfl,HA,HK1,HB⟩:=hrel
  cases gk with
  |zero=>exact absurd HA.out (by simp [signal_Number.l0])
  |succ k1=>
   have H:=HA.out
   clear HA
   simp only [signal_Number.l0] at H
   by_cases c2:x4_1≤20
   ·rw [if_pos c2] at H
    have c2b0:decide (x4_1≤20)=true:=decide_eq_true c2
    clear c2
    replace H:=Option.bind_eq_some_iff.mp H
    obtain ⟨t101,A30,H⟩:=H
    replace H:(if t101.toList=([]:List UInt8) then (signal_Number.l0 k1 a0 (wrap64 (x4_1 + 1))) else (if a0.toList=t101.toList then (some (x4_1,true)) else ((strconv_Itoa_33.f x4_1).bind fun t102=>(if a0.toList=t102.toList then (some (x4_1,true)) else (signal_Number.l0 k1 a0 (wrap64 (x4_1 + 1)))))))=some (r1,r2):=H
    have A3:=Zk A30
    clear A30
    by_cases c4:t101.toList=([]:List UInt8)
    ·rw [if_pos c4] at H
     have c4b0:(t101.toList == ([]:List UInt8))=true:=beq_iff_eq.mpr c4
     have c4b1:(t101.toList != ([]:List UInt8))=false:=bne_eq_false_iff_eq.mpr c4
     clear c4
     have H':=Zk H
     clear H
     go_wp2_with (first|((with_reducible refine yD (f:=13) rfl ?_);refine yM (some 11) rfl rfl Tryd.func13 (by kernel_rfl) rfl #[.int .i64 x4_1] rfl (by (try simp only [List.map_toArray,List.map_cons,List.map_nil]);first|done|rfl|(simp only [List.length_drop,List.length_take];rfl)) ?_;(with_reducible refine (signal_Name.calls x4_1 t101 _ A3.out).mono ?_);rintro e w5 ⟨rfl,hb⟩;refine ⟨_,rfl,?_⟩;have n0_:=Zk (yA (by repeat (first|(with_reducible first|exact HB.out|apply zG|apply zD|apply zH)|exact HB.out)) hb);clear HB;have HB:=n0_;clear n0_;(try clear hb);(try clear hb2);(try clear hk);(try clear hi)))
     go_roundg k1
     case measure=>have:=HK1.out;omega
     case rel=>exact ⟨(wrap64 (x4_1 + 1)),(by first|rfl|(simp;done)|(simp [*];done)|(generalize ByteArray.toList _=l_;cases l_ <;> rfl)),H',⟨by have:=HK1.out;omega⟩,⟨by repeat (first|(with_reducible first|exact HB.out|apply zG|apply zD|apply zH)|exact HB.out)⟩⟩
    ·rw [if_neg c4] at H
     have c4b0:(t101.toList == ([]:List UInt8))=false:=beq_eq_false_iff_ne.mpr c4
     have c4b1:(t101.toList != ([]:List UInt8))=true:=bne_iff_ne.mpr c4
     by_cases c6:a0.toList=t101.toList
     ·rw [if_pos c6] at H
      have c6b0:(a0.toList == t101.toList)=true:=beq_iff_eq.mpr c6
      have c6b1:(a0.toList != t101.toList)=false:=bne_eq_false_iff_eq.mpr c6
      clear c6
      simp only [Option.some.injEq,Prod.mk.injEq] at H
      obtain ⟨rfl,rfl⟩:=H
      go_wp2_with (first|((with_reducible refine yD (f:=13) rfl ?_);refine yM (some 11) rfl rfl Tryd.func13 (by kernel_rfl) rfl #[.int .i64 x4_1] rfl (by (try simp only [List.map_toArray,List.map_cons,List.map_nil]);first|done|rfl|(simp only [List.length_drop,List.length_take];rfl)) ?_;(with_reducible refine (signal_Name.calls x4_1 t101 _ A3.out).mono ?_);rintro e w7 ⟨rfl,hb⟩;refine ⟨_,rfl,?_⟩;have n0_:=Zk (yA (by repeat (first|(with_reducible first|exact HB.out|apply zG|apply zD|apply zH)|exact HB.out)) hb);clear HB;have HB:=n0_;clear n0_;(try clear hb);(try clear hb2);(try clear hk);(try clear hi)))
      go_ret2
      exact ⟨by first|rfl|(simp [errW_none,errW_some] <;> rfl)|(simp [*,errW_none,errW_some] <;> rfl),by repeat (first|(with_reducible first|exact HB.out|apply zG|apply zD|apply zH)|exact HB.out)⟩
     ·rw [if_neg c6] at H
      have c6b0:(a0.toList == t101.toList)=false:=beq_eq_false_iff_ne.mpr c6
      have c6b1:(a0.toList != t101.toList)=true:=bne_iff_ne.mpr c6
      replace H:=Option.bind_eq_some_iff.mp H
      obtain ⟨t102,A80,H⟩:=H
      replace H:(if a0.toList=t102.toList then (some (x4_1,true)) else (signal_Number.l0 k1 a0 (wrap64 (x4_1 + 1))))=some (r1,r2):=H
      have A8:=Zk A80
      clear A80
      by_cases c9:a0.toList=t102.toList
      ·rw [if_pos c9] at H
       have c9b0:(a0.toList == t102.toList)=true:=beq_iff_eq.mpr c9
       have c9b1:(a0.toList != t102.toList)=false:=bne_eq_false_iff_eq.mpr c9
       clear c9
       simp only [Option.some.injEq,Prod.mk.injEq] at H
       obtain ⟨rfl,rfl⟩:=H
       go_wp2_with (first|((with_reducible refine yD (f:=13) rfl ?_);refine yM (some 11) rfl rfl Tryd.func13 (by kernel_rfl) rfl #[.int .i64 x4_1] rfl (by (try simp only [List.map_toArray,List.map_cons,List.map_nil]);first|done|rfl|(simp only [List.length_drop,List.length_take];rfl)) ?_;(with_reducible refine (signal_Name.calls x4_1 t101 _ A3.out).mono ?_);rintro e w10 ⟨rfl,hb⟩;refine ⟨_,rfl,?_⟩;have n0_:=Zk (yA (by repeat (first|(with_reducible first|exact HB.out|apply zG|apply zD|apply zH)|exact HB.out)) hb);clear HB;have HB:=n0_;clear n0_;(try clear hb);(try clear hb2);(try clear hk);(try clear hi))|(go_at_call 33;(with_reducible refine (strconv_Itoa_33.calls x4_1 t102 _ A8.out).mono ?_);rintro e w' ⟨rfl,⟨nd,rfl⟩⟩))
       go_ret2
       exact ⟨by first|rfl|(simp [errW_none,errW_some] <;> rfl)|(simp [*,errW_none,errW_some] <;> rfl),by repeat (first|(with_reducible first|exact HB.out|apply zG|apply zD|apply zH)|exact HB.out)⟩
      ·rw [if_neg c9] at H
       have c9b0:(a0.toList == t102.toList)=false:=beq_eq_false_iff_ne.mpr c9
       have c9b1:(a0.toList != t102.toList)=true:=bne_iff_ne.mpr c9
       have H':=Zk H
       clear H
       go_wp2_with (first|((with_reducible refine yD (f:=13) rfl ?_);refine yM (some 11) rfl rfl Tryd.func13 (by kernel_rfl) rfl #[.int .i64 x4_1] rfl (by (try simp only [List.map_toArray,List.map_cons,List.map_nil]);first|done|rfl|(simp only [List.length_drop,List.length_take];rfl)) ?_;(with_reducible refine (signal_Name.calls x4_1 t101 _ A3.out).mono ?_);rintro e w11 ⟨rfl,hb⟩;refine ⟨_,rfl,?_⟩;have n0_:=Zk (yA (by repeat (first|(with_reducible first|exact HB.out|apply zG|apply zD|apply zH)|exact HB.out)) hb);clear HB;have HB:=n0_;clear n0_;(try clear hb);(try clear hb2);(try clear hk);(try clear hi))|(go_at_call 33;(with_reducible refine (strconv_Itoa_33.calls x4_1 t102 _ A8.out).mono ?_);rintro e w' ⟨rfl,⟨nd,rfl⟩⟩))
       go_roundg k1
       case measure=>have:=HK1.out;omega
       case rel=>exact ⟨(wrap64 (x4_1 + 1)),(by first|rfl|(simp;done)|(simp [*];done)|(generalize ByteArray.toList _=l_;cases l_ <;> rfl)),H',⟨by have:=HK1.out;omega⟩,⟨by repeat (first|(with_reducible first|exact HB.out|apply zG|apply zD|apply zH)|exact HB.out)⟩⟩
   ·rw [if_neg c2] at H
    have c2b0:decide (x4_1≤20)=false:=decide_eq_false c2
    clear c2
    simp only [Option.some.injEq,Prod.mk.injEq] at H
    obtain ⟨rfl,rfl⟩:=H
    go_wp2
    go_ret2
    exact ⟨by first|rfl|(simp [errW_none,errW_some] <;> rfl)|(simp [*,errW_none,errW_some] <;> rfl),by repeat (first|(with_reducible first|exact HB.out|apply zG|apply zD|apply zH)|exact HB.out)⟩
def signal_stops.f (a0:Int):Option (Bool):=if a0=19 then (some true) else (if a0=20 then (some true) else (if a0=4 then (some true) else (some (a0 == 5))))
set_option maxHeartbeats 8000000 in
set_option maxRecDepth 10000000 in
theorem signal_stops.calls (a0:Int) (r:Bool) (w:World) (h:signal_stops.f a0=some r) :
  Calls Tryd.prog 34 #[.int .i64 a0] w fun e w'=>e=.returned (.bool r)∧Drawn0 w w':=by
 have H:(if a0=19 then (some true) else (if a0=20 then (some true) else (if a0=4 then (some true) else (some (a0 == 5)))))=some r:=h
 clear h
 by_cases c2:a0=19
 ·rw [if_pos c2] at H
  have c2b0:(a0 == 19)=true:=beq_iff_eq.mpr c2
  have c2b1:(a0 != 19)=false:=bne_eq_false_iff_eq.mpr c2
  clear c2
  obtain rfl:=Option.some.inj H
  go_enter Tryd.func34,Tryd.ntmps34
  go_wp2
  go_ret
  exact ⟨by first|rfl|(simp;done)|(simp [*];done),by repeat (first|exact Drawn0.refl _|apply Drawn0.step)⟩
 ·rw [if_neg c2] at H
  have c2b0:(a0 == 19)=false:=beq_eq_false_iff_ne.mpr c2
  have c2b1:(a0 != 19)=true:=bne_iff_ne.mpr c2
  by_cases c3:a0=20
  ·rw [if_pos c3] at H
   have c3b0:(a0 == 20)=true:=beq_iff_eq.mpr c3
   have c3b1:(a0 != 20)=false:=bne_eq_false_iff_eq.mpr c3
   clear c3
   obtain rfl:=Option.some.inj H
   go_enter Tryd.func34,Tryd.ntmps34
   go_wp2
   go_ret
   exact ⟨by first|rfl|(simp;done)|(simp [*];done),by repeat (first|exact Drawn0.refl _|apply Drawn0.step)⟩
  ·rw [if_neg c3] at H
   have c3b0:(a0 == 20)=false:=beq_eq_false_iff_ne.mpr c3
   have c3b1:(a0 != 20)=true:=bne_iff_ne.mpr c3
   by_cases c4:a0=4
   ·rw [if_pos c4] at H
    have c4b0:(a0 == 4)=true:=beq_iff_eq.mpr c4
    have c4b1:(a0 != 4)=false:=bne_eq_false_iff_eq.mpr c4
    clear c4
    obtain rfl:=Option.some.inj H
    go_enter Tryd.func34,Tryd.ntmps34
    go_wp2
    go_ret
    exact ⟨by first|rfl|(simp;done)|(simp [*];done),by repeat (first|exact Drawn0.refl _|apply Drawn0.step)⟩
   ·rw [if_neg c4] at H
    have c4b0:(a0 == 4)=false:=beq_eq_false_iff_ne.mpr c4
    have c4b1:(a0 != 4)=true:=bne_iff_ne.mpr c4
    obtain rfl:=Option.some.inj H
    go_enter Tryd.func34,Tryd.ntmps34
    go_wp2
    go_ret
    exact ⟨by first|rfl|(simp;done)|(simp [*];done),by repeat (first|exact Drawn0.refl _|apply Drawn0.step)⟩
def signal_Default.f (a0:Int):Option (Int):=(signal_stops.f a0).bind fun t103=>(if t103=true then (some 2) else (if a0=18 then (some 3) else (if a0=17 then (some 0) else ((signal_Name.f a0).bind fun t104=>(if t104.toList=([]:List UInt8) then (some 0) else (some 1))))))
set_option maxHeartbeats 8000000 in
set_option maxRecDepth 10000000 in
theorem signal_Default.calls (a0:Int) (r:Int) (w:World) (h:signal_Default.f a0=some r) :
  Calls Tryd.prog 15 #[.int .i64 a0] w fun e w'=>e=.returned (.int .i64 r)∧Below w.heap.size w w':=by
 have HB:=Zk (Below.refl w.heap.size w)
 have H:((signal_stops.f a0).bind fun t103=>(if t103=true then (some 2) else (if a0=18 then (some 3) else (if a0=17 then (some 0) else ((signal_Name.f a0).bind fun t104=>(if t104.toList=([]:List UInt8) then (some 0) else (some 1)))))))=some r:=h
 clear h
 replace H:=Option.bind_eq_some_iff.mp H
 obtain ⟨t103,A20,H⟩:=H
 replace H:(if t103=true then (some 2) else (if a0=18 then (some 3) else (if a0=17 then (some 0) else ((signal_Name.f a0).bind fun t104=>(if t104.toList=([]:List UInt8) then (some 0) else (some 1))))))=some r:=H
 have A2:=Zk A20
 clear A20
 by_cases c3:t103=true
 ·subst c3
  have H1:(some 2)=some r:=by rw [if_pos rfl] at H;exact H
  clear H
  have H:=H1
  clear H1
  obtain rfl:=Option.some.inj H
  go_enter Tryd.func15,Tryd.ntmps15
  go_wp2_with (first|((with_reducible refine yD (f:=34) rfl ?_);refine yM (some 5) rfl rfl Tryd.func34 (by kernel_rfl) rfl #[.int .i64 a0] rfl (by (try simp only [List.map_toArray,List.map_cons,List.map_nil]);first|done|rfl|(simp only [List.length_drop,List.length_take];rfl)) ?_;(with_reducible refine (signal_stops.calls a0 true _ A2.out).mono ?_);rintro e w' ⟨rfl,⟨nd,rfl⟩⟩;refine ⟨_,rfl,?_⟩))
  go_ret
  exact ⟨by first|rfl|(simp [errW_none,errW_some] <;> rfl)|(simp [*,errW_none,errW_some] <;> rfl),by repeat (first|(with_reducible first|exact HB.out|apply zG|apply zD|apply zH)|exact HB.out)⟩
 ·replace c3:=Bool.eq_false_iff.mpr c3
  subst c3
  have H1:(if a0=18 then (some 3) else (if a0=17 then (some 0) else ((signal_Name.f a0).bind fun t104=>(if t104.toList=([]:List UInt8) then (some 0) else (some 1)))))=some r:=by rw [if_neg (show ¬ (false=true) by decide)] at H;exact H
  clear H
  have H:=H1
  clear H1
  by_cases c4:a0=18
  ·rw [if_pos c4] at H
   have c4b0:(a0 == 18)=true:=beq_iff_eq.mpr c4
   have c4b1:(a0 != 18)=false:=bne_eq_false_iff_eq.mpr c4
   clear c4
   obtain rfl:=Option.some.inj H
   go_enter Tryd.func15,Tryd.ntmps15
   go_wp2_with (first|((with_reducible refine yD (f:=34) rfl ?_);refine yM (some 5) rfl rfl Tryd.func34 (by kernel_rfl) rfl #[.int .i64 a0] rfl (by (try simp only [List.map_toArray,List.map_cons,List.map_nil]);first|done|rfl|(simp only [List.length_drop,List.length_take];rfl)) ?_;(with_reducible refine (signal_stops.calls a0 false _ A2.out).mono ?_);rintro e w' ⟨rfl,⟨nd,rfl⟩⟩;refine ⟨_,rfl,?_⟩))
   go_ret
   exact ⟨by first|rfl|(simp [errW_none,errW_some] <;> rfl)|(simp [*,errW_none,errW_some] <;> rfl),by repeat (first|(with_reducible first|exact HB.out|apply zG|apply zD|apply zH)|exact HB.out)⟩
  ·rw [if_neg c4] at H
   have c4b0:(a0 == 18)=false:=beq_eq_false_iff_ne.mpr c4
   have c4b1:(a0 != 18)=true:=bne_iff_ne.mpr c4
   by_cases c5:a0=17
   ·rw [if_pos c5] at H
    have c5b0:(a0 == 17)=true:=beq_iff_eq.mpr c5
    have c5b1:(a0 != 17)=false:=bne_eq_false_iff_eq.mpr c5
    clear c5
    obtain rfl:=Option.some.inj H
    go_enter Tryd.func15,Tryd.ntmps15
    go_wp2_with (first|((with_reducible refine yD (f:=34) rfl ?_);refine yM (some 5) rfl rfl Tryd.func34 (by kernel_rfl) rfl #[.int .i64 a0] rfl (by (try simp only [List.map_toArray,List.map_cons,List.map_nil]);first|done|rfl|(simp only [List.length_drop,List.length_take];rfl)) ?_;(with_reducible refine (signal_stops.calls a0 false _ A2.out).mono ?_);rintro e w' ⟨rfl,⟨nd,rfl⟩⟩;refine ⟨_,rfl,?_⟩))
    go_ret
    exact ⟨by first|rfl|(simp [errW_none,errW_some] <;> rfl)|(simp [*,errW_none,errW_some] <;> rfl),by repeat (first|(with_reducible first|exact HB.out|apply zG|apply zD|apply zH)|exact HB.out)⟩
   ·rw [if_neg c5] at H
    have c5b0:(a0 == 17)=false:=beq_eq_false_iff_ne.mpr c5
    have c5b1:(a0 != 17)=true:=bne_iff_ne.mpr c5
    replace H:=Option.bind_eq_some_iff.mp H
    obtain ⟨t104,A60,H⟩:=H
    replace H:(if t104.toList=([]:List UInt8) then (some 0) else (some 1))=some r:=H
    have A6:=Zk A60
    clear A60
    by_cases c7:t104.toList=([]:List UInt8)
    ·rw [if_pos c7] at H
     have c7b0:(t104.toList == ([]:List UInt8))=true:=beq_iff_eq.mpr c7
     have c7b1:(t104.toList != ([]:List UInt8))=false:=bne_eq_false_iff_eq.mpr c7
     clear c7
     obtain rfl:=Option.some.inj H
     go_enter Tryd.func15,Tryd.ntmps15
     go_wp2_with (first|((with_reducible refine yD (f:=34) rfl ?_);refine yM (some 5) rfl rfl Tryd.func34 (by kernel_rfl) rfl #[.int .i64 a0] rfl (by (try simp only [List.map_toArray,List.map_cons,List.map_nil]);first|done|rfl|(simp only [List.length_drop,List.length_take];rfl)) ?_;(with_reducible refine (signal_stops.calls a0 false _ A2.out).mono ?_);rintro e w' ⟨rfl,⟨nd,rfl⟩⟩;refine ⟨_,rfl,?_⟩)|(go_at_call 13;(with_reducible refine (signal_Name.calls a0 t104 _ A6.out).mono ?_);rintro e w8 ⟨rfl,hb⟩;have n0_:=Zk (yA (by repeat (first|(with_reducible first|exact HB.out|apply zG|apply zD|apply zH)|exact HB.out)) hb);clear HB;have HB:=n0_;clear n0_;(try clear hb);(try clear hb2);(try clear hk);(try clear hi)))
     go_ret
     exact ⟨by first|rfl|(simp [errW_none,errW_some] <;> rfl)|(simp [*,errW_none,errW_some] <;> rfl),by repeat (first|(with_reducible first|exact HB.out|apply zG|apply zD|apply zH)|exact HB.out)⟩
    ·rw [if_neg c7] at H
     have c7b0:(t104.toList == ([]:List UInt8))=false:=beq_eq_false_iff_ne.mpr c7
     have c7b1:(t104.toList != ([]:List UInt8))=true:=bne_iff_ne.mpr c7
     obtain rfl:=Option.some.inj H
     go_enter Tryd.func15,Tryd.ntmps15
     go_wp2_with (first|((with_reducible refine yD (f:=34) rfl ?_);refine yM (some 5) rfl rfl Tryd.func34 (by kernel_rfl) rfl #[.int .i64 a0] rfl (by (try simp only [List.map_toArray,List.map_cons,List.map_nil]);first|done|rfl|(simp only [List.length_drop,List.length_take];rfl)) ?_;(with_reducible refine (signal_stops.calls a0 false _ A2.out).mono ?_);rintro e w' ⟨rfl,⟨nd,rfl⟩⟩;refine ⟨_,rfl,?_⟩)|(go_at_call 13;(with_reducible refine (signal_Name.calls a0 t104 _ A6.out).mono ?_);rintro e w9 ⟨rfl,hb⟩;have n0_:=Zk (yA (by repeat (first|(with_reducible first|exact HB.out|apply zG|apply zD|apply zH)|exact HB.out)) hb);clear HB;have HB:=n0_;clear n0_;(try clear hb);(try clear hb2);(try clear hk);(try clear hi)))
     go_ret
     exact ⟨by first|rfl|(simp [errW_none,errW_some] <;> rfl)|(simp [*,errW_none,errW_some] <;> rfl),by repeat (first|(with_reducible first|exact HB.out|apply zG|apply zD|apply zH)|exact HB.out)⟩
def slices_Min_int_int.f (l0:List Int):Option Int:=match l0 with|[]=>none|x :: l=>some (l.foldl min x)
theorem slices_Min_int_int.calls (A0:Option Addr) (c0:Nat) (l0:List Int) (r:Int) (w:World) (hr0:Kd.C (Kd.int .i64) w A0 l0.length l0) (hc0:l0.length≤c0) (h:slices_Min_int_int.f l0=some r) :
  Calls Tryd.prog 37 #[.slice A0 l0.length c0] w fun e w'=>e=.returned (.int .i64 r)∧Drawn0 w w':=by
 cases l0 with
 |nil=>cases h
 |cons x l=>
  obtain rfl:=Option.some.inj h
  exact Go.Proofs.YtnkkdpjipfjdaaaDoor.Ix.min_any A0 c0 x l w hr0 hc0
def slices_Index_int_int.l0:Nat→List Int→Int→Int→Int→Option (Int)
 |0,_,_,_,_=>none
 |k + 1,x0,x1,x7,x8=>if x8 < x7 then (if 0≤x8 then (if x8 < (x0.length:Int) then (if x1=(rd x0 x8) then (some x8) else (slices_Index_int_int.l0 k x0 x1 x7 (wrap64 (x8 + 1)))) else (none)) else (none)) else (some (-1))
def slices_Index_int_int.f (k:Nat) (l0:List Int) (a1:Int):Option (Int):=slices_Index_int_int.l0 k l0 a1 (l0.length:Int) 0
theorem slices_Index_int_int.mono_l:∀ k,(∀ y0 y1 y2 y3,LeO (slices_Index_int_int.l0 k y0 y1 y2 y3) (slices_Index_int_int.l0 (k + 1) y0 y1 y2 y3))
 |0=>fun _ _ _ _ r h=>by simp [slices_Index_int_int.l0] at h
 |k + 1=>by
  have ih0:=slices_Index_int_int.mono_l k
  ·intro y0 y1 y2 y3
   unfold slices_Index_int_int.l0
   repeat' first
   |(with_reducible exact ih0 _ _ _ _)
   |(with_reducible exact LeO.refl _)
   |(with_reducible exact LeO.none _)
   |(with_reducible refine LeO.ite ?_ ?_)
   |(with_reducible refine LeO.bind ?_ (fun _=>?_))
   |exact ih0 _ _ _ _
   |exact LeO.none _
   |refine LeO.ite ?_ ?_
   |refine LeO.bind ?_ (fun _=>?_)
theorem slices_Index_int_int.mono:∀ a0 a1 k,LeO (slices_Index_int_int.f k a0 a1) (slices_Index_int_int.f (k + 1) a0 a1):=by
 intro a0 a1 k
 have ih0:=slices_Index_int_int.mono_l k
 unfold slices_Index_int_int.f
 repeat' first
   |(with_reducible exact ih0 _ _ _ _)
   |(with_reducible exact LeO.refl _)
   |(with_reducible exact LeO.none _)
   |(with_reducible refine LeO.ite ?_ ?_)
   |(with_reducible refine LeO.bind ?_ (fun _=>?_))
   |exact ih0 _ _ _ _
   |exact LeO.none _
   |refine LeO.ite ?_ ?_
   |refine LeO.bind ?_ (fun _=>?_)
set_option maxHeartbeats 8000000 in
set_option maxRecDepth 10000000 in
theorem slices_Index_int_int.calls (k:Nat) (A0:Option Addr) (c0:Nat) (l0:List Int) (a1:Int) (r:Int) (w:World) (hr0:Kd.C (Kd.int .i64) w A0 l0.length l0) (hc0:l0.length≤c0) (h:slices_Index_int_int.f k l0 a1=some r) :
  Calls Tryd.prog 52 #[.slice A0 l0.length c0,.int .i64 a1] w fun e w'=>e=.returned (.int .i64 r)∧Drawn0 w w':=by
 have HR0:=Zk hr0
 have HC0:=Zk hc0
 clear hr0 hc0
 have H:(slices_Index_int_int.l0 k l0 a1 (l0.length:Int) 0)=some r:=h
 clear h
 have H':=Zk H
 clear H
 go_enter Tryd.func52,Tryd.ntmps52
 go_wp2
 go_loopg [8] k (fun kq v8 w'=>∃ (x8_1:Int),v8=.int .i64 x8_1∧zN (slices_Index_int_int.l0 kq l0 a1 (l0.length:Int) x8_1=some r)∧zN (kq≤k)∧Drawn0 w w')
 case atStart=>exact ⟨(0),(by first|rfl|(simp;done)|(simp [*];done)|(generalize ByteArray.toList _=l_;cases l_ <;> rfl)),H',⟨Nat.le_refl _⟩,by repeat (first|exact Drawn0.refl _|apply Drawn0.step)⟩
 case round=>
  clear H'
  try clear p2
  obtain ⟨x8_1,rfl,HA,HK1,⟨m1,rfl⟩⟩:=hrel
  cases gk with
  |zero=>exact absurd HA.out (by simp [slices_Index_int_int.l0])
  |succ k1=>
   have H:=HA.out
   clear HA
   simp only [slices_Index_int_int.l0] at H
   by_cases c3:x8_1 < (l0.length:Int)
   ·rw [if_pos c3] at H
    have c3b0:decide (x8_1 < (l0.length:Int))=true:=decide_eq_true c3
    clear c3
    by_cases c4:0≤x8_1
    ·rw [if_pos c4] at H
     have c4b0:decide (0≤x8_1)=true:=decide_eq_true c4
     clear c4
     by_cases c5:x8_1 < (l0.length:Int)
     ·rw [if_pos c5] at H
      have c5b0:decide (x8_1 < (l0.length:Int))=true:=decide_eq_true c5
      clear c5
      by_cases c6:a1=(rd l0 x8_1)
      ·rw [if_pos c6] at H
       have c6b0:(a1 == (rd l0 x8_1))=true:=beq_iff_eq.mpr c6
       have c6b1:(a1 != (rd l0 x8_1))=false:=bne_eq_false_iff_eq.mpr c6
       clear c6
       obtain rfl:=Option.some.inj H
       have p105:0≤(x8_1:Int):=of_decide_eq_true (by first|(with_reducible assumption)|assumption)
       have q105:x8_1 < (l0.length:Int):=of_decide_eq_true (by first|(with_reducible assumption)|assumption)
       obtain ⟨ad105,e105,hx105_0⟩:=Kd.at_int HR0.out x8_1 p105 q105
       cases e105
       replace p105:=eq_true p105
       replace q105:=eq_true q105
       go_wp2
       go_ret
       exact ⟨by first|rfl|(simp;done)|(simp [*];done),by repeat (first|exact Drawn0.refl _|apply Drawn0.step)⟩
      ·rw [if_neg c6] at H
       have c6b0:(a1 == (rd l0 x8_1))=false:=beq_eq_false_iff_ne.mpr c6
       have c6b1:(a1 != (rd l0 x8_1))=true:=bne_iff_ne.mpr c6
       have H':=Zk H
       clear H
       have p105:0≤(x8_1:Int):=of_decide_eq_true (by first|(with_reducible assumption)|assumption)
       have q105:x8_1 < (l0.length:Int):=of_decide_eq_true (by first|(with_reducible assumption)|assumption)
       obtain ⟨ad105,e105,hx105_0⟩:=Kd.at_int HR0.out x8_1 p105 q105
       cases e105
       replace p105:=eq_true p105
       replace q105:=eq_true q105
       go_wp2
       go_roundg k1
       case measure=>have:=HK1.out;omega
       case rel=>exact ⟨(wrap64 (x8_1 + 1)),(by first|rfl|(simp;done)|(simp [*];done)|(generalize ByteArray.toList _=l_;cases l_ <;> rfl)),H',⟨by have:=HK1.out;omega⟩,by repeat (first|exact Drawn0.refl _|apply Drawn0.step)⟩
     ·rw [if_neg c5] at H
      exact absurd H (by simp)
    ·rw [if_neg c4] at H
     exact absurd H (by simp)
   ·rw [if_neg c3] at H
    have c3b0:decide (x8_1 < (l0.length:Int))=false:=decide_eq_false c3
    clear c3
    obtain rfl:=Option.some.inj H
    go_wp2
    go_ret
    exact ⟨by first|rfl|(simp;done)|(simp [*];done),by repeat (first|exact Drawn0.refl _|apply Drawn0.step)⟩
def slices_Contains_int_int.f (k:Nat) (l0:List Int) (a1:Int):Option (Bool):=(slices_Index_int_int.f k l0 a1).bind fun t106=>(some (decide (t106 ≥ 0)))
theorem slices_Contains_int_int.mono:∀ a0 a1 k,LeO (slices_Contains_int_int.f k a0 a1) (slices_Contains_int_int.f (k + 1) a0 a1):=by
 intro a0 a1 k
 unfold slices_Contains_int_int.f
 repeat' first
   |(with_reducible exact slices_Index_int_int.mono _ _ _)
   |(with_reducible exact LeO.refl _)
   |(with_reducible exact LeO.none _)
   |(with_reducible refine LeO.ite ?_ ?_)
   |(with_reducible refine LeO.bind ?_ (fun _=>?_))
   |exact slices_Index_int_int.mono _ _ _
   |exact LeO.none _
   |refine LeO.ite ?_ ?_
   |refine LeO.bind ?_ (fun _=>?_)
set_option maxHeartbeats 8000000 in
set_option maxRecDepth 10000000 in
theorem slices_Contains_int_int.calls (k:Nat) (A0:Option Addr) (c0:Nat) (l0:List Int) (a1:Int) (r:Bool) (w:World) (hr0:Kd.C (Kd.int .i64) w A0 l0.length l0) (hc0:l0.length≤c0) (h:slices_Contains_int_int.f k l0 a1=some r) :
  Calls Tryd.prog 38 #[.slice A0 l0.length c0,.int .i64 a1] w fun e w'=>e=.returned (.bool r)∧Drawn0 w w':=by
 have HR0:=Zk hr0
 have HC0:=Zk hc0
 clear hr0 hc0
 have H:((slices_Index_int_int.f k l0 a1).bind fun t106=>(some (decide (t106 ≥ 0))))=some r:=h
 clear h
 replace H:=Option.bind_eq_some_iff.mp H
 obtain ⟨t106,A30,H⟩:=H
 replace H:(some (decide (t106 ≥ 0)))=some r:=H
 have A3:=Zk A30
 clear A30
 obtain rfl:=Option.some.inj H
 go_enter Tryd.func38,Tryd.ntmps38
 go_wp2_with (first|((with_reducible refine yD (f:=52) rfl ?_);refine yM (some 7) rfl rfl Tryd.func52 (by kernel_rfl) rfl #[.slice A0 l0.length c0,.int .i64 a1] rfl (by (try simp only [List.map_toArray,List.map_cons,List.map_nil]);first|done|rfl|(simp only [List.length_drop,List.length_take];rfl)) ?_;(with_reducible refine (slices_Index_int_int.calls k _ _ l0 a1 t106 _ ?side1 ?side2 A3.out).mono ?_);(case side1=>repeat (first|exact HR0.out|(with_reducible refine yG ?_ _)|(with_reducible refine yF ?_ _)|(with_reducible refine yI ?_)));(case side2=>exact HC0.out);rintro e w' ⟨rfl,⟨nd,rfl⟩⟩;refine ⟨_,rfl,?_⟩))
 go_ret
 exact ⟨by first|rfl|(simp;done)|(simp [*];done),by repeat (first|exact Drawn0.refl _|apply Drawn0.step)⟩
def slices_Clone_int_int.f (l0:List Int):Option (List Int):=if l0.length < 17592186044416 then some l0 else none
set_option maxHeartbeats 8000000 in
set_option maxRecDepth 100000 in
theorem slices_Clone_int_int.calls (A0:Option Addr) (c0:Nat) (l0:List Int) (r:List Int) (w:World) (hr0:Kd.C (Kd.int .i64) w A0 l0.length l0) (hc0:l0.length≤c0) (h:slices_Clone_int_int.f l0=some r) :
  Calls Tryd.prog 53 #[.slice A0 l0.length c0] w fun e w'=>∃ v0_:Value,e=.returned (v0_)∧Kd.R (Kd.int .i64) 3 w' w.heap.size (fun _=>True) v0_ r∧Below w.heap.size w w':=by
 unfold slices_Clone_int_int.f at h
 by_cases c2:l0.length < 17592186044416
 ·rw [if_pos c2] at h
  obtain rfl:=Option.some.inj h
  clear h
  cases A0 with
  |none=>
   have hl:l0=[]:=by
    rcases l0 with _|⟨x,xs⟩
    ·rfl
    ·obtain ⟨ad,h1,_⟩:=hr0.2.2 (by simp)
     cases h1
   subst hl
   clear hr0 c2
   have heq:∀ W:World,(binOp .eql 28 (.slice none 0 c0) (.slice none 0 0)).run Tryd.prog W=.ok (.bool true) W:=fun W=>Lib.run_eql_slice_nil W 28 3 none _ _ _ _ Tryd.underlying28
   go_enter Tryd.func53,Tryd.ntmps53
   go_wp2
   go_ret
   exact ⟨_,rfl,R_nil _ _ _ _ _,Below.refl _ _⟩
  |some ad=>
   have HR0:=Zk hr0
   have HC0:=Zk hc0
   have LMc2:=Zk c2
   clear hr0 hc0 c2
   have HB:=Zk (Below.refl w.heap.size w)
   have heq:∀ W:World,(binOp .eql 28 (.slice (some ad) l0.length c0) (.slice none 0 0)).run Tryd.prog W=.ok (.bool false) W:=fun W=>Lib.run_eql_slice_nil W 28 3 (some ad) _ _ _ _ Tryd.underlying28
   go_enter Tryd.func53,Tryd.ntmps53
   go_wp2_with (first|((with_reducible refine yT (N:=5) rfl ?_);refine R_lit (Kd.int .i64) _ 3 ?hg (N:=5) ?hd (xs:=([]:List Int)) (inner:=[]) (ok:=fun _=>True) (okp:=fun _=>True) ?hr ?hp (fun _ hk=>hk) trivial (Below.refl _ _) (Nat.le_refl _) (by simp) ?_;(case hd=>rfl);(case hg=>rfl);(case hr=>first|(go_simp;done)|(go_simp;rfl));(case hp=>exact (Reps.none _ _));intro v111 w3 ho4 hb hg_ hnew_;clear hg_ hnew_;have n0_:=Zk (yU ho4 (zP (by repeat (first|(with_reducible first|exact HB.out|apply zG|apply zD|apply zH)|exact HB.out))));have n1_:=Zk (yA (by repeat (first|(with_reducible first|exact HB.out|apply zG|apply zD|apply zH)|exact HB.out)) hb);clear HB;have HO112:=n0_;have HB:=n1_;clear n0_ n1_;clear hb ho4)|((with_reducible refine gate_builtin (b:=.append) (xs:=#[.tmp 5,.tmp 6]) rfl ?_);at_builtin;refine R_append_rows (Kd.int .i64) (w0:=w) w.heap.size rfl (.tmp 5) (.tmp 6) 28 3 (.int .i64 0) 8 rfl Tryd.underlying28 info3 rfl (by decide) (by omega) v111 [] l0 _ _ _ (fun _=>True) (fun _=>False) rfl rfl ?aO ?aR (fun _ _ h=>h) (fun _ h=>h.elim) ?aF ?aB ?aS ?aL ?_;(case aR=>repeat (first|exact (yS HR0.out HB.out)|(with_reducible refine yG ?_ _)|(with_reducible refine yF ?_ _)|(with_reducible refine yI ?_)));(case aB=>exact (by repeat (first|(with_reducible first|exact HB.out|apply zG|apply zD|apply zH)|exact HB.out)));(case aF=>exact (fun _ _=>trivial));(case aO=>exact (by (with_reducible repeat (first|apply zR|apply zQ|apply zU));exact HO112.out));(case aS=>exact (zP (by repeat (first|(with_reducible first|exact HB.out|apply zG|apply zD|apply zH)|exact HB.out))));(case aL=>have:=LMc2.out;simp only [List.length_nil];omega);intro v114 w5 ho hb hg hat;rw [List.nil_append] at ho;have n0_:=Zk (hb);have n1_:=Zk (ho);clear HB;clear HO112;have HB:=n0_;have HO115:=n1_;clear n0_ n1_;clear ho hb hg hat))
   go_ret
   exact ⟨_,by first|rfl|(simp [errW_none,errW_some] <;> rfl)|(simp [*,errW_none,errW_some] <;> rfl),by (with_reducible repeat (first|apply zR|apply zQ|apply zU));exact HO115.out,(by repeat (first|(with_reducible first|exact HB.out|apply zG|apply zD|apply zH)|exact HB.out))⟩
 ·rw [if_neg c2] at h
  exact absurd h (by simp)
end Go.Proofs.YtnkkdpjipfjdaaaDoor.Q
end
section

namespace Go.Proofs.YtnkkdpjipfjdaaaDoor.Q
open Go.RowKit Go.Proofs.YtnkkdpjipfjdaaaDoorW.PrintWords Go.Proofs.YtnkkdpjipfjdaaaDoorW.PrintLast Go.Proofs.YtnkkdpjipfjdaaaDoorW.PrintMore Go.Proofs.YtnkkdpjipfjdaaaDoorM
open Kd
attribute [local go_sem] max2_int min2_int max_two min_two max_three min_three max_four min_four
set_option linter.unusedVariables false
set_option linter.unusedSimpArgs false
def signal_copied.f (l0_0:List Int) (l0_1:List Int) (l0_2:List Int):Option (List Int × List Int × List Int):=(slices_Clone_int_int.f l0_0).bind fun t109=>((slices_Clone_int_int.f l0_1).bind fun t112=>((slices_Clone_int_int.f l0_2).bind fun t115=>(some (t109,t112,t115))))
def signal_copied.T1:Bool × List (List Nat × List Nat):=(true,[([],[]),([0],[0]),([1],[1]),([],[]),([3],[3]),([4,2],[4]),([],[]),([6],[6]),([7,5],[7]),([2,5,8],[2,5,8]),([9,8,0,1,2,3,4,5,6,7,8,9],[9])])
def signal_copied.B1:List Nat:=[0,1,3,0,8,31,0,64,255,511,1023]
theorem signal_copied.tab1:rtab .any (opsOf Tryd.f39 1)=signal_copied.T1:=by kernel_rfl
theorem signal_copied.bits1:waitsOk signal_copied.T1.2 signal_copied.B1=true:=by kernel_rfl
set_option maxHeartbeats 8000000 in
set_option maxRecDepth 10000000 in
theorem signal_copied.calls (A0_0:Option Addr) (c0_0:Nat) (l0_0:List Int) (A0_1:Option Addr) (c0_1:Nat) (l0_1:List Int) (A0_2:Option Addr) (c0_2:Nat) (l0_2:List Int) (r1:List Int) (r2:List Int) (r3:List Int) (w:World) (hr0_0:Kd.C (Kd.int .i64) w A0_0 l0_0.length l0_0) (hc0_0:l0_0.length≤c0_0) (hr0_1:Kd.C (Kd.int .i64) w A0_1 l0_1.length l0_1) (hc0_1:l0_1.length≤c0_1) (hr0_2:Kd.C (Kd.int .i64) w A0_2 l0_2.length l0_2) (hc0_2:l0_2.length≤c0_2) (h:signal_copied.f l0_0 l0_1 l0_2=some (r1,r2,r3)) :
  Calls Tryd.prog 39 #[.agg #[.slice A0_0 l0_0.length c0_0,.slice A0_1 l0_1.length c0_1,.slice A0_2 l0_2.length c0_2]] w fun e w'=>∃ v0_ v1_ v2_:Value,e=.returned (.agg #[v0_,v1_,v2_])∧Kd.R (Kd.int .i64) 3 w' w.heap.size (fun k_=>some k_≠(v1_:Value).ownBlock∧some k_≠(v2_:Value).ownBlock) v0_ r1∧Kd.R (Kd.int .i64) 3 w' w.heap.size (fun k_=>some k_≠(v0_:Value).ownBlock∧some k_≠(v2_:Value).ownBlock) v1_ r2∧Kd.R (Kd.int .i64) 3 w' w.heap.size (fun k_=>some k_≠(v0_:Value).ownBlock∧some k_≠(v1_:Value).ownBlock) v2_ r3∧Below w.heap.size w w':=by
 have hu30:=Tryd.underlying30
 have HR0_0:=Zk hr0_0
 have HC0_0:=Zk hc0_0
 clear hr0_0 hc0_0
 have HR0_1:=Zk hr0_1
 have HC0_1:=Zk hc0_1
 clear hr0_1 hc0_1
 have HR0_2:=Zk hr0_2
 have HC0_2:=Zk hc0_2
 clear hr0_2 hc0_2
 have HB:=Zk (Below.refl w.heap.size w)
 have H:((slices_Clone_int_int.f l0_0).bind fun t109=>((slices_Clone_int_int.f l0_1).bind fun t112=>((slices_Clone_int_int.f l0_2).bind fun t115=>(some (t109,t112,t115)))))=some (r1,r2,r3):=h
 clear h
 replace H:=Option.bind_eq_some_iff.mp H
 obtain ⟨t109,A20,H⟩:=H
 replace H:((slices_Clone_int_int.f l0_1).bind fun t112=>((slices_Clone_int_int.f l0_2).bind fun t115=>(some (t109,t112,t115))))=some (r1,r2,r3):=H
 have A2:=Zk A20
 clear A20
 replace H:=Option.bind_eq_some_iff.mp H
 obtain ⟨t112,A30,H⟩:=H
 replace H:((slices_Clone_int_int.f l0_2).bind fun t115=>(some (t109,t112,t115)))=some (r1,r2,r3):=H
 have A3:=Zk A30
 clear A30
 replace H:=Option.bind_eq_some_iff.mp H
 obtain ⟨t115,A40,H⟩:=H
 replace H:(some (t109,t112,t115))=some (r1,r2,r3):=H
 have A4:=Zk A40
 clear A40
 simp only [Option.some.injEq,Prod.mk.injEq] at H
 obtain ⟨rfl,rfl,rfl⟩:=H
 go_enter Tryd.func39,Tryd.ntmps39
 try go_wp2_with (first|((with_reducible refine yT (N:=1) rfl ?_);refine yV ?hg (N:=1) ?hd (cs:=#[.slice A0_0 l0_0.length c0_0,.slice A0_1 l0_1.length c0_1,.slice A0_2 l0_2.length c0_2]) (t:=30) ?hr ?_;(case hd=>rfl);(case hg=>rfl);(case hr=>first|(go_simp;done)|(go_simp;rfl));intro gb107 hg w5 hbox hb;have n0_:=Zk (yA (by repeat (first|(with_reducible first|exact HB.out|apply zG|apply zD|apply zH)|exact HB.out)) hb);have n1_:=Zk (hbox);have n2_:=Zk ((by rw [hg];exact (zP (by repeat (first|(with_reducible first|exact HB.out|apply zG|apply zD|apply zH)|exact HB.out))):w.heap.size≤gb107));have n3_:=Zk ((by rw [hg];exact (zP (by repeat (first|(with_reducible first|exact HB.out|apply zG|apply zD|apply zH)|exact HB.out))):w.heap.size≤gb107));clear HB;have HB:=n0_;have BK107:=n1_;have GW107:=n2_;have GE107:=n3_;clear n0_ n1_ n2_ n3_;clear hb hbox hg)|((with_reducible refine yT (N:=2) rfl ?_);refine yV ?hg (N:=2) ?hd (cs:=#[.slice none 0 0,.slice none 0 0,.slice none 0 0]) (t:=30) ?hr ?_;(case hd=>rfl);(case hg=>rfl);(case hr=>first|(go_simp;done)|(go_simp;rfl));intro gb108 hg w6 hbox hb;have n0_:=Zk (zW (g:=gb107) (o:=.cells #[.slice A0_0 l0_0.length c0_0,.slice A0_1 l0_1.length c0_1,.slice A0_2 l0_2.length c0_2] 30 (0,0)) (by (with_reducible repeat (first|refine zB ?_ _|refine zF ?_|refine zA ?_ _));exact BK107.out) hb);have n1_:=Zk (yA (by repeat (first|(with_reducible first|exact HB.out|apply zG|apply zD|apply zH|refine zC ?_ GE107.out)|exact HB.out)) hb);have n2_:=Zk (hbox);have n3_:=Zk ((by rw [hg];exact (zP (by repeat (first|(with_reducible first|exact HB.out|apply zG|apply zD|apply zH|refine zC ?_ GE107.out)|exact HB.out))):w.heap.size≤gb108));have n4_:=Zk ((by rw [hg];exact (zP (by repeat (first|(with_reducible first|exact HB.out|apply zG|apply zD|apply zH|refine zC ?_ GE107.out)|exact HB.out))):w.heap.size≤gb108));have n5_:=Zk ((by rw [hg];exact Nat.ne_of_lt (yN (g:=gb107) (o:=.cells #[.slice A0_0 l0_0.length c0_0,.slice A0_1 l0_1.length c0_1,.slice A0_2 l0_2.length c0_2] 30 (0,0)) (by (with_reducible repeat (first|refine zB ?_ _|refine zF ?_|refine zA ?_ _));exact BK107.out)):gb107≠gb108));have n6_:=Zk ((by rw [hg];exact Nat.ne_of_gt (yN (g:=gb107) (o:=.cells #[.slice A0_0 l0_0.length c0_0,.slice A0_1 l0_1.length c0_1,.slice A0_2 l0_2.length c0_2] 30 (0,0)) (by (with_reducible repeat (first|refine zB ?_ _|refine zF ?_|refine zA ?_ _));exact BK107.out)):gb108≠gb107));clear BK107;clear HB;have BK107:=n0_;have HB:=n1_;have BK108:=n2_;have GW108:=n3_;have GE108:=n4_;have NB107_108:=n5_;have NB108_107:=n6_;clear n0_ n1_ n2_ n3_ n4_ n5_ n6_;clear hb hbox hg))
 have n0_:=Zk (zF BK107.out)
 have n1_:=Zk (zF BK108.out)
 have n2_:=Zk (zH HB.out)
 clear BK107
 clear BK108
 clear HB
 have BK107:=n0_
 have BK108:=n1_
 have HB:=n2_
 clear n0_ n1_ n2_
 refine start_ (n:=11) (S:=fun w'=>w'.cell? ⟨gb107,0,none⟩=some (.slice A0_0 l0_0.length c0_0)∧w'.cell? ⟨gb107,1,none⟩=some (.slice A0_1 l0_1.length c0_1)∧w'.cell? ⟨gb107,2,none⟩=some (.slice A0_2 l0_2.length c0_2)) (ds:=[]) #[false,false,false,false,false,false,false,false,false,false,false] (by kernel_rfl) rfl rfl ⟨(zJ BK107.out 0).trans rfl,(zJ BK107.out 1).trans rfl,(zJ BK107.out 2).trans rfl⟩ (fun hHeld=>?_);refine with_tabW signal_copied.tab1 signal_copied.bits1 (fun HT_ HW_=>?_)
 generalize w6.drew=w7 at BK107 BK108 HB hHeld ⊢
 refine pure_ (i:=0) (N:=some 3) (v:=?_) (a':=?_) #[true,false,false,false,false,false,false,false,false,false,false] rfl rfl (any_of HT_.out (by kernel_rfl)) (fun _ _ _ h=>h) (Or.inl ⟨by rfl,?_⟩) ?_ ?_
 rotate_left
 ·intro w'
  go_simp
  with_reducible rfl
 rotate_left
 ·simp only [Act.put,List.setIfInBounds_toArray,List.set_cons_zero,List.set_cons_succ,yX,i32_w]
  rfl
 refine pure_ (i:=3) (N:=some 6) (v:=?_) (a':=?_) #[true,false,false,true,false,false,false,false,false,false,false] rfl rfl (any_of HT_.out (by kernel_rfl)) (fun _ _ _ h=>h) (Or.inl ⟨by rfl,?_⟩) ?_ ?_
 rotate_left
 ·intro w'
  go_simp
  with_reducible rfl
 rotate_left
 ·simp only [Act.put,List.setIfInBounds_toArray,List.set_cons_zero,List.set_cons_succ,yX,i32_w]
  rfl
 refine pure_ (i:=6) (N:=some 9) (v:=?_) (a':=?_) #[true,false,false,true,false,false,true,false,false,false,false] rfl rfl (any_of HT_.out (by kernel_rfl)) (fun _ _ _ h=>h) (Or.inl ⟨by rfl,?_⟩) ?_ ?_
 rotate_left
 ·intro w'
  go_simp
  with_reducible rfl
 rotate_left
 ·simp only [Act.put,List.setIfInBounds_toArray,List.set_cons_zero,List.set_cons_succ,yX,i32_w]
  rfl
 refine take_ (i:=1) (N:=some 4) (v:=?_) (a':=?_) #[true,true,false,true,false,false,true,false,false,false,false] rfl rfl (take_ofW HT_.out HW_.out (by kernel_rfl)) (fun _ _ _ h=>h) (Or.inl ⟨by rfl,?_⟩) hHeld ?_ ?_
 rotate_left
 ·rintro w' ⟨s0,s1,s2⟩
  go_simp
  with_reducible rfl
 rotate_left
 ·simp only [Act.put,List.setIfInBounds_toArray,List.set_cons_zero,List.set_cons_succ,yX,i32_w]
  rfl
 refine take_ (i:=4) (N:=some 7) (v:=?_) (a':=?_) #[true,true,false,true,true,false,true,false,false,false,false] rfl rfl (take_ofW HT_.out HW_.out (by kernel_rfl)) (fun _ _ _ h=>h) (Or.inl ⟨by rfl,?_⟩) hHeld ?_ ?_
 rotate_left
 ·rintro w' ⟨s0,s1,s2⟩
  go_simp
  with_reducible rfl
 rotate_left
 ·simp only [Act.put,List.setIfInBounds_toArray,List.set_cons_zero,List.set_cons_succ,yX,i32_w]
  rfl
 refine take_ (i:=7) (N:=some 10) (v:=?_) (a':=?_) #[true,true,false,true,true,false,true,true,false,false,false] rfl rfl (take_ofW HT_.out HW_.out (by kernel_rfl)) (fun _ _ _ h=>h) (Or.inl ⟨by rfl,?_⟩) hHeld ?_ ?_
 rotate_left
 ·rintro w' ⟨s0,s1,s2⟩
  go_simp
  with_reducible rfl
 rotate_left
 ·simp only [Act.put,List.setIfInBounds_toArray,List.set_cons_zero,List.set_cons_succ,yX,i32_w]
  rfl
 refine one_ (i:=2) (N:=some 5) #[true,true,true,true,true,false,true,true,false,false,false] rfl rfl (one_of HT_.out (by kernel_rfl)) (by decide) (fun K hK=>?_)
 refine goes_ Tryd.func53 (by kernel_rfl) rfl #[.slice A0_0 l0_0.length c0_0] (by rfl) rfl rfl (by (try simp only [List.map_toArray,List.map_cons,List.map_nil]);first|done|rfl|(simp only [List.length_drop,List.length_take];rfl)) ?_
 with_reducible refine (slices_Clone_int_int.calls _ _ l0_0 t109 _ ?side1 ?side2 A2.out).mono ?_
 (case side1=>repeat (first|exact (yS HR0_0.out HB.out)|(with_reducible refine yG ?_ _)|(with_reducible refine yF ?_ _)|(with_reducible refine yI ?_)))
 (case side2=>exact HC0_0.out)
 rintro e w8 ⟨v110,rfl,ho0,hb⟩
 refine ⟨_,rfl,?_⟩
 have n0_:=Zk (yU ho0 (zP (by repeat (first|(with_reducible first|exact HB.out|apply zG|apply zD|apply zH|refine zC ?_ GE107.out|refine zC ?_ GE108.out)|exact HB.out))))
 have n1_:=Zk (zW (g:=gb107) (o:=.cells #[.slice A0_0 l0_0.length c0_0,.slice A0_1 l0_1.length c0_1,.slice A0_2 l0_2.length c0_2] 30 (0,0)) (by (with_reducible repeat (first|refine zB ?_ _|refine zF ?_|refine zA ?_ _));exact BK107.out) hb)
 have n2_:=Zk (zW (g:=gb108) (o:=.cells #[.slice none 0 0,.slice none 0 0,.slice none 0 0] 30 (0,0)) (by (with_reducible repeat (first|refine zB ?_ _|refine zF ?_|refine zA ?_ _));exact BK108.out) hb)
 have n3_:=Zk (yA (by repeat (first|(with_reducible first|exact HB.out|apply zG|apply zD|apply zH|refine zC ?_ GE107.out|refine zC ?_ GE108.out)|exact HB.out)) hb)
 clear BK107
 clear BK108
 clear HB
 have HO111:=n0_
 have BK107:=n1_
 have BK108:=n2_
 have HB:=n3_
 clear n0_ n1_ n2_ n3_
 (try clear hb)
 (try clear hb2)
 (try clear hk)
 (try clear hi)
 (try clear ho0)
 refine hK.out _ _ ⟨(zJ BK107.out 0).trans rfl,(zJ BK107.out 1).trans rfl,(zJ BK107.out 2).trans rfl⟩ (fun hHeld=>?_)
 clear hK K
 refine norm_ (a':=?_) ?_ ?_
 rotate_left
 ·show Act.put _ (some 5) _=_
  simp only [Act.put,List.setIfInBounds_toArray,List.set_cons_zero,List.set_cons_succ,yX,i32_w]
  rfl
 refine one_ (i:=5) (N:=some 8) #[true,true,true,true,true,true,true,true,false,false,false] rfl rfl (one_of HT_.out (by kernel_rfl)) (by decide) (fun K hK=>?_)
 refine goes_ Tryd.func53 (by kernel_rfl) rfl #[.slice A0_1 l0_1.length c0_1] (by rfl) rfl rfl (by (try simp only [List.map_toArray,List.map_cons,List.map_nil]);first|done|rfl|(simp only [List.length_drop,List.length_take];rfl)) ?_
 with_reducible refine (slices_Clone_int_int.calls _ _ l0_1 t112 _ ?side1 ?side2 A3.out).mono ?_
 (case side1=>repeat (first|exact (yS HR0_1.out HB.out)|(with_reducible refine yG ?_ _)|(with_reducible refine yF ?_ _)|(with_reducible refine yI ?_)))
 (case side2=>exact HC0_1.out)
 rintro e w9 ⟨v113,rfl,ho0,hb⟩
 refine ⟨_,rfl,?_⟩
 have n0_:=Zk (yK (by (with_reducible repeat (first|apply zR|apply zQ|apply zU));exact HO111.out) (zZ ho0) hb)
 have n1_:=Zk (yU (yR ho0 (R_lt (by (with_reducible repeat (first|apply zR|apply zQ|apply zU));exact HO111.out))) (zP (by repeat (first|(with_reducible first|exact HB.out|apply zG|apply zD|apply zH|refine zC ?_ GE107.out|refine zC ?_ GE108.out)|exact HB.out))))
 have n2_:=Zk (zW (g:=gb107) (o:=.cells #[.slice A0_0 l0_0.length c0_0,.slice A0_1 l0_1.length c0_1,.slice A0_2 l0_2.length c0_2] 30 (0,0)) (by (with_reducible repeat (first|refine zB ?_ _|refine zF ?_|refine zA ?_ _));exact BK107.out) hb)
 have n3_:=Zk (zW (g:=gb108) (o:=.cells #[.slice none 0 0,.slice none 0 0,.slice none 0 0] 30 (0,0)) (by (with_reducible repeat (first|refine zB ?_ _|refine zF ?_|refine zA ?_ _));exact BK108.out) hb)
 have n4_:=Zk (yA (by repeat (first|(with_reducible first|exact HB.out|apply zG|apply zD|apply zH|refine zC ?_ GE107.out|refine zC ?_ GE108.out)|exact HB.out)) hb)
 clear HO111
 clear BK107
 clear BK108
 clear HB
 have HO111:=n0_
 have HO114:=n1_
 have BK107:=n2_
 have BK108:=n3_
 have HB:=n4_
 clear n0_ n1_ n2_ n3_ n4_
 (try clear hb)
 (try clear hb2)
 (try clear hk)
 (try clear hi)
 (try clear ho0)
 refine hK.out _ _ ⟨(zJ BK107.out 0).trans rfl,(zJ BK107.out 1).trans rfl,(zJ BK107.out 2).trans rfl⟩ (fun hHeld=>?_)
 clear hK K
 refine norm_ (a':=?_) ?_ ?_
 rotate_left
 ·show Act.put _ (some 8) _=_
  simp only [Act.put,List.setIfInBounds_toArray,List.set_cons_zero,List.set_cons_succ,yX,i32_w]
  rfl
 refine one_ (i:=8) (N:=some 11) #[true,true,true,true,true,true,true,true,true,false,false] rfl rfl (one_of HT_.out (by kernel_rfl)) (by decide) (fun K hK=>?_)
 refine goes_ Tryd.func53 (by kernel_rfl) rfl #[.slice A0_2 l0_2.length c0_2] (by rfl) rfl rfl (by (try simp only [List.map_toArray,List.map_cons,List.map_nil]);first|done|rfl|(simp only [List.length_drop,List.length_take];rfl)) ?_
 with_reducible refine (slices_Clone_int_int.calls _ _ l0_2 t115 _ ?side1 ?side2 A4.out).mono ?_
 (case side1=>repeat (first|exact (yS HR0_2.out HB.out)|(with_reducible refine yG ?_ _)|(with_reducible refine yF ?_ _)|(with_reducible refine yI ?_)))
 (case side2=>exact HC0_2.out)
 rintro e w10 ⟨v116,rfl,ho0,hb⟩
 refine ⟨_,rfl,?_⟩
 have n0_:=Zk (yK (by (with_reducible repeat (first|apply zR|apply zQ|apply zU));exact HO111.out) (zZ ho0) hb)
 have n1_:=Zk (yK (by (with_reducible repeat (first|apply zR|apply zQ|apply zU));exact HO114.out) (zZ ho0) hb)
 have n2_:=Zk (yU (yR (yR ho0 (R_lt (by (with_reducible repeat (first|apply zR|apply zQ|apply zU));exact HO111.out))) (R_lt (by (with_reducible repeat (first|apply zR|apply zQ|apply zU));exact HO114.out))) (zP (by repeat (first|(with_reducible first|exact HB.out|apply zG|apply zD|apply zH|refine zC ?_ GE107.out|refine zC ?_ GE108.out)|exact HB.out))))
 have n3_:=Zk (zW (g:=gb107) (o:=.cells #[.slice A0_0 l0_0.length c0_0,.slice A0_1 l0_1.length c0_1,.slice A0_2 l0_2.length c0_2] 30 (0,0)) (by (with_reducible repeat (first|refine zB ?_ _|refine zF ?_|refine zA ?_ _));exact BK107.out) hb)
 have n4_:=Zk (zW (g:=gb108) (o:=.cells #[.slice none 0 0,.slice none 0 0,.slice none 0 0] 30 (0,0)) (by (with_reducible repeat (first|refine zB ?_ _|refine zF ?_|refine zA ?_ _));exact BK108.out) hb)
 have n5_:=Zk (yA (by repeat (first|(with_reducible first|exact HB.out|apply zG|apply zD|apply zH|refine zC ?_ GE107.out|refine zC ?_ GE108.out)|exact HB.out)) hb)
 clear HO111
 clear HO114
 clear BK107
 clear BK108
 clear HB
 have HO111:=n0_
 have HO114:=n1_
 have HO117:=n2_
 have BK107:=n3_
 have BK108:=n4_
 have HB:=n5_
 clear n0_ n1_ n2_ n3_ n4_ n5_
 (try clear hb)
 (try clear hb2)
 (try clear hk)
 (try clear hi)
 (try clear ho0)
 obtain ⟨Ao11,co11,eo11⟩:=yQ HO117.out
 (first|subst eo11|(injection eo11 with f1_ f2_ f3_;have f4_:=f1_.symm;have f5_:=f3_.symm;clear f1_ f2_ f3_;subst f4_;subst f5_))
 obtain ⟨Ao12,co12,eo12⟩:=yQ HO114.out
 (first|subst eo12|(injection eo12 with f1_ f2_ f3_;have f4_:=f1_.symm;have f5_:=f3_.symm;clear f1_ f2_ f3_;subst f4_;subst f5_))
 obtain ⟨Ao13,co13,eo13⟩:=yQ HO111.out
 (first|subst eo13|(injection eo13 with f1_ f2_ f3_;have f4_:=f1_.symm;have f5_:=f3_.symm;clear f1_ f2_ f3_;subst f4_;subst f5_))
 refine hK.out _ _ ⟨(zJ BK107.out 0).trans rfl,(zJ BK107.out 1).trans rfl,(zJ BK107.out 2).trans rfl⟩ (fun hHeld=>?_)
 clear hK K
 refine norm_ (a':=?_) ?_ ?_
 rotate_left
 ·show Act.put _ (some 11) _=_
  simp only [Act.put,List.setIfInBounds_toArray,List.set_cons_zero,List.set_cons_succ,yX,i32_w]
  rfl
 refine pure_ (i:=9) (N:=some 12) (v:=?_) (a':=?_) #[true,true,true,true,true,true,true,true,true,true,false] rfl rfl (any_of HT_.out (by kernel_rfl)) (fun _ _ _ h=>h) (Or.inl ⟨by rfl,?_⟩) ?_ ?_
 rotate_left
 ·intro w'
  go_simp
  with_reducible rfl
 rotate_left
 ·simp only [Act.put,List.setIfInBounds_toArray,List.set_cons_zero,List.set_cons_succ,yX,i32_w]
  rfl
 refine one_ (i:=10) (N:=none) #[true,true,true,true,true,true,true,true,true,true,true] rfl rfl (one_of HT_.out (by kernel_rfl)) (by decide) (fun K hK=>?_)
 have hs14:w10.cell? ⟨gb108,0,none⟩=some (.slice none 0 0):=(zJ BK108.out 0).trans rfl
 have hfs14:=zI BK108.out 0
 have hns14_0:=NB107_108.out
 have hms14_0:=NB108_107.out
 have hs15:w10.cell? ⟨gb108,1,none⟩=some (.slice none 0 0):=(zJ BK108.out 1).trans rfl
 have hfs15:=zI BK108.out 1
 have hns15_0:=NB107_108.out
 have hms15_0:=NB108_107.out
 have hs16:w10.cell? ⟨gb108,2,none⟩=some (.slice none 0 0):=(zJ BK108.out 2).trans rfl
 have hfs16:=zI BK108.out 2
 have hns16_0:=NB107_108.out
 have hms16_0:=NB108_107.out
 refine skip_ (w1:=?_) (by rfl) rfl ?_ ?_
 rotate_left
 ·go_simp
  rfl
 refine hK.out _ _ ⟨((cell_far (p:=⟨gb108,_,none⟩) NB107_108.out _).trans (((cell_far (p:=⟨gb108,_,none⟩) NB107_108.out _).trans (((cell_far (p:=⟨gb108,_,none⟩) NB107_108.out _).trans (hHeld.1)))))),((cell_far (p:=⟨gb108,_,none⟩) NB107_108.out _).trans (((cell_far (p:=⟨gb108,_,none⟩) NB107_108.out _).trans (((cell_far (p:=⟨gb108,_,none⟩) NB107_108.out _).trans (hHeld.2.1)))))),((cell_far (p:=⟨gb108,_,none⟩) NB107_108.out _).trans (((cell_far (p:=⟨gb108,_,none⟩) NB107_108.out _).trans (((cell_far (p:=⟨gb108,_,none⟩) NB107_108.out _).trans (hHeld.2.2))))))⟩ (fun hHeld=>?_)
 clear hK K
 refine done_ (done_of HT_.out (by kernel_rfl)) ?_
 try go_wp2
 refine bodyPost_ret (results_cell_row rfl _ _ gb108 30 #[.slice Ao13 t109.length co13,.slice Ao12 t112.length co12,.slice Ao11 t115.length co11] (0,0) _ rfl (by (with_reducible repeat (first|refine zB ?_ _|refine zF ?_|refine zA ?_ _));refine yE (cs:=#[.slice Ao13 t109.length co13,.slice Ao12 t112.length co12,.slice none 0 0]) ?_ 2 _ rfl;(with_reducible repeat (first|refine zB ?_ _|refine zF ?_|refine zA ?_ _));refine yE (cs:=#[.slice Ao13 t109.length co13,.slice none 0 0,.slice none 0 0]) ?_ 1 _ rfl;(with_reducible repeat (first|refine zB ?_ _|refine zF ?_|refine zA ?_ _));refine yE (cs:=#[.slice none 0 0,.slice none 0 0,.slice none 0 0]) ?_ 0 _ rfl;(with_reducible repeat (first|refine zB ?_ _|refine zF ?_|refine zA ?_ _));exact BK108.out) Tryd.underlying30 rfl (by kernel_rfl)) rfl ?_
 exact ⟨_,_,_,by first|rfl|(simp [errW_none,errW_some] <;> rfl)|(simp [*,errW_none,errW_some] <;> rfl),by (with_reducible repeat (first|apply zR|apply zQ|apply zU));exact yB (zT (p:=⟨gb108,2,none⟩) (zT (p:=⟨gb108,1,none⟩) (zT (p:=⟨gb108,0,none⟩) (zX HO111.out BK108.out (by decide)) (fun _ hk=>hk.2) (.slice Ao13 t109.length co13)) (fun _ hk=>hk.2) (.slice Ao12 t112.length co12)) (fun _ hk=>hk.2) (.slice Ao11 t115.length co11)) (fun _ hk=>⟨hk.1.1.2,hk.1.2⟩),by (with_reducible repeat (first|apply zR|apply zQ|apply zU));exact yB (zT (p:=⟨gb108,2,none⟩) (zT (p:=⟨gb108,1,none⟩) (zT (p:=⟨gb108,0,none⟩) (zX HO114.out BK108.out (by decide)) (fun _ hk=>hk.2) (.slice Ao13 t109.length co13)) (fun _ hk=>hk.2) (.slice Ao12 t112.length co12)) (fun _ hk=>hk.2) (.slice Ao11 t115.length co11)) (fun _ hk=>⟨hk.1.1.2,hk.1.2⟩),by (with_reducible repeat (first|apply zR|apply zQ|apply zU));exact yB (zT (p:=⟨gb108,2,none⟩) (zT (p:=⟨gb108,1,none⟩) (zT (p:=⟨gb108,0,none⟩) (zX HO117.out BK108.out (by decide)) (fun _ hk=>hk.2) (.slice Ao13 t109.length co13)) (fun _ hk=>hk.2) (.slice Ao12 t112.length co12)) (fun _ hk=>hk.2) (.slice Ao11 t115.length co11)) (fun _ hk=>⟨hk.1.1.2,hk.1.2⟩),by repeat (first|(with_reducible first|exact HB.out|apply zG|apply zD|apply zH|refine zC ?_ GE107.out|refine zC ?_ GE108.out)|exact HB.out)⟩
def signal_without_1_48.f (l0:List Int) (a1:Int):Option (List Int):=if l0.length < 17592186044416 then some (l0.filter fun x=>!(x == a1)) else none
theorem signal_without_1_48.calls (A0:Option Addr) (c0:Nat) (l0:List Int) (a1:Int) (r:List Int) (w:World) {gb:Nat} (hr0:Kd.C (Kd.int .i64) w A0 l0.length l0) (hc0:l0.length≤c0) (hb:w.heap[gb]?=some (.cells #[.int .i64 a1] 3 (0,0))) (h:signal_without_1_48.f l0 a1=some r) :
  Calls Tryd.prog 40 #[.slice A0 l0.length c0,.func (.func 48) #[] #[.pointer (some ⟨gb,0,none⟩)]] w fun e w'=>∃ v0_:Value,e=.returned v0_∧Kd.R (Kd.int .i64) 3 w' w.heap.size (fun _=>True) v0_ r∧Below w.heap.size w w':=by
 unfold signal_without_1_48.f at h
 by_cases c2:l0.length < 17592186044416
 ·rw [if_pos c2] at h
  obtain rfl:=Option.some.inj h
  exact Go.Proofs.YtnkkdpjipfjdaaaDoor.Ix.wo_any 48 #[.pointer (some ⟨gb,0,none⟩)] (fun _ _=>by first|rfl|(simp [callFunc];done)) (fun x=>(x == a1)) A0 c0 l0 w (slices_Clone_int_int.calls A0 c0 l0 l0 w hr0 hc0 (by unfold slices_Clone_int_int.f;rw [if_pos c2])) (fun W x hB=>Go.Proofs.YtnkkdpjipfjdaaaDoor.Ix.pred48 x a1 gb W (zW hb hB))
 ·rw [if_neg c2] at h;cases h
def signal_without_1_41.f (l0:List Int) (a1:Int):Option (List Int):=if l0.length < 17592186044416 then some (l0.filter fun x=>!(x == a1)) else none
theorem signal_without_1_41.calls (A0:Option Addr) (c0:Nat) (l0:List Int) (a1:Int) (r:List Int) (w:World) {gb:Nat} (hr0:Kd.C (Kd.int .i64) w A0 l0.length l0) (hc0:l0.length≤c0) (hb:w.heap[gb]?=some (.cells #[.int .i64 a1] 3 (0,0))) (h:signal_without_1_41.f l0 a1=some r) :
  Calls Tryd.prog 40 #[.slice A0 l0.length c0,.func (.func 41) #[] #[.pointer (some ⟨gb,0,none⟩)]] w fun e w'=>∃ v0_:Value,e=.returned v0_∧Kd.R (Kd.int .i64) 3 w' w.heap.size (fun _=>True) v0_ r∧Below w.heap.size w w':=by
 unfold signal_without_1_41.f at h
 by_cases c2:l0.length < 17592186044416
 ·rw [if_pos c2] at h
  obtain rfl:=Option.some.inj h
  exact Go.Proofs.YtnkkdpjipfjdaaaDoor.Ix.wo_any 41 #[.pointer (some ⟨gb,0,none⟩)] (fun _ _=>by first|rfl|(simp [callFunc];done)) (fun x=>(x == a1)) A0 c0 l0 w (slices_Clone_int_int.calls A0 c0 l0 l0 w hr0 hc0 (by unfold slices_Clone_int_int.f;rw [if_pos c2])) (fun W x hB=>Go.Proofs.YtnkkdpjipfjdaaaDoor.Ix.pred41 x a1 gb W (zW hb hB))
 ·rw [if_neg c2] at h;cases h
def signal_without_1_44.f (l0:List Int) (a1:Int):Option (List Int):=if l0.length < 17592186044416 then some (l0.filter fun x=>!(x == 18)) else none
theorem signal_without_1_44.calls (A0:Option Addr) (c0:Nat) (l0:List Int) (a1:Int) (r:List Int) (w:World) (hr0:Kd.C (Kd.int .i64) w A0 l0.length l0) (hc0:l0.length≤c0) (h:signal_without_1_44.f l0 a1=some r) :
  Calls Tryd.prog 40 #[.slice A0 l0.length c0,.func (.func 44) #[] #[]] w fun e w'=>∃ v0_:Value,e=.returned v0_∧Kd.R (Kd.int .i64) 3 w' w.heap.size (fun _=>True) v0_ r∧Below w.heap.size w w':=by
 unfold signal_without_1_44.f at h
 by_cases c2:l0.length < 17592186044416
 ·rw [if_pos c2] at h
  obtain rfl:=Option.some.inj h
  exact Go.Proofs.YtnkkdpjipfjdaaaDoor.Ix.wo_any 44 #[] (fun _ _=>by first|rfl|(simp [callFunc];done)) (fun x=>(x == 18)) A0 c0 l0 w (slices_Clone_int_int.calls A0 c0 l0 l0 w hr0 hc0 (by unfold slices_Clone_int_int.f;rw [if_pos c2])) (fun W x hB=>Go.Proofs.YtnkkdpjipfjdaaaDoor.Ix.pred44 x W)
 ·rw [if_neg c2] at h;cases h
def signal_without_stops.f (l0:List Int) (a1:Int):Option (List Int):=if l0.length < 17592186044416 then some (l0.filter fun x=>!(x == 19 ||(x == 20 ||(x == 4 ||x == 5)))) else none
theorem signal_without_stops.calls (A0:Option Addr) (c0:Nat) (l0:List Int) (a1:Int) (r:List Int) (w:World) (hr0:Kd.C (Kd.int .i64) w A0 l0.length l0) (hc0:l0.length≤c0) (h:signal_without_stops.f l0 a1=some r) :
  Calls Tryd.prog 40 #[.slice A0 l0.length c0,.func (.func 34) #[] #[]] w fun e w'=>∃ v0_:Value,e=.returned v0_∧Kd.R (Kd.int .i64) 3 w' w.heap.size (fun _=>True) v0_ r∧Below w.heap.size w w':=by
 unfold signal_without_stops.f at h
 by_cases c2:l0.length < 17592186044416
 ·rw [if_pos c2] at h
  obtain rfl:=Option.some.inj h
  exact Go.Proofs.YtnkkdpjipfjdaaaDoor.Ix.wo_any 34 #[] (fun _ _=>by first|rfl|(simp [callFunc];done)) (fun x=>(x == 19 ||(x == 20 ||(x == 4 ||x == 5)))) A0 c0 l0 w (slices_Clone_int_int.calls A0 c0 l0 l0 w hr0 hc0 (by unfold slices_Clone_int_int.f;rw [if_pos c2])) (fun W x hB=>Go.Proofs.YtnkkdpjipfjdaaaDoor.Ix.pred34 x W)
 ·rw [if_neg c2] at h;cases h
end Go.Proofs.YtnkkdpjipfjdaaaDoor.Q
end
section

namespace Go.Proofs.YtnkkdpjipfjdaaaDoor.Q
open Go.RowKit Go.Proofs.YtnkkdpjipfjdaaaDoorW.PrintWords Go.Proofs.YtnkkdpjipfjdaaaDoorW.PrintLast Go.Proofs.YtnkkdpjipfjdaaaDoorW.PrintMore Go.Proofs.YtnkkdpjipfjdaaaDoorM
open Kd
attribute [local go_sem] max2_int min2_int max_two min_two max_three min_three max_four min_four
set_option linter.unusedVariables false
set_option linter.unusedSimpArgs false
def signal_Next.j0:Nat→List Int→List Int→List Int→Int→Option (List Int × List Int × List Int × Int × Int)
 |0,_,_,_,_=>none
 |k + 1,x119000,x119001,x119002,x122000=>(signal_Default.f x122000).bind fun t123=>((slices_Contains_int_int.f k x119002 x122000).bind fun t124=>(if t124=true then ((signal_copied.f x119000 x119001 x119002).bind fun bt125=>((signal_without_1_41.f bt125.1 x122000).bind fun t134=>(some (t134,bt125.2.1,bt125.2.2,x122000,4)))) else ((signal_copied.f x119000 x119001 x119002).bind fun bt137=>((signal_without_1_41.f bt137.1 x122000).bind fun t146=>(some (t146,bt137.2.1,bt137.2.2,x122000,t123))))))
def signal_Next.f (k:Nat) (l0_0:List Int) (l0_1:List Int) (l0_2:List Int):Option (List Int × List Int × List Int × Int × Int):=if (l0_0.length:Int)=0 then (some (l0_0,l0_1,l0_2,0,0)) else ((slices_Min_int_int.f l0_0).bind fun t120=>((slices_Contains_int_int.f k l0_0 9).bind fun t122=>(if t122=true then (signal_Next.j0 k l0_0 l0_1 l0_2 9) else (signal_Next.j0 k l0_0 l0_1 l0_2 t120))))
theorem signal_Next.mono_l:∀ k,(∀ y0 y1 y2 y3,LeO (signal_Next.j0 k y0 y1 y2 y3) (signal_Next.j0 (k + 1) y0 y1 y2 y3))
 |0=>fun _ _ _ _ r h=>by simp [signal_Next.j0] at h
 |k + 1=>by
  have ih0:=signal_Next.mono_l k
  ·intro y0 y1 y2 y3
   unfold signal_Next.j0
   repeat' first
   |(with_reducible exact ih0 _ _ _ _)
   |(with_reducible exact slices_Contains_int_int.mono _ _ _)
   |(with_reducible exact LeO.refl _)
   |(with_reducible exact LeO.none _)
   |(with_reducible refine LeO.ite ?_ ?_)
   |(with_reducible refine LeO.bind ?_ (fun _=>?_))
   |exact ih0 _ _ _ _
   |exact slices_Contains_int_int.mono _ _ _
   |exact LeO.none _
   |refine LeO.ite ?_ ?_
   |refine LeO.bind ?_ (fun _=>?_)
theorem signal_Next.mono:∀ a0 a1 a2 k,LeO (signal_Next.f k a0 a1 a2) (signal_Next.f (k + 1) a0 a1 a2):=by
 intro a0 a1 a2 k
 have ih0:=signal_Next.mono_l k
 unfold signal_Next.f
 repeat' first
   |(with_reducible exact ih0 _ _ _ _)
   |(with_reducible exact slices_Contains_int_int.mono _ _ _)
   |(with_reducible exact LeO.refl _)
   |(with_reducible exact LeO.none _)
   |(with_reducible refine LeO.ite ?_ ?_)
   |(with_reducible refine LeO.bind ?_ (fun _=>?_))
   |exact ih0 _ _ _ _
   |exact slices_Contains_int_int.mono _ _ _
   |exact LeO.none _
   |refine LeO.ite ?_ ?_
   |refine LeO.bind ?_ (fun _=>?_)
set_option maxHeartbeats 8000000 in
set_option maxRecDepth 10000000 in
theorem signal_Next.calls (k:Nat) (P0_0_:Nat→Prop) (A0_0:Option Addr) (c0_0:Nat) (l0_0:List Int) (P0_1_:Nat→Prop) (A0_1:Option Addr) (c0_1:Nat) (l0_1:List Int) (P0_2_:Nat→Prop) (A0_2:Option Addr) (c0_2:Nat) (l0_2:List Int) (r1:List Int) (r2:List Int) (r3:List Int) (r4:Int) (r5:Int) (w:World) (hs0_0:Kd.V (Kd.int .i64) 3 w w.heap.size (fun k_=>P0_0_ k_) (.slice A0_0 l0_0.length c0_0) l0_0) (hs0_1:Kd.V (Kd.int .i64) 3 w w.heap.size (fun k_=>P0_1_ k_) (.slice A0_1 l0_1.length c0_1) l0_1) (hs0_2:Kd.V (Kd.int .i64) 3 w w.heap.size (fun k_=>P0_2_ k_) (.slice A0_2 l0_2.length c0_2) l0_2) (h:signal_Next.f k l0_0 l0_1 l0_2=some (r1,r2,r3,r4,r5)) :
  Calls Tryd.prog 19 #[.agg #[.slice A0_0 l0_0.length c0_0,.slice A0_1 l0_1.length c0_1,.slice A0_2 l0_2.length c0_2]] w fun e w'=>∃ v0_ v1_ v2_:Value,e=.returned (.tuple #[.agg #[v0_,v1_,v2_],.int .i64 r4,.int .i64 r5])∧Kd.V (Kd.int .i64) 3 w' w.heap.size (fun k_=>((P0_0_ k_∨P0_1_ k_∨P0_2_ k_)∨w.heap.size≤k_)) v0_ r1∧Kd.V (Kd.int .i64) 3 w' w.heap.size (fun k_=>((P0_0_ k_∨P0_1_ k_∨P0_2_ k_)∨w.heap.size≤k_)) v1_ r2∧Kd.V (Kd.int .i64) 3 w' w.heap.size (fun k_=>((P0_0_ k_∨P0_1_ k_∨P0_2_ k_)∨w.heap.size≤k_)) v2_ r3∧Below w.heap.size w w':=by
 have hu30:=Tryd.underlying30
 have HO0_0:=Zk (show Kd.V (Kd.int .i64) 3 w w.heap.size (fun k_=>((P0_0_ k_∨P0_1_ k_∨P0_2_ k_)∨w.heap.size≤k_)) (.slice A0_0 l0_0.length c0_0) l0_0 from zO hs0_0 (fun k_ hk=>.inl (.inl hk)))
 have HO0_1:=Zk (show Kd.V (Kd.int .i64) 3 w w.heap.size (fun k_=>((P0_0_ k_∨P0_1_ k_∨P0_2_ k_)∨w.heap.size≤k_)) (.slice A0_1 l0_1.length c0_1) l0_1 from zO hs0_1 (fun k_ hk=>.inl (.inr (.inl hk))))
 have HO0_2:=Zk (show Kd.V (Kd.int .i64) 3 w w.heap.size (fun k_=>((P0_0_ k_∨P0_1_ k_∨P0_2_ k_)∨w.heap.size≤k_)) (.slice A0_2 l0_2.length c0_2) l0_2 from zO hs0_2 (fun k_ hk=>.inl (.inr (.inr hk))))
 have HB:=Zk (Below.refl w.heap.size w)
 have H:(if (l0_0.length:Int)=0 then (some (l0_0,l0_1,l0_2,0,0)) else ((slices_Min_int_int.f l0_0).bind fun t120=>((slices_Contains_int_int.f k l0_0 9).bind fun t122=>(if t122=true then (signal_Next.j0 k l0_0 l0_1 l0_2 9) else (signal_Next.j0 k l0_0 l0_1 l0_2 t120)))))=some (r1,r2,r3,r4,r5):=h
 clear h
 by_cases c2:(l0_0.length:Int)=0
 ·rw [if_pos c2] at H
  have c2b0:((l0_0.length:Int) == 0)=true:=beq_iff_eq.mpr c2
  have c2b1:((l0_0.length:Int) != 0)=false:=bne_eq_false_iff_eq.mpr c2
  clear c2
  simp only [Option.some.injEq,Prod.mk.injEq] at H
  obtain ⟨rfl,rfl,rfl,rfl,rfl⟩:=H
  go_enter Tryd.func19,Tryd.ntmps19
  go_wp2_with (first|((with_reducible refine yT (N:=1) rfl ?_);refine yV ?hg (N:=1) ?hd (cs:=#[.slice A0_0 l0_0.length c0_0,.slice A0_1 l0_1.length c0_1,.slice A0_2 l0_2.length c0_2]) (t:=30) ?hr ?_;(case hd=>rfl);(case hg=>rfl);(case hr=>first|(go_simp;done)|(go_simp;rfl));intro gb118 hg w3 hbox hb;have n0_:=Zk (zV (yC (by (with_reducible repeat (first|apply zL|apply zK|apply zM));exact HO0_0.out) gb118 (Nat.le_of_eq hg.symm)) hb);have n1_:=Zk (zV (yC (by (with_reducible repeat (first|apply zL|apply zK|apply zM));exact HO0_1.out) gb118 (Nat.le_of_eq hg.symm)) hb);have n2_:=Zk (zV (yC (by (with_reducible repeat (first|apply zL|apply zK|apply zM));exact HO0_2.out) gb118 (Nat.le_of_eq hg.symm)) hb);have n3_:=Zk (yA (by repeat (first|(with_reducible first|exact HB.out|apply zG|apply zD|apply zH)|exact HB.out)) hb);have n4_:=Zk (hbox);have n5_:=Zk ((by rw [hg];exact (zP (by repeat (first|(with_reducible first|exact HB.out|apply zG|apply zD|apply zH)|exact HB.out))):w.heap.size≤gb118));have n6_:=Zk ((by rw [hg];exact (zP (by repeat (first|(with_reducible first|exact HB.out|apply zG|apply zD|apply zH)|exact HB.out))):w.heap.size≤gb118));clear HO0_0;clear HO0_1;clear HO0_2;clear HB;have HO0_0:=n0_;have HO0_1:=n1_;have HO0_2:=n2_;have HB:=n3_;have BK118:=n4_;have GW118:=n5_;have GE118:=n6_;clear n0_ n1_ n2_ n3_ n4_ n5_ n6_;clear hb hbox hg)|((with_reducible refine yT (N:=2) rfl ?_);refine yV ?hg (N:=2) ?hd (cs:=#[.slice none 0 0,.slice none 0 0,.slice none 0 0]) (t:=30) ?hr ?_;(case hd=>rfl);(case hg=>rfl);(case hr=>first|(go_simp;done)|(go_simp;rfl));intro gb119 hg w4 hbox hb;have n0_:=Zk (zV (yC (by (with_reducible repeat (first|apply zL|apply zK|apply zM));exact HO0_0.out) gb119 (Nat.le_of_eq hg.symm)) hb);have n1_:=Zk (zV (yC (by (with_reducible repeat (first|apply zL|apply zK|apply zM));exact HO0_1.out) gb119 (Nat.le_of_eq hg.symm)) hb);have n2_:=Zk (zV (yC (by (with_reducible repeat (first|apply zL|apply zK|apply zM));exact HO0_2.out) gb119 (Nat.le_of_eq hg.symm)) hb);have n3_:=Zk (zW (g:=gb118) (o:=.cells #[.slice A0_0 l0_0.length c0_0,.slice A0_1 l0_1.length c0_1,.slice A0_2 l0_2.length c0_2] 30 (0,0)) (by (with_reducible repeat (first|refine zB ?_ _|refine zF ?_|refine zA ?_ _));exact BK118.out) hb);have n4_:=Zk (yA (by repeat (first|(with_reducible first|exact HB.out|apply zG|apply zD|apply zH|refine zC ?_ GE118.out)|exact HB.out)) hb);have n5_:=Zk (hbox);have n6_:=Zk ((by rw [hg];exact (zP (by repeat (first|(with_reducible first|exact HB.out|apply zG|apply zD|apply zH|refine zC ?_ GE118.out)|exact HB.out))):w.heap.size≤gb119));have n7_:=Zk ((by rw [hg];exact (zP (by repeat (first|(with_reducible first|exact HB.out|apply zG|apply zD|apply zH|refine zC ?_ GE118.out)|exact HB.out))):w.heap.size≤gb119));have n8_:=Zk ((by rw [hg];exact Nat.ne_of_lt (yN (g:=gb118) (o:=.cells #[.slice A0_0 l0_0.length c0_0,.slice A0_1 l0_1.length c0_1,.slice A0_2 l0_2.length c0_2] 30 (0,0)) (by (with_reducible repeat (first|refine zB ?_ _|refine zF ?_|refine zA ?_ _));exact BK118.out)):gb118≠gb119));have n9_:=Zk ((by rw [hg];exact Nat.ne_of_gt (yN (g:=gb118) (o:=.cells #[.slice A0_0 l0_0.length c0_0,.slice A0_1 l0_1.length c0_1,.slice A0_2 l0_2.length c0_2] 30 (0,0)) (by (with_reducible repeat (first|refine zB ?_ _|refine zF ?_|refine zA ?_ _));exact BK118.out)):gb119≠gb118));clear HO0_0;clear HO0_1;clear HO0_2;clear BK118;clear HB;have HO0_0:=n0_;have HO0_1:=n1_;have HO0_2:=n2_;have BK118:=n3_;have HB:=n4_;have BK119:=n5_;have GW119:=n6_;have GE119:=n7_;have NB118_119:=n8_;have NB119_118:=n9_;clear n0_ n1_ n2_ n3_ n4_ n5_ n6_ n7_ n8_ n9_;clear hb hbox hg;have hnb5:=NB118_119.out;have hnc5:=NB119_118.out;have hcz6_0:w4.cell? ⟨gb118,0,none⟩=some (.slice A0_0 l0_0.length c0_0):=(zJ BK118.out 0).trans rfl;have hcz6_1:w4.cell? ⟨gb118,1,none⟩=some (.slice A0_1 l0_1.length c0_1):=(zJ BK118.out 1).trans rfl;have hcz6_2:w4.cell? ⟨gb118,2,none⟩=some (.slice A0_2 l0_2.length c0_2):=(zJ BK118.out 2).trans rfl;have hfz6_0:=zI BK118.out 0;have hfz6_1:=zI BK118.out 1;have hfz6_2:=zI BK118.out 2;have hcz7_0:w4.cell? ⟨gb119,0,none⟩=some (.slice none 0 0):=(zJ BK119.out 0).trans rfl;have hcz7_1:w4.cell? ⟨gb119,1,none⟩=some (.slice none 0 0):=(zJ BK119.out 1).trans rfl;have hcz7_2:w4.cell? ⟨gb119,2,none⟩=some (.slice none 0 0):=(zJ BK119.out 2).trans rfl;have hfz7_0:=zI BK119.out 0;have hfz7_1:=zI BK119.out 1;have hfz7_2:=zI BK119.out 2)|((with_reducible refine xA (t:=30) (p:=2) rfl ?_);refine yY (t:=30) (p:=2) (v:=?vo_w8) (w1:=(((w4.setCell ⟨gb119,0,none⟩ (.slice A0_0 l0_0.length c0_0)).setCell ⟨gb119,1,none⟩ (.slice A0_1 l0_1.length c0_1)).setCell ⟨gb119,2,none⟩ (.slice A0_2 l0_2.length c0_2))) ?hg ?ho ?hn ?hr ?_;(case ho=>rfl);(case hg=>rfl);(case hn=>rfl);(case hr=>first|(go_simp;done)|(go_simp;rfl));intro w8 hw;have n0_:zN (Kd.V (Kd.int .i64) 3 w8 w.heap.size (fun k_=>((P0_0_ k_∨P0_1_ k_∨P0_2_ k_)∨w.heap.size≤k_)∧k_≠gb118∧k_≠gb119) (.slice A0_0 l0_0.length c0_0) l0_0):=⟨(by rw [hw];exact (by (with_reducible repeat (first|apply zL|apply zK|apply zM));exact zO (zS (p:=⟨gb119,2,none⟩) (zS (p:=⟨gb119,1,none⟩) (zS (p:=⟨gb119,0,none⟩) (zO HO0_0.out (fun k_ hk=>(⟨hk,hk.2⟩:_∧k_≠gb119))) (fun _ hk=>hk.2) (.slice A0_0 l0_0.length c0_0)) (fun _ hk=>hk.2) (.slice A0_1 l0_1.length c0_1)) (fun _ hk=>hk.2) (.slice A0_2 l0_2.length c0_2)) (fun _ hk=>⟨hk.1.1.1,⟨hk.1.1.2,hk.1.2⟩⟩)))⟩;have n1_:zN (Kd.V (Kd.int .i64) 3 w8 w.heap.size (fun k_=>((P0_0_ k_∨P0_1_ k_∨P0_2_ k_)∨w.heap.size≤k_)∧k_≠gb118∧k_≠gb119) (.slice A0_1 l0_1.length c0_1) l0_1):=⟨(by rw [hw];exact (by (with_reducible repeat (first|apply zL|apply zK|apply zM));exact zO (zS (p:=⟨gb119,2,none⟩) (zS (p:=⟨gb119,1,none⟩) (zS (p:=⟨gb119,0,none⟩) (zO HO0_1.out (fun k_ hk=>(⟨hk,hk.2⟩:_∧k_≠gb119))) (fun _ hk=>hk.2) (.slice A0_0 l0_0.length c0_0)) (fun _ hk=>hk.2) (.slice A0_1 l0_1.length c0_1)) (fun _ hk=>hk.2) (.slice A0_2 l0_2.length c0_2)) (fun _ hk=>⟨hk.1.1.1,⟨hk.1.1.2,hk.1.2⟩⟩)))⟩;have n2_:zN (Kd.V (Kd.int .i64) 3 w8 w.heap.size (fun k_=>((P0_0_ k_∨P0_1_ k_∨P0_2_ k_)∨w.heap.size≤k_)∧k_≠gb118∧k_≠gb119) (.slice A0_2 l0_2.length c0_2) l0_2):=⟨(by rw [hw];exact (by (with_reducible repeat (first|apply zL|apply zK|apply zM));exact zO (zS (p:=⟨gb119,2,none⟩) (zS (p:=⟨gb119,1,none⟩) (zS (p:=⟨gb119,0,none⟩) (zO HO0_2.out (fun k_ hk=>(⟨hk,hk.2⟩:_∧k_≠gb119))) (fun _ hk=>hk.2) (.slice A0_0 l0_0.length c0_0)) (fun _ hk=>hk.2) (.slice A0_1 l0_1.length c0_1)) (fun _ hk=>hk.2) (.slice A0_2 l0_2.length c0_2)) (fun _ hk=>⟨hk.1.1.1,⟨hk.1.1.2,hk.1.2⟩⟩)))⟩;have n3_:zN (w8.heap[gb118]?=some (.cells #[.slice A0_0 l0_0.length c0_0,.slice A0_1 l0_1.length c0_1,.slice A0_2 l0_2.length c0_2] 30 (0,0))):=⟨(by rw [hw];exact (by (with_reducible repeat (first|refine zB ?_ _|refine zF ?_|refine zA ?_ _));refine zY ?_ NB118_119.out _;(with_reducible repeat (first|refine zB ?_ _|refine zF ?_|refine zA ?_ _));refine zY ?_ NB118_119.out _;(with_reducible repeat (first|refine zB ?_ _|refine zF ?_|refine zA ?_ _));refine zY ?_ NB118_119.out _;(with_reducible repeat (first|refine zB ?_ _|refine zF ?_|refine zA ?_ _));exact BK118.out))⟩;have n4_:zN (w8.heap[gb119]?=some (.cells #[.slice A0_0 l0_0.length c0_0,.slice A0_1 l0_1.length c0_1,.slice A0_2 l0_2.length c0_2] 30 (0,0))):=⟨(by rw [hw];exact (by (with_reducible repeat (first|refine zB ?_ _|refine zF ?_|refine zA ?_ _));refine yE (cs:=#[.slice A0_0 l0_0.length c0_0,.slice A0_1 l0_1.length c0_1,.slice none 0 0]) ?_ 2 _ rfl;(with_reducible repeat (first|refine zB ?_ _|refine zF ?_|refine zA ?_ _));refine yE (cs:=#[.slice A0_0 l0_0.length c0_0,.slice none 0 0,.slice none 0 0]) ?_ 1 _ rfl;(with_reducible repeat (first|refine zB ?_ _|refine zF ?_|refine zA ?_ _));refine yE (cs:=#[.slice none 0 0,.slice none 0 0,.slice none 0 0]) ?_ 0 _ rfl;(with_reducible repeat (first|refine zB ?_ _|refine zF ?_|refine zA ?_ _));exact BK119.out))⟩;have n5_:zN (Below w.heap.size w w8):=⟨(by rw [hw];exact (by repeat (first|(with_reducible first|exact HB.out|apply zG|apply zD|apply zH|refine zC ?_ GE118.out|refine zC ?_ GE119.out)|exact HB.out)))⟩;clear hw;clear HO0_0;clear HO0_1;clear HO0_2;clear BK118;clear BK119;clear HB;have HO0_0:=n0_;have HO0_1:=n1_;have HO0_2:=n2_;have BK118:=n3_;have BK119:=n4_;have HB:=n5_;clear n0_ n1_ n2_ n3_ n4_ n5_))
  refine bodyPost_ret (results_ctt rfl _ _ gb119 30 #[.slice A0_0 l0_0.length c0_0,.slice A0_1 l0_1.length c0_1,.slice A0_2 l0_2.length c0_2] (0,0) _ rfl (by (with_reducible repeat (first|refine zB ?_ _|refine zF ?_|refine zA ?_ _));exact BK119.out) Tryd.underlying30 rfl (by kernel_rfl)) rfl ?_
  exact ⟨_,_,_,by first|rfl|(simp [errW_none,errW_some] <;> rfl)|(simp [*,errW_none,errW_some] <;> rfl),by (with_reducible repeat (first|apply zL|apply zK|apply zM));exact zO HO0_0.out (fun _ hk=>hk.1),by (with_reducible repeat (first|apply zL|apply zK|apply zM));exact zO HO0_1.out (fun _ hk=>hk.1),by (with_reducible repeat (first|apply zL|apply zK|apply zM));exact zO HO0_2.out (fun _ hk=>hk.1),by repeat (first|(with_reducible first|exact HB.out|apply zG|apply zD|apply zH|refine zC ?_ GE118.out|refine zC ?_ GE119.out)|exact HB.out)⟩
 ·rw [if_neg c2] at H
  have c2b0:((l0_0.length:Int) == 0)=false:=beq_eq_false_iff_ne.mpr c2
  have c2b1:((l0_0.length:Int) != 0)=true:=bne_iff_ne.mpr c2
  have c2b2:¬ (l0_0=[]):=fun h_=>c2 (by rw [h_];rfl)
  replace H:=Option.bind_eq_some_iff.mp H
  obtain ⟨t120,A90,H⟩:=H
  replace H:((slices_Contains_int_int.f k l0_0 9).bind fun t122=>(if t122=true then (signal_Next.j0 k l0_0 l0_1 l0_2 9) else (signal_Next.j0 k l0_0 l0_1 l0_2 t120)))=some (r1,r2,r3,r4,r5):=H
  have A9:=Zk A90
  clear A90
  replace H:=Option.bind_eq_some_iff.mp H
  obtain ⟨t122,A100,H⟩:=H
  replace H:(if t122=true then (signal_Next.j0 k l0_0 l0_1 l0_2 9) else (signal_Next.j0 k l0_0 l0_1 l0_2 t120))=some (r1,r2,r3,r4,r5):=H
  have A10:=Zk A100
  clear A100
  have HC11:=Zk H
  clear H
  go_enter Tryd.func19,Tryd.ntmps19
  go_upto_if 17 with (first|((with_reducible refine yT (N:=1) rfl ?_);refine yV ?hg (N:=1) ?hd (cs:=#[.slice A0_0 l0_0.length c0_0,.slice A0_1 l0_1.length c0_1,.slice A0_2 l0_2.length c0_2]) (t:=30) ?hr ?_;(case hd=>rfl);(case hg=>rfl);(case hr=>first|(go_simp;done)|(go_simp;rfl));intro gb118 hg w12 hbox hb;have n0_:=Zk (zV (yC (by (with_reducible repeat (first|apply zL|apply zK|apply zM));exact HO0_0.out) gb118 (Nat.le_of_eq hg.symm)) hb);have n1_:=Zk (zV (yC (by (with_reducible repeat (first|apply zL|apply zK|apply zM));exact HO0_1.out) gb118 (Nat.le_of_eq hg.symm)) hb);have n2_:=Zk (zV (yC (by (with_reducible repeat (first|apply zL|apply zK|apply zM));exact HO0_2.out) gb118 (Nat.le_of_eq hg.symm)) hb);have n3_:=Zk (yA (by repeat (first|(with_reducible first|exact HB.out|apply zG|apply zD|apply zH)|exact HB.out)) hb);have n4_:=Zk (hbox);have n5_:=Zk ((by rw [hg];exact (zP (by repeat (first|(with_reducible first|exact HB.out|apply zG|apply zD|apply zH)|exact HB.out))):w.heap.size≤gb118));have n6_:=Zk ((by rw [hg];exact (zP (by repeat (first|(with_reducible first|exact HB.out|apply zG|apply zD|apply zH)|exact HB.out))):w.heap.size≤gb118));clear HO0_0;clear HO0_1;clear HO0_2;clear HB;have HO0_0:=n0_;have HO0_1:=n1_;have HO0_2:=n2_;have HB:=n3_;have BK118:=n4_;have GW118:=n5_;have GE118:=n6_;clear n0_ n1_ n2_ n3_ n4_ n5_ n6_;clear hb hbox hg)|((with_reducible refine yT (N:=2) rfl ?_);refine yV ?hg (N:=2) ?hd (cs:=#[.slice none 0 0,.slice none 0 0,.slice none 0 0]) (t:=30) ?hr ?_;(case hd=>rfl);(case hg=>rfl);(case hr=>first|(go_simp;done)|(go_simp;rfl));intro gb119 hg w13 hbox hb;have n0_:=Zk (zV (yC (by (with_reducible repeat (first|apply zL|apply zK|apply zM));exact HO0_0.out) gb119 (Nat.le_of_eq hg.symm)) hb);have n1_:=Zk (zV (yC (by (with_reducible repeat (first|apply zL|apply zK|apply zM));exact HO0_1.out) gb119 (Nat.le_of_eq hg.symm)) hb);have n2_:=Zk (zV (yC (by (with_reducible repeat (first|apply zL|apply zK|apply zM));exact HO0_2.out) gb119 (Nat.le_of_eq hg.symm)) hb);have n3_:=Zk (zW (g:=gb118) (o:=.cells #[.slice A0_0 l0_0.length c0_0,.slice A0_1 l0_1.length c0_1,.slice A0_2 l0_2.length c0_2] 30 (0,0)) (by (with_reducible repeat (first|refine zB ?_ _|refine zF ?_|refine zA ?_ _));exact BK118.out) hb);have n4_:=Zk (yA (by repeat (first|(with_reducible first|exact HB.out|apply zG|apply zD|apply zH|refine zC ?_ GE118.out)|exact HB.out)) hb);have n5_:=Zk (hbox);have n6_:=Zk ((by rw [hg];exact (zP (by repeat (first|(with_reducible first|exact HB.out|apply zG|apply zD|apply zH|refine zC ?_ GE118.out)|exact HB.out))):w.heap.size≤gb119));have n7_:=Zk ((by rw [hg];exact (zP (by repeat (first|(with_reducible first|exact HB.out|apply zG|apply zD|apply zH|refine zC ?_ GE118.out)|exact HB.out))):w.heap.size≤gb119));have n8_:=Zk ((by rw [hg];exact Nat.ne_of_lt (yN (g:=gb118) (o:=.cells #[.slice A0_0 l0_0.length c0_0,.slice A0_1 l0_1.length c0_1,.slice A0_2 l0_2.length c0_2] 30 (0,0)) (by (with_reducible repeat (first|refine zB ?_ _|refine zF ?_|refine zA ?_ _));exact BK118.out)):gb118≠gb119));have n9_:=Zk ((by rw [hg];exact Nat.ne_of_gt (yN (g:=gb118) (o:=.cells #[.slice A0_0 l0_0.length c0_0,.slice A0_1 l0_1.length c0_1,.slice A0_2 l0_2.length c0_2] 30 (0,0)) (by (with_reducible repeat (first|refine zB ?_ _|refine zF ?_|refine zA ?_ _));exact BK118.out)):gb119≠gb118));clear HO0_0;clear HO0_1;clear HO0_2;clear BK118;clear HB;have HO0_0:=n0_;have HO0_1:=n1_;have HO0_2:=n2_;have BK118:=n3_;have HB:=n4_;have BK119:=n5_;have GW119:=n6_;have GE119:=n7_;have NB118_119:=n8_;have NB119_118:=n9_;clear n0_ n1_ n2_ n3_ n4_ n5_ n6_ n7_ n8_ n9_;clear hb hbox hg;have hnb14:=NB118_119.out;have hnc14:=NB119_118.out;have hcz15_0:w13.cell? ⟨gb118,0,none⟩=some (.slice A0_0 l0_0.length c0_0):=(zJ BK118.out 0).trans rfl;have hcz15_1:w13.cell? ⟨gb118,1,none⟩=some (.slice A0_1 l0_1.length c0_1):=(zJ BK118.out 1).trans rfl;have hcz15_2:w13.cell? ⟨gb118,2,none⟩=some (.slice A0_2 l0_2.length c0_2):=(zJ BK118.out 2).trans rfl;have hfz15_0:=zI BK118.out 0;have hfz15_1:=zI BK118.out 1;have hfz15_2:=zI BK118.out 2)|((with_reducible refine yD (f:=37) rfl ?_);refine yM (some 14) rfl rfl Tryd.func37 (by kernel_rfl) rfl #[.slice A0_0 l0_0.length c0_0] rfl (by (try simp only [List.map_toArray,List.map_cons,List.map_nil]);first|done|rfl|(simp only [List.length_drop,List.length_take];rfl)) ?_;(with_reducible refine (slices_Min_int_int.calls _ _ l0_0 t120 _ ?side1 ?side2 A9.out).mono ?_);(case side1=>repeat (first|exact (yH HO0_0.out).2.2|(with_reducible refine yG ?_ _)|(with_reducible refine yF ?_ _)|(with_reducible refine yI ?_)));(case side2=>exact (yH HO0_0.out).2.1);rintro e w' ⟨rfl,⟨nd,rfl⟩⟩;refine ⟨_,rfl,?_⟩;(try (rw [drewN_self w13];generalize hq_:World.drewN w13 _=w13;(try replace hcz15_0:=cz_at hq_ hcz15_0);(try replace hcz15_1:=cz_at hq_ hcz15_1);(try replace hcz15_2:=cz_at hq_ hcz15_2);(try replace hfz15_0:=fz_at hq_ hfz15_0);(try replace hfz15_1:=fz_at hq_ hfz15_1);(try replace hfz15_2:=fz_at hq_ hfz15_2);have n0_:=Zk (V_att hq_ HO0_0.out);have n1_:=Zk (V_att hq_ HO0_1.out);have n2_:=Zk (V_att hq_ HO0_2.out);have n3_:=Zk (blk_at hq_ BK118.out);have n4_:=Zk (blk_at hq_ BK119.out);have n5_:=Zk (below_at hq_ HB.out);clear hq_ HO0_0 HO0_1 HO0_2 BK118 BK119 HB;have HO0_0:=n0_;have HO0_1:=n1_;have HO0_2:=n2_;have BK118:=n3_;have BK119:=n4_;have HB:=n5_;clear n0_ n1_ n2_ n3_ n4_ n5_)))|((with_reducible refine yT (N:=5) rfl ?_);refine yV ?hg (N:=5) ?hd (cs:=#[.int .i64 0]) (t:=3) ?hr ?_;(case hd=>rfl);(case hg=>rfl);(case hr=>first|(go_simp;done)|(go_simp;rfl));intro gb121 hg w16 hbox hb;have n0_:=Zk (zV (yC (by (with_reducible repeat (first|apply zL|apply zK|apply zM));exact HO0_0.out) gb121 (Nat.le_of_eq hg.symm)) hb);have n1_:=Zk (zV (yC (by (with_reducible repeat (first|apply zL|apply zK|apply zM));exact HO0_1.out) gb121 (Nat.le_of_eq hg.symm)) hb);have n2_:=Zk (zV (yC (by (with_reducible repeat (first|apply zL|apply zK|apply zM));exact HO0_2.out) gb121 (Nat.le_of_eq hg.symm)) hb);have n3_:=Zk (zW (g:=gb118) (o:=.cells #[.slice A0_0 l0_0.length c0_0,.slice A0_1 l0_1.length c0_1,.slice A0_2 l0_2.length c0_2] 30 (0,0)) (by (with_reducible repeat (first|refine zB ?_ _|refine zF ?_|refine zA ?_ _));exact BK118.out) hb);have n4_:=Zk (zW (g:=gb119) (o:=.cells #[.slice none 0 0,.slice none 0 0,.slice none 0 0] 30 (0,0)) (by (with_reducible repeat (first|refine zB ?_ _|refine zF ?_|refine zA ?_ _));exact BK119.out) hb);have n5_:=Zk (yA (by repeat (first|(with_reducible first|exact HB.out|apply zG|apply zD|apply zH|refine zC ?_ GE118.out|refine zC ?_ GE119.out)|exact HB.out)) hb);have n6_:=Zk (hbox);have n7_:=Zk ((by rw [hg];exact (zP (by repeat (first|(with_reducible first|exact HB.out|apply zG|apply zD|apply zH|refine zC ?_ GE118.out|refine zC ?_ GE119.out)|exact HB.out))):w.heap.size≤gb121));have n8_:=Zk ((by rw [hg];exact (zP (by repeat (first|(with_reducible first|exact HB.out|apply zG|apply zD|apply zH|refine zC ?_ GE118.out|refine zC ?_ GE119.out)|exact HB.out))):w.heap.size≤gb121));have n9_:=Zk ((by rw [hg];exact Nat.ne_of_lt (yN (g:=gb118) (o:=.cells #[.slice A0_0 l0_0.length c0_0,.slice A0_1 l0_1.length c0_1,.slice A0_2 l0_2.length c0_2] 30 (0,0)) (by (with_reducible repeat (first|refine zB ?_ _|refine zF ?_|refine zA ?_ _));exact BK118.out)):gb118≠gb121));have n10_:=Zk ((by rw [hg];exact Nat.ne_of_gt (yN (g:=gb118) (o:=.cells #[.slice A0_0 l0_0.length c0_0,.slice A0_1 l0_1.length c0_1,.slice A0_2 l0_2.length c0_2] 30 (0,0)) (by (with_reducible repeat (first|refine zB ?_ _|refine zF ?_|refine zA ?_ _));exact BK118.out)):gb121≠gb118));have n11_:=Zk ((by rw [hg];exact Nat.ne_of_lt (yN (g:=gb119) (o:=.cells #[.slice none 0 0,.slice none 0 0,.slice none 0 0] 30 (0,0)) (by (with_reducible repeat (first|refine zB ?_ _|refine zF ?_|refine zA ?_ _));exact BK119.out)):gb119≠gb121));have n12_:=Zk ((by rw [hg];exact Nat.ne_of_gt (yN (g:=gb119) (o:=.cells #[.slice none 0 0,.slice none 0 0,.slice none 0 0] 30 (0,0)) (by (with_reducible repeat (first|refine zB ?_ _|refine zF ?_|refine zA ?_ _));exact BK119.out)):gb121≠gb119));clear HO0_0;clear HO0_1;clear HO0_2;clear BK118;clear BK119;clear HB;have HO0_0:=n0_;have HO0_1:=n1_;have HO0_2:=n2_;have BK118:=n3_;have BK119:=n4_;have HB:=n5_;have BK121:=n6_;have GW121:=n7_;have GE121:=n8_;have NB118_121:=n9_;have NB121_118:=n10_;have NB119_121:=n11_;have NB121_119:=n12_;clear n0_ n1_ n2_ n3_ n4_ n5_ n6_ n7_ n8_ n9_ n10_ n11_ n12_;clear hb hbox hg;have hnb17:=NB121_118.out;have hnc17:=NB118_121.out;have hnb18:=NB121_119.out;have hnc18:=NB119_121.out;have hcz19_0:w16.cell? ⟨gb121,0,none⟩=some (.int .i64 0):=(zJ BK121.out 0).trans rfl;have hfz19_0:=zI BK121.out 0;have hcz20_0:w16.cell? ⟨gb118,0,none⟩=some (.slice A0_0 l0_0.length c0_0):=(zJ BK118.out 0).trans rfl;have hcz20_1:w16.cell? ⟨gb118,1,none⟩=some (.slice A0_1 l0_1.length c0_1):=(zJ BK118.out 1).trans rfl;have hcz20_2:w16.cell? ⟨gb118,2,none⟩=some (.slice A0_2 l0_2.length c0_2):=(zJ BK118.out 2).trans rfl;have hfz20_0:=zI BK118.out 0;have hfz20_1:=zI BK118.out 1;have hfz20_2:=zI BK118.out 2)|((with_reducible refine yD (f:=38) rfl ?_);refine yM (some 17) rfl rfl Tryd.func38 (by kernel_rfl) rfl #[.slice A0_0 l0_0.length c0_0,.int .i64 9] rfl (by (try simp only [List.map_toArray,List.map_cons,List.map_nil]);first|done|rfl|(simp only [List.length_drop,List.length_take];rfl)) ?_;(with_reducible refine (slices_Contains_int_int.calls k _ _ l0_0 9 t122 _ ?side1 ?side2 A10.out).mono ?_);(case side1=>refine (yH (e:=3) (base:=w.heap.size) (ok:=fun k_=>(((((P0_0_ k_∨P0_1_ k_∨P0_2_ k_)∨w.heap.size≤k_)∧k_≠gb118)∧k_≠gb119)∧k_≠gb121)) (n:=l0_0.length) (c:=c0_0) ?_).2.2;exact (by (with_reducible repeat (first|apply zL|apply zK|apply zM));exact (zO (zS (p:=⟨gb121,0,none⟩) (zO HO0_0.out (fun k_ hk=>(⟨hk,hk.2⟩:_∧k_≠gb121))) (fun _ hk=>hk.2) (.int .i64 t120)) (fun _ h_=>h_.1))));(case side2=>exact (yH HO0_0.out).2.1);rintro e w' ⟨rfl,⟨nd,rfl⟩⟩;refine ⟨_,rfl,?_⟩))
  (try simp only [Act.put,List.setIfInBounds_toArray,List.set_cons_zero,List.set_cons_succ])
  go_cut [] (fun wc=>∃ (kq:Nat) (x122000_10:Int),zN (signal_Next.j0 kq l0_0 l0_1 l0_2 x122000_10=some (r1,r2,r3,r4,r5))∧zN (kq≤k)∧zN (Kd.V (Kd.int .i64) 3 wc w.heap.size (fun k_=>((P0_0_ k_∨P0_1_ k_∨P0_2_ k_)∨w.heap.size≤k_)∧k_≠gb118∧k_≠gb119∧k_≠gb121) (.slice A0_0 l0_0.length c0_0) l0_0)∧zN (Kd.V (Kd.int .i64) 3 wc w.heap.size (fun k_=>((P0_0_ k_∨P0_1_ k_∨P0_2_ k_)∨w.heap.size≤k_)∧k_≠gb118∧k_≠gb119∧k_≠gb121) (.slice A0_1 l0_1.length c0_1) l0_1)∧zN (Kd.V (Kd.int .i64) 3 wc w.heap.size (fun k_=>((P0_0_ k_∨P0_1_ k_∨P0_2_ k_)∨w.heap.size≤k_)∧k_≠gb118∧k_≠gb119∧k_≠gb121) (.slice A0_2 l0_2.length c0_2) l0_2)∧zN (wc.heap[gb118]?=some (.cells #[(.slice A0_0 l0_0.length c0_0),(.slice A0_1 l0_1.length c0_1),(.slice A0_2 l0_2.length c0_2)] 30 (0,0)))∧zN (wc.heap[gb119]?=some (.cells #[(.slice none 0 0),(.slice none 0 0),(.slice none 0 0)] 30 (0,0)))∧zN (wc.heap[gb121]?=some (.cells #[.int .i64 x122000_10] 3 (0,0)))∧zN (Below w.heap.size w wc))
  case first=>
   have H:=HC11.out
   clear HC11
   by_cases c21:t122=true
   ·subst c21
    have H1:(signal_Next.j0 k l0_0 l0_1 l0_2 9)=some (r1,r2,r3,r4,r5):=by rw [if_pos rfl] at H;exact H
    clear H
    have H:=H1
    clear H1
    have H':=Zk H
    clear H
    have hnb22:=NB121_118.out
    have hnc22:=NB118_121.out
    have hnb23:=NB121_119.out
    have hnc23:=NB119_121.out
    have hcz24_0:w16.cell? ⟨gb121,0,none⟩=some (.int .i64 0):=(zJ BK121.out 0).trans rfl
    have hfz24_0:=zI BK121.out 0
    go_wp2
    go_meet
    case rel=>exact ⟨_,(9),H',⟨by first|omega|exact Nat.le_refl _⟩,⟨by (with_reducible repeat (first|apply zL|apply zK|apply zM));exact zO (zS (p:=⟨gb121,0,none⟩) (zS (p:=⟨gb121,0,none⟩) (zO HO0_0.out (fun k_ hk=>(⟨hk,hk.2⟩:_∧k_≠gb121))) (fun _ hk=>hk.2) (.int .i64 t120)) (fun _ hk=>hk.2) (.int .i64 9)) (fun _ hk=>⟨hk.1.1.1.1,⟨hk.1.1.1.2,⟨hk.1.1.2,hk.1.2⟩⟩⟩)⟩,⟨by (with_reducible repeat (first|apply zL|apply zK|apply zM));exact zO (zS (p:=⟨gb121,0,none⟩) (zS (p:=⟨gb121,0,none⟩) (zO HO0_1.out (fun k_ hk=>(⟨hk,hk.2⟩:_∧k_≠gb121))) (fun _ hk=>hk.2) (.int .i64 t120)) (fun _ hk=>hk.2) (.int .i64 9)) (fun _ hk=>⟨hk.1.1.1.1,⟨hk.1.1.1.2,⟨hk.1.1.2,hk.1.2⟩⟩⟩)⟩,⟨by (with_reducible repeat (first|apply zL|apply zK|apply zM));exact zO (zS (p:=⟨gb121,0,none⟩) (zS (p:=⟨gb121,0,none⟩) (zO HO0_2.out (fun k_ hk=>(⟨hk,hk.2⟩:_∧k_≠gb121))) (fun _ hk=>hk.2) (.int .i64 t120)) (fun _ hk=>hk.2) (.int .i64 9)) (fun _ hk=>⟨hk.1.1.1.1,⟨hk.1.1.1.2,⟨hk.1.1.2,hk.1.2⟩⟩⟩)⟩,⟨by (with_reducible repeat (first|refine zB ?_ _|refine zF ?_|refine zA ?_ _));refine zY ?_ NB118_121.out _;(with_reducible repeat (first|refine zB ?_ _|refine zF ?_|refine zA ?_ _));refine zY ?_ NB118_121.out _;(with_reducible repeat (first|refine zB ?_ _|refine zF ?_|refine zA ?_ _));exact BK118.out⟩,⟨by (with_reducible repeat (first|refine zB ?_ _|refine zF ?_|refine zA ?_ _));refine zY ?_ NB119_121.out _;(with_reducible repeat (first|refine zB ?_ _|refine zF ?_|refine zA ?_ _));refine zY ?_ NB119_121.out _;(with_reducible repeat (first|refine zB ?_ _|refine zF ?_|refine zA ?_ _));exact BK119.out⟩,⟨by (with_reducible repeat (first|refine zB ?_ _|refine zF ?_|refine zA ?_ _));refine yE (cs:=#[.int .i64 t120]) ?_ 0 _ rfl;(with_reducible repeat (first|refine zB ?_ _|refine zF ?_|refine zA ?_ _));refine yE (cs:=#[.int .i64 0]) ?_ 0 _ rfl;(with_reducible repeat (first|refine zB ?_ _|refine zF ?_|refine zA ?_ _));exact BK121.out⟩,⟨by repeat (first|(with_reducible first|exact HB.out|apply zG|apply zD|apply zH|refine zC ?_ GE118.out|refine zC ?_ GE119.out|refine zC ?_ GE121.out)|exact HB.out)⟩⟩
   ·replace c21:=Bool.eq_false_iff.mpr c21
    subst c21
    have H1:(signal_Next.j0 k l0_0 l0_1 l0_2 t120)=some (r1,r2,r3,r4,r5):=by rw [if_neg (show ¬ (false=true) by decide)] at H;exact H
    clear H
    have H:=H1
    clear H1
    have H':=Zk H
    clear H
    go_wp2
    go_meet
    case rel=>exact ⟨_,(t120),H',⟨by first|omega|exact Nat.le_refl _⟩,⟨by (with_reducible repeat (first|apply zL|apply zK|apply zM));exact zO (zS (p:=⟨gb121,0,none⟩) (zO HO0_0.out (fun k_ hk=>(⟨hk,hk.2⟩:_∧k_≠gb121))) (fun _ hk=>hk.2) (.int .i64 t120)) (fun _ hk=>⟨hk.1.1.1.1,⟨hk.1.1.1.2,⟨hk.1.1.2,hk.1.2⟩⟩⟩)⟩,⟨by (with_reducible repeat (first|apply zL|apply zK|apply zM));exact zO (zS (p:=⟨gb121,0,none⟩) (zO HO0_1.out (fun k_ hk=>(⟨hk,hk.2⟩:_∧k_≠gb121))) (fun _ hk=>hk.2) (.int .i64 t120)) (fun _ hk=>⟨hk.1.1.1.1,⟨hk.1.1.1.2,⟨hk.1.1.2,hk.1.2⟩⟩⟩)⟩,⟨by (with_reducible repeat (first|apply zL|apply zK|apply zM));exact zO (zS (p:=⟨gb121,0,none⟩) (zO HO0_2.out (fun k_ hk=>(⟨hk,hk.2⟩:_∧k_≠gb121))) (fun _ hk=>hk.2) (.int .i64 t120)) (fun _ hk=>⟨hk.1.1.1.1,⟨hk.1.1.1.2,⟨hk.1.1.2,hk.1.2⟩⟩⟩)⟩,⟨by (with_reducible repeat (first|refine zB ?_ _|refine zF ?_|refine zA ?_ _));refine zY ?_ NB118_121.out _;(with_reducible repeat (first|refine zB ?_ _|refine zF ?_|refine zA ?_ _));exact BK118.out⟩,⟨by (with_reducible repeat (first|refine zB ?_ _|refine zF ?_|refine zA ?_ _));refine zY ?_ NB119_121.out _;(with_reducible repeat (first|refine zB ?_ _|refine zF ?_|refine zA ?_ _));exact BK119.out⟩,⟨by (with_reducible repeat (first|refine zB ?_ _|refine zF ?_|refine zA ?_ _));refine yE (cs:=#[.int .i64 0]) ?_ 0 _ rfl;(with_reducible repeat (first|refine zB ?_ _|refine zF ?_|refine zA ?_ _));exact BK121.out⟩,⟨by repeat (first|(with_reducible first|exact HB.out|apply zG|apply zD|apply zH|refine zC ?_ GE118.out|refine zC ?_ GE119.out|refine zC ?_ GE121.out)|exact HB.out)⟩⟩
  case rest=>
   clear HC11
   try clear c1
   try clear c2
   try clear c2b0
   try clear c2b1
   try clear c2b2
   try clear p2
   try clear c3
   try clear c5
   try clear c14
   try clear c17
   try clear c18
   try clear c19
   try clear c21
   try clear c22
   try clear c23
   try clear hcz15_0
   try clear hcz15_1
   try clear hcz15_2
   try clear hcz19_0
   try clear hcz20_0
   try clear hcz20_1
   try clear hcz20_2
   try clear hcz24_0
   try clear hcz6_0
   try clear hcz6_1
   try clear hcz6_2
   try clear hcz7_0
   try clear hcz7_1
   try clear hcz7_2
   try clear hfz15_0
   try clear hfz15_1
   try clear hfz15_2
   try clear hfz19_0
   try clear hfz20_0
   try clear hfz20_1
   try clear hfz20_2
   try clear hfz24_0
   try clear hfz6_0
   try clear hfz6_1
   try clear hfz6_2
   try clear hfz7_0
   try clear hfz7_1
   try clear hfz7_2
   obtain ⟨kq,x122000_10,HA,HJ10,HO_119000,HO_119001,HO_119002,BK118,BK119,BK121,HB⟩:=hcut
   cases kq with
   |zero=>exact absurd HA.out (by simp [signal_Next.j0])
   |succ kj10=>
    have H:=HA.out
    clear HA
    simp only [signal_Next.j0] at H
    replace H:=Option.bind_eq_some_iff.mp H
    obtain ⟨t123,A250,H⟩:=H
    replace H:((slices_Contains_int_int.f kj10 l0_2 x122000_10).bind fun t124=>(if t124=true then ((signal_copied.f l0_0 l0_1 l0_2).bind fun bt125=>((signal_without_1_41.f bt125.1 x122000_10).bind fun t134=>(some (t134,bt125.2.1,bt125.2.2,x122000_10,4)))) else ((signal_copied.f l0_0 l0_1 l0_2).bind fun bt137=>((signal_without_1_41.f bt137.1 x122000_10).bind fun t146=>(some (t146,bt137.2.1,bt137.2.2,x122000_10,t123))))))=some (r1,r2,r3,r4,r5):=H
    have A25:=Zk A250
    clear A250
    replace H:=Option.bind_eq_some_iff.mp H
    obtain ⟨t124,A260,H⟩:=H
    replace H:(if t124=true then ((signal_copied.f l0_0 l0_1 l0_2).bind fun bt125=>((signal_without_1_41.f bt125.1 x122000_10).bind fun t134=>(some (t134,bt125.2.1,bt125.2.2,x122000_10,4)))) else ((signal_copied.f l0_0 l0_1 l0_2).bind fun bt137=>((signal_without_1_41.f bt137.1 x122000_10).bind fun t146=>(some (t146,bt137.2.1,bt137.2.2,x122000_10,t123)))))=some (r1,r2,r3,r4,r5):=H
    have A26:=Zk A260
    clear A260
    by_cases c27:t124=true
    ·subst c27
     have H1:((signal_copied.f l0_0 l0_1 l0_2).bind fun bt125=>((signal_without_1_41.f bt125.1 x122000_10).bind fun t134=>(some (t134,bt125.2.1,bt125.2.2,x122000_10,4))))=some (r1,r2,r3,r4,r5):=by rw [if_pos rfl] at H;exact H
     clear H
     have H:=H1
     clear H1
     replace H:=Option.bind_eq_some_iff.mp H
     obtain ⟨⟨t125,t128,t131⟩,A280,H⟩:=H
     replace H:((signal_without_1_41.f t125 x122000_10).bind fun t134=>(some (t134,t128,t131,x122000_10,4)))=some (r1,r2,r3,r4,r5):=H
     have A28:=Zk A280
     clear A280
     replace H:=Option.bind_eq_some_iff.mp H
     obtain ⟨t134,A290,H⟩:=H
     replace H:(some (t134,t128,t131,x122000_10,4))=some (r1,r2,r3,r4,r5):=H
     have A29:=Zk A290
     clear A290
     simp only [Option.some.injEq,Prod.mk.injEq] at H
     obtain ⟨rfl,rfl,rfl,rfl,rfl⟩:=H
     have hnb30:=NB121_118.out
     have hnc30:=NB118_121.out
     have hnb31:=NB121_119.out
     have hnc31:=NB119_121.out
     have hcz32_0:wc.cell? ⟨gb121,0,none⟩=some (.int .i64 x122000_10):=(zJ BK121.out 0).trans rfl
     have hfz32_0:=zI BK121.out 0
     try go_wp2_with (first|((with_reducible refine yD (f:=15) rfl ?_);refine yM (some 19) rfl rfl Tryd.func15 (by kernel_rfl) rfl #[.int .i64 x122000_10] rfl (by (try simp only [List.map_toArray,List.map_cons,List.map_nil]);first|done|rfl|(simp only [List.length_drop,List.length_take];rfl)) ?_;(with_reducible refine (signal_Default.calls x122000_10 t123 _ A25.out).mono ?_);rintro e w33 ⟨rfl,hb⟩;refine ⟨_,rfl,?_⟩;have n0_:=Zk (zV (by (with_reducible repeat (first|apply zL|apply zK|apply zM));exact HO_119000.out) hb);have n1_:=Zk (zV (by (with_reducible repeat (first|apply zL|apply zK|apply zM));exact HO_119001.out) hb);have n2_:=Zk (zV (by (with_reducible repeat (first|apply zL|apply zK|apply zM));exact HO_119002.out) hb);have n3_:=Zk (zW (g:=gb118) (o:=.cells #[.slice A0_0 l0_0.length c0_0,.slice A0_1 l0_1.length c0_1,.slice A0_2 l0_2.length c0_2] 30 (0,0)) (by (with_reducible repeat (first|refine zB ?_ _|refine zF ?_|refine zA ?_ _));exact BK118.out) hb);have n4_:=Zk (zW (g:=gb119) (o:=.cells #[.slice none 0 0,.slice none 0 0,.slice none 0 0] 30 (0,0)) (by (with_reducible repeat (first|refine zB ?_ _|refine zF ?_|refine zA ?_ _));exact BK119.out) hb);have n5_:=Zk (zW (g:=gb121) (o:=.cells #[.int .i64 x122000_10] 3 (0,0)) (by (with_reducible repeat (first|refine zB ?_ _|refine zF ?_|refine zA ?_ _));exact BK121.out) hb);have n6_:=Zk (yA (by repeat (first|(with_reducible first|exact HB.out|apply zG|apply zD|apply zH|refine zC ?_ GE118.out|refine zC ?_ GE119.out|refine zC ?_ GE121.out)|exact HB.out)) hb);clear HO_119000;clear HO_119001;clear HO_119002;clear BK118;clear BK119;clear BK121;clear HB;have HO_119000:=n0_;have HO_119001:=n1_;have HO_119002:=n2_;have BK118:=n3_;have BK119:=n4_;have BK121:=n5_;have HB:=n6_;clear n0_ n1_ n2_ n3_ n4_ n5_ n6_;(try clear hb);(try clear hb2);(try clear hk);(try clear hi);have hnb34:=NB118_119.out;have hnc34:=NB119_118.out;have hcz35_0:w33.cell? ⟨gb118,0,none⟩=some (.slice A0_0 l0_0.length c0_0):=(zJ BK118.out 0).trans rfl;have hcz35_1:w33.cell? ⟨gb118,1,none⟩=some (.slice A0_1 l0_1.length c0_1):=(zJ BK118.out 1).trans rfl;have hcz35_2:w33.cell? ⟨gb118,2,none⟩=some (.slice A0_2 l0_2.length c0_2):=(zJ BK118.out 2).trans rfl;have hfz35_0:=zI BK118.out 0;have hfz35_1:=zI BK118.out 1;have hfz35_2:=zI BK118.out 2;have hcz36_0:w33.cell? ⟨gb121,0,none⟩=some (.int .i64 x122000_10):=(zJ BK121.out 0).trans rfl;have hfz36_0:=zI BK121.out 0)|((with_reducible refine yD (f:=38) rfl ?_);refine yM (some 23) rfl rfl Tryd.func38 (by kernel_rfl) rfl #[.slice A0_2 l0_2.length c0_2,.int .i64 x122000_10] rfl (by (try simp only [List.map_toArray,List.map_cons,List.map_nil]);first|done|rfl|(simp only [List.length_drop,List.length_take];rfl)) ?_;(with_reducible refine (slices_Contains_int_int.calls kj10 _ _ l0_2 x122000_10 true _ ?side1 ?side2 A26.out).mono ?_);(case side1=>repeat (first|exact (yH HO_119002.out).2.2|(with_reducible refine yG ?_ _)|(with_reducible refine yF ?_ _)|(with_reducible refine yI ?_)));(case side2=>exact (yH HO_119002.out).2.1);rintro e w' ⟨rfl,⟨nd,rfl⟩⟩;refine ⟨_,rfl,?_⟩;(try (rw [drewN_self w33];generalize hq_:World.drewN w33 _=w33;(try replace hcz35_0:=cz_at hq_ hcz35_0);(try replace hcz35_1:=cz_at hq_ hcz35_1);(try replace hcz35_2:=cz_at hq_ hcz35_2);(try replace hcz36_0:=cz_at hq_ hcz36_0);(try replace hfz35_0:=fz_at hq_ hfz35_0);(try replace hfz35_1:=fz_at hq_ hfz35_1);(try replace hfz35_2:=fz_at hq_ hfz35_2);(try replace hfz36_0:=fz_at hq_ hfz36_0);have n0_:=Zk (V_att hq_ HO_119000.out);have n1_:=Zk (V_att hq_ HO_119001.out);have n2_:=Zk (V_att hq_ HO_119002.out);have n3_:=Zk (blk_at hq_ BK118.out);have n4_:=Zk (blk_at hq_ BK119.out);have n5_:=Zk (blk_at hq_ BK121.out);have n6_:=Zk (below_at hq_ HB.out);clear hq_ HO_119000 HO_119001 HO_119002 BK118 BK119 BK121 HB;have HO_119000:=n0_;have HO_119001:=n1_;have HO_119002:=n2_;have BK118:=n3_;have BK119:=n4_;have BK121:=n5_;have HB:=n6_;clear n0_ n1_ n2_ n3_ n4_ n5_ n6_)))|((with_reducible refine yD (f:=39) rfl ?_);refine yM (some 25) rfl rfl Tryd.func39 (by kernel_rfl) rfl #[.agg #[.slice A0_0 l0_0.length c0_0,.slice A0_1 l0_1.length c0_1,.slice A0_2 l0_2.length c0_2]] rfl (by (try simp only [List.map_toArray,List.map_cons,List.map_nil]);first|done|rfl|(simp only [List.length_drop,List.length_take];rfl)) ?_;(with_reducible refine (signal_copied.calls _ _ l0_0 _ _ l0_1 _ _ l0_2 t125 t128 t131 _ ?side1 ?side2 ?side3 ?side4 ?side5 ?side6 A28.out).mono ?_);(case side1=>repeat (first|exact (yH HO_119000.out).2.2|(with_reducible refine yG ?_ _)|(with_reducible refine yF ?_ _)|(with_reducible refine yI ?_)));(case side2=>exact (yH HO_119000.out).2.1);(case side3=>repeat (first|exact (yH HO_119001.out).2.2|(with_reducible refine yG ?_ _)|(with_reducible refine yF ?_ _)|(with_reducible refine yI ?_)));(case side4=>exact (yH HO_119001.out).2.1);(case side5=>repeat (first|exact (yH HO_119002.out).2.2|(with_reducible refine yG ?_ _)|(with_reducible refine yF ?_ _)|(with_reducible refine yI ?_)));(case side6=>exact (yH HO_119002.out).2.1);rintro e w37 ⟨v126,v129,v132,rfl,ho0,ho1,ho2,hb⟩;refine ⟨_,rfl,?_⟩;have n0_:=Zk (zO (yO (yO (yO (V_old (by (with_reducible repeat (first|apply zL|apply zK|apply zM));exact HO_119000.out) hb) (zZ ho0)) (zZ ho1)) (zZ ho2)) (fun _ h_=>h_.1));have n1_:=Zk (zO (yO (yO (yO (V_old (by (with_reducible repeat (first|apply zL|apply zK|apply zM));exact HO_119001.out) hb) (zZ ho0)) (zZ ho1)) (zZ ho2)) (fun _ h_=>h_.1));have n2_:=Zk (zO (yO (yO (yO (V_old (by (with_reducible repeat (first|apply zL|apply zK|apply zM));exact HO_119002.out) hb) (zZ ho0)) (zZ ho1)) (zZ ho2)) (fun _ h_=>h_.1));have n3_:=Zk (yU (R_newB (R_newM (M:=fun k_=>(w.heap.size≤k_)) ho0 (zP (by repeat (first|(with_reducible first|exact HB.out|apply zG|apply zD|apply zH|refine zC ?_ GE118.out|refine zC ?_ GE119.out|refine zC ?_ GE121.out)|exact HB.out))) (fun k_ h_=>h_)) (g:=gb121) (o:=.cells #[.int .i64 x122000_10] 3 (0,0)) (by (with_reducible repeat (first|refine zB ?_ _|refine zF ?_|refine zA ?_ _));exact BK121.out)) (zP (by repeat (first|(with_reducible first|exact HB.out|apply zG|apply zD|apply zH|refine zC ?_ GE118.out|refine zC ?_ GE119.out|refine zC ?_ GE121.out)|exact HB.out))));have n4_:=Zk (yU (R_newB (R_newM (M:=fun k_=>(w.heap.size≤k_)) ho1 (zP (by repeat (first|(with_reducible first|exact HB.out|apply zG|apply zD|apply zH|refine zC ?_ GE118.out|refine zC ?_ GE119.out|refine zC ?_ GE121.out)|exact HB.out))) (fun k_ h_=>h_)) (g:=gb121) (o:=.cells #[.int .i64 x122000_10] 3 (0,0)) (by (with_reducible repeat (first|refine zB ?_ _|refine zF ?_|refine zA ?_ _));exact BK121.out)) (zP (by repeat (first|(with_reducible first|exact HB.out|apply zG|apply zD|apply zH|refine zC ?_ GE118.out|refine zC ?_ GE119.out|refine zC ?_ GE121.out)|exact HB.out))));have n5_:=Zk (yU (R_newB (R_newM (M:=fun k_=>(w.heap.size≤k_)) ho2 (zP (by repeat (first|(with_reducible first|exact HB.out|apply zG|apply zD|apply zH|refine zC ?_ GE118.out|refine zC ?_ GE119.out|refine zC ?_ GE121.out)|exact HB.out))) (fun k_ h_=>h_)) (g:=gb121) (o:=.cells #[.int .i64 x122000_10] 3 (0,0)) (by (with_reducible repeat (first|refine zB ?_ _|refine zF ?_|refine zA ?_ _));exact BK121.out)) (zP (by repeat (first|(with_reducible first|exact HB.out|apply zG|apply zD|apply zH|refine zC ?_ GE118.out|refine zC ?_ GE119.out|refine zC ?_ GE121.out)|exact HB.out))));have n6_:=Zk (zW (g:=gb118) (o:=.cells #[.slice A0_0 l0_0.length c0_0,.slice A0_1 l0_1.length c0_1,.slice A0_2 l0_2.length c0_2] 30 (0,0)) (by (with_reducible repeat (first|refine zB ?_ _|refine zF ?_|refine zA ?_ _));exact BK118.out) hb);have n7_:=Zk (zW (g:=gb119) (o:=.cells #[.slice none 0 0,.slice none 0 0,.slice none 0 0] 30 (0,0)) (by (with_reducible repeat (first|refine zB ?_ _|refine zF ?_|refine zA ?_ _));exact BK119.out) hb);have n8_:=Zk (zW (g:=gb121) (o:=.cells #[.int .i64 x122000_10] 3 (0,0)) (by (with_reducible repeat (first|refine zB ?_ _|refine zF ?_|refine zA ?_ _));exact BK121.out) hb);have n9_:=Zk (yA (by repeat (first|(with_reducible first|exact HB.out|apply zG|apply zD|apply zH|refine zC ?_ GE118.out|refine zC ?_ GE119.out|refine zC ?_ GE121.out)|exact HB.out)) hb);clear HO_119000;clear HO_119001;clear HO_119002;clear BK118;clear BK119;clear BK121;clear HB;have HO_119000:=n0_;have HO_119001:=n1_;have HO_119002:=n2_;have HO127:=n3_;have HO130:=n4_;have HO133:=n5_;have BK118:=n6_;have BK119:=n7_;have BK121:=n8_;have HB:=n9_;clear n0_ n1_ n2_ n3_ n4_ n5_ n6_ n7_ n8_ n9_;(try clear hb);(try clear hb2);(try clear hk);(try clear hi);(try clear ho0);(try clear ho1);(try clear ho2);obtain ⟨Ao38,co38,eo38⟩:=yQ HO127.out;subst eo38;have hcz39_0:w37.cell? ⟨gb118,0,none⟩=some (.slice A0_0 l0_0.length c0_0):=(zJ BK118.out 0).trans rfl;have hcz39_1:w37.cell? ⟨gb118,1,none⟩=some (.slice A0_1 l0_1.length c0_1):=(zJ BK118.out 1).trans rfl;have hcz39_2:w37.cell? ⟨gb118,2,none⟩=some (.slice A0_2 l0_2.length c0_2):=(zJ BK118.out 2).trans rfl;have hfz39_0:=zI BK118.out 0;have hfz39_1:=zI BK118.out 1;have hfz39_2:=zI BK118.out 2;obtain ⟨Ao40,co40,eo40⟩:=yQ HO130.out;subst eo40;obtain ⟨Ao41,co41,eo41⟩:=yQ HO133.out;subst eo41)|((with_reducible refine xA (t:=30) (p:=1) rfl ?_);refine yY (t:=30) (p:=1) (v:=?vo_w42) (w1:=(((w37.setCell ⟨gb118,0,none⟩ (.slice Ao38 t125.length co38)).setCell ⟨gb118,1,none⟩ (.slice Ao40 t128.length co40)).setCell ⟨gb118,2,none⟩ (.slice Ao41 t131.length co41))) ?hg ?ho ?hn ?hr ?_;(case ho=>rfl);(case hg=>rfl);(case hn=>rfl);(case hr=>first|(go_simp;done)|(go_simp;rfl));intro w42 hw;have n0_:zN (Kd.V (Kd.int .i64) 3 w42 w.heap.size (fun k_=>((P0_0_ k_∨P0_1_ k_∨P0_2_ k_)∨w.heap.size≤k_)∧some k_≠(.slice Ao38 t125.length co38:Value).ownBlock∧some k_≠(.slice Ao40 t128.length co40:Value).ownBlock∧some k_≠(.slice Ao41 t131.length co41:Value).ownBlock∧k_≠gb118∧k_≠gb119∧k_≠gb121) (.slice A0_0 l0_0.length c0_0) l0_0):=⟨(by rw [hw];exact (by (with_reducible repeat (first|apply zL|apply zK|apply zM));exact zO (zS (p:=⟨gb118,2,none⟩) (zS (p:=⟨gb118,1,none⟩) (zS (p:=⟨gb118,0,none⟩) (zO HO_119000.out (fun k_ hk=>(⟨hk,hk.1.1.1.2.1⟩:_∧k_≠gb118))) (fun _ hk=>hk.2) (.slice Ao38 t125.length co38)) (fun _ hk=>hk.2) (.slice Ao40 t128.length co40)) (fun _ hk=>hk.2) (.slice Ao41 t131.length co41)) (fun _ hk=>⟨hk.1.1.1.1.1,⟨hk.1.1.1.2,⟨hk.1.1.2,⟨hk.1.2,⟨hk.1.1.1.1.2.1,⟨hk.1.1.1.1.2.2.1,hk.1.1.1.1.2.2.2⟩⟩⟩⟩⟩⟩)))⟩;have n1_:zN (Kd.V (Kd.int .i64) 3 w42 w.heap.size (fun k_=>((P0_0_ k_∨P0_1_ k_∨P0_2_ k_)∨w.heap.size≤k_)∧some k_≠(.slice Ao38 t125.length co38:Value).ownBlock∧some k_≠(.slice Ao40 t128.length co40:Value).ownBlock∧some k_≠(.slice Ao41 t131.length co41:Value).ownBlock∧k_≠gb118∧k_≠gb119∧k_≠gb121) (.slice A0_1 l0_1.length c0_1) l0_1):=⟨(by rw [hw];exact (by (with_reducible repeat (first|apply zL|apply zK|apply zM));exact zO (zS (p:=⟨gb118,2,none⟩) (zS (p:=⟨gb118,1,none⟩) (zS (p:=⟨gb118,0,none⟩) (zO HO_119001.out (fun k_ hk=>(⟨hk,hk.1.1.1.2.1⟩:_∧k_≠gb118))) (fun _ hk=>hk.2) (.slice Ao38 t125.length co38)) (fun _ hk=>hk.2) (.slice Ao40 t128.length co40)) (fun _ hk=>hk.2) (.slice Ao41 t131.length co41)) (fun _ hk=>⟨hk.1.1.1.1.1,⟨hk.1.1.1.2,⟨hk.1.1.2,⟨hk.1.2,⟨hk.1.1.1.1.2.1,⟨hk.1.1.1.1.2.2.1,hk.1.1.1.1.2.2.2⟩⟩⟩⟩⟩⟩)))⟩;have n2_:zN (Kd.V (Kd.int .i64) 3 w42 w.heap.size (fun k_=>((P0_0_ k_∨P0_1_ k_∨P0_2_ k_)∨w.heap.size≤k_)∧some k_≠(.slice Ao38 t125.length co38:Value).ownBlock∧some k_≠(.slice Ao40 t128.length co40:Value).ownBlock∧some k_≠(.slice Ao41 t131.length co41:Value).ownBlock∧k_≠gb118∧k_≠gb119∧k_≠gb121) (.slice A0_2 l0_2.length c0_2) l0_2):=⟨(by rw [hw];exact (by (with_reducible repeat (first|apply zL|apply zK|apply zM));exact zO (zS (p:=⟨gb118,2,none⟩) (zS (p:=⟨gb118,1,none⟩) (zS (p:=⟨gb118,0,none⟩) (zO HO_119002.out (fun k_ hk=>(⟨hk,hk.1.1.1.2.1⟩:_∧k_≠gb118))) (fun _ hk=>hk.2) (.slice Ao38 t125.length co38)) (fun _ hk=>hk.2) (.slice Ao40 t128.length co40)) (fun _ hk=>hk.2) (.slice Ao41 t131.length co41)) (fun _ hk=>⟨hk.1.1.1.1.1,⟨hk.1.1.1.2,⟨hk.1.1.2,⟨hk.1.2,⟨hk.1.1.1.1.2.1,⟨hk.1.1.1.1.2.2.1,hk.1.1.1.1.2.2.2⟩⟩⟩⟩⟩⟩)))⟩;have n3_:zN (Kd.R (Kd.int .i64) 3 w42 w.heap.size (fun k_=>(w.heap.size≤k_)∧some k_≠(.slice Ao40 t128.length co40:Value).ownBlock∧some k_≠(.slice Ao41 t131.length co41:Value).ownBlock∧k_≠gb121) (.slice Ao38 t125.length co38) t125):=⟨(by rw [hw];exact (by (with_reducible repeat (first|apply zR|apply zQ|apply zU));exact yB (zT (p:=⟨gb118,2,none⟩) (zT (p:=⟨gb118,1,none⟩) (zT (p:=⟨gb118,0,none⟩) (zX HO127.out BK118.out (by decide)) (fun _ hk=>hk.2) (.slice Ao38 t125.length co38)) (fun _ hk=>hk.2) (.slice Ao40 t128.length co40)) (fun _ hk=>hk.2) (.slice Ao41 t131.length co41)) (fun _ hk=>⟨hk.1.1.1,⟨hk.1.1.2.1,⟨hk.1.1.2.2,hk.1.2⟩⟩⟩)))⟩;have n4_:zN (Kd.R (Kd.int .i64) 3 w42 w.heap.size (fun k_=>(w.heap.size≤k_)∧some k_≠(.slice Ao38 t125.length co38:Value).ownBlock∧some k_≠(.slice Ao41 t131.length co41:Value).ownBlock∧k_≠gb121) (.slice Ao40 t128.length co40) t128):=⟨(by rw [hw];exact (by (with_reducible repeat (first|apply zR|apply zQ|apply zU));exact yB (zT (p:=⟨gb118,2,none⟩) (zT (p:=⟨gb118,1,none⟩) (zT (p:=⟨gb118,0,none⟩) (zX HO130.out BK118.out (by decide)) (fun _ hk=>hk.2) (.slice Ao38 t125.length co38)) (fun _ hk=>hk.2) (.slice Ao40 t128.length co40)) (fun _ hk=>hk.2) (.slice Ao41 t131.length co41)) (fun _ hk=>⟨hk.1.1.1,⟨hk.1.1.2.1,⟨hk.1.1.2.2,hk.1.2⟩⟩⟩)))⟩;have n5_:zN (Kd.R (Kd.int .i64) 3 w42 w.heap.size (fun k_=>(w.heap.size≤k_)∧some k_≠(.slice Ao38 t125.length co38:Value).ownBlock∧some k_≠(.slice Ao40 t128.length co40:Value).ownBlock∧k_≠gb121) (.slice Ao41 t131.length co41) t131):=⟨(by rw [hw];exact (by (with_reducible repeat (first|apply zR|apply zQ|apply zU));exact yB (zT (p:=⟨gb118,2,none⟩) (zT (p:=⟨gb118,1,none⟩) (zT (p:=⟨gb118,0,none⟩) (zX HO133.out BK118.out (by decide)) (fun _ hk=>hk.2) (.slice Ao38 t125.length co38)) (fun _ hk=>hk.2) (.slice Ao40 t128.length co40)) (fun _ hk=>hk.2) (.slice Ao41 t131.length co41)) (fun _ hk=>⟨hk.1.1.1,⟨hk.1.1.2.1,⟨hk.1.1.2.2,hk.1.2⟩⟩⟩)))⟩;have n6_:zN (w42.heap[gb118]?=some (.cells #[.slice Ao38 t125.length co38,.slice Ao40 t128.length co40,.slice Ao41 t131.length co41] 30 (0,0))):=⟨(by rw [hw];exact (by (with_reducible repeat (first|refine zB ?_ _|refine zF ?_|refine zA ?_ _));refine yE (cs:=#[.slice Ao38 t125.length co38,.slice Ao40 t128.length co40,.slice A0_2 l0_2.length c0_2]) ?_ 2 _ rfl;(with_reducible repeat (first|refine zB ?_ _|refine zF ?_|refine zA ?_ _));refine yE (cs:=#[.slice Ao38 t125.length co38,.slice A0_1 l0_1.length c0_1,.slice A0_2 l0_2.length c0_2]) ?_ 1 _ rfl;(with_reducible repeat (first|refine zB ?_ _|refine zF ?_|refine zA ?_ _));refine yE (cs:=#[.slice A0_0 l0_0.length c0_0,.slice A0_1 l0_1.length c0_1,.slice A0_2 l0_2.length c0_2]) ?_ 0 _ rfl;(with_reducible repeat (first|refine zB ?_ _|refine zF ?_|refine zA ?_ _));exact BK118.out))⟩;have n7_:zN (w42.heap[gb119]?=some (.cells #[.slice none 0 0,.slice none 0 0,.slice none 0 0] 30 (0,0))):=⟨(by rw [hw];exact (by (with_reducible repeat (first|refine zB ?_ _|refine zF ?_|refine zA ?_ _));refine zY ?_ NB119_118.out _;(with_reducible repeat (first|refine zB ?_ _|refine zF ?_|refine zA ?_ _));refine zY ?_ NB119_118.out _;(with_reducible repeat (first|refine zB ?_ _|refine zF ?_|refine zA ?_ _));refine zY ?_ NB119_118.out _;(with_reducible repeat (first|refine zB ?_ _|refine zF ?_|refine zA ?_ _));exact BK119.out))⟩;have n8_:zN (w42.heap[gb121]?=some (.cells #[.int .i64 x122000_10] 3 (0,0))):=⟨(by rw [hw];exact (by (with_reducible repeat (first|refine zB ?_ _|refine zF ?_|refine zA ?_ _));refine zY ?_ NB121_118.out _;(with_reducible repeat (first|refine zB ?_ _|refine zF ?_|refine zA ?_ _));refine zY ?_ NB121_118.out _;(with_reducible repeat (first|refine zB ?_ _|refine zF ?_|refine zA ?_ _));refine zY ?_ NB121_118.out _;(with_reducible repeat (first|refine zB ?_ _|refine zF ?_|refine zA ?_ _));exact BK121.out))⟩;have n9_:zN (Below w.heap.size w w42):=⟨(by rw [hw];exact (by repeat (first|(with_reducible first|exact HB.out|apply zG|apply zD|apply zH|refine zC ?_ GE118.out|refine zC ?_ GE119.out|refine zC ?_ GE121.out)|exact HB.out)))⟩;clear hw;clear HO_119000;clear HO_119001;clear HO_119002;clear HO127;clear HO130;clear HO133;clear BK118;clear BK119;clear BK121;clear HB;have HO_119000:=n0_;have HO_119001:=n1_;have HO_119002:=n2_;have HO127:=n3_;have HO130:=n4_;have HO133:=n5_;have BK118:=n6_;have BK119:=n7_;have BK121:=n8_;have HB:=n9_;clear n0_ n1_ n2_ n3_ n4_ n5_ n6_ n7_ n8_ n9_;have hcz43_0:w42.cell? ⟨gb118,0,none⟩=some (.slice Ao38 t125.length co38):=(zJ BK118.out 0).trans rfl;have hcz43_1:w42.cell? ⟨gb118,1,none⟩=some (.slice Ao40 t128.length co40):=(zJ BK118.out 1).trans rfl;have hcz43_2:w42.cell? ⟨gb118,2,none⟩=some (.slice Ao41 t131.length co41):=(zJ BK118.out 2).trans rfl;have hfz43_0:=zI BK118.out 0;have hfz43_1:=zI BK118.out 1;have hfz43_2:=zI BK118.out 2)|((with_reducible refine yD (f:=40) rfl ?_);refine yM (some 29) rfl rfl Tryd.func40 (by kernel_rfl) rfl #[.slice Ao38 t125.length co38,.func (.func 41) #[] #[.pointer (some ⟨gb121,0,none⟩)]] rfl (by (try simp only [List.map_toArray,List.map_cons,List.map_nil]);first|done|rfl|(simp only [List.length_drop,List.length_take];rfl)) ?_;(with_reducible refine (signal_without_1_41.calls _ _ t125 x122000_10 t134 _ ?side1 ?side2 ?side3 A29.out).mono ?_);(case side1=>repeat (first|exact (yZ HO127.out).2.2|(with_reducible refine yG ?_ _)|(with_reducible refine yF ?_ _)|(with_reducible refine yI ?_)));(case side2=>exact (yZ HO127.out).2.1);(case side3=>exact by (with_reducible repeat (first|refine zB ?_ _|refine zF ?_|refine zA ?_ _));exact BK121.out);rintro e w44 ⟨v135,rfl,ho0,hb⟩;refine ⟨_,rfl,?_⟩;have n0_:=Zk (yL (by (with_reducible repeat (first|apply zL|apply zK|apply zM));exact HO_119000.out) (zZ ho0) hb);have n1_:=Zk (yL (by (with_reducible repeat (first|apply zL|apply zK|apply zM));exact HO_119001.out) (zZ ho0) hb);have n2_:=Zk (yL (by (with_reducible repeat (first|apply zL|apply zK|apply zM));exact HO_119002.out) (zZ ho0) hb);have n3_:=Zk (yK (by (with_reducible repeat (first|apply zR|apply zQ|apply zU));exact HO127.out) (zZ ho0) hb);have n4_:=Zk (yK (by (with_reducible repeat (first|apply zR|apply zQ|apply zU));exact HO130.out) (zZ ho0) hb);have n5_:=Zk (yK (by (with_reducible repeat (first|apply zR|apply zQ|apply zU));exact HO133.out) (zZ ho0) hb);have n6_:=Zk (yU (R_newB (yR (yR (yR (R_newM (M:=fun k_=>(w.heap.size≤k_)) ho0 (zP (by repeat (first|(with_reducible first|exact HB.out|apply zG|apply zD|apply zH|refine zC ?_ GE118.out|refine zC ?_ GE119.out|refine zC ?_ GE121.out)|exact HB.out))) (fun k_ h_=>h_)) (R_lt (by (with_reducible repeat (first|apply zR|apply zQ|apply zU));exact HO127.out))) (R_lt (by (with_reducible repeat (first|apply zR|apply zQ|apply zU));exact HO130.out))) (R_lt (by (with_reducible repeat (first|apply zR|apply zQ|apply zU));exact HO133.out))) (g:=gb121) (o:=.cells #[.int .i64 x122000_10] 3 (0,0)) (by (with_reducible repeat (first|refine zB ?_ _|refine zF ?_|refine zA ?_ _));exact BK121.out)) (zP (by repeat (first|(with_reducible first|exact HB.out|apply zG|apply zD|apply zH|refine zC ?_ GE118.out|refine zC ?_ GE119.out|refine zC ?_ GE121.out)|exact HB.out))));have n7_:=Zk (zW (g:=gb118) (o:=.cells #[.slice Ao38 t125.length co38,.slice Ao40 t128.length co40,.slice Ao41 t131.length co41] 30 (0,0)) (by (with_reducible repeat (first|refine zB ?_ _|refine zF ?_|refine zA ?_ _));exact BK118.out) hb);have n8_:=Zk (zW (g:=gb119) (o:=.cells #[.slice none 0 0,.slice none 0 0,.slice none 0 0] 30 (0,0)) (by (with_reducible repeat (first|refine zB ?_ _|refine zF ?_|refine zA ?_ _));exact BK119.out) hb);have n9_:=Zk (zW (g:=gb121) (o:=.cells #[.int .i64 x122000_10] 3 (0,0)) (by (with_reducible repeat (first|refine zB ?_ _|refine zF ?_|refine zA ?_ _));exact BK121.out) hb);have n10_:=Zk (yA (by repeat (first|(with_reducible first|exact HB.out|apply zG|apply zD|apply zH|refine zC ?_ GE118.out|refine zC ?_ GE119.out|refine zC ?_ GE121.out)|exact HB.out)) hb);clear HO_119000;clear HO_119001;clear HO_119002;clear HO127;clear HO130;clear HO133;clear BK118;clear BK119;clear BK121;clear HB;have HO_119000:=n0_;have HO_119001:=n1_;have HO_119002:=n2_;have HO127:=n3_;have HO130:=n4_;have HO133:=n5_;have HO136:=n6_;have BK118:=n7_;have BK119:=n8_;have BK121:=n9_;have HB:=n10_;clear n0_ n1_ n2_ n3_ n4_ n5_ n6_ n7_ n8_ n9_ n10_;(try clear hb);(try clear hb2);(try clear hk);(try clear hi);(try clear ho0);obtain ⟨Ao45,co45,eo45⟩:=yQ HO136.out;subst eo45;have hcz46_0:w44.cell? ⟨gb118,0,none⟩=some (.slice Ao38 t125.length co38):=(zJ BK118.out 0).trans rfl;have hcz46_1:w44.cell? ⟨gb118,1,none⟩=some (.slice Ao40 t128.length co40):=(zJ BK118.out 1).trans rfl;have hcz46_2:w44.cell? ⟨gb118,2,none⟩=some (.slice Ao41 t131.length co41):=(zJ BK118.out 2).trans rfl;have hfz46_0:=zI BK118.out 0;have hfz46_1:=zI BK118.out 1;have hfz46_2:=zI BK118.out 2))
     have n0_:zN (Kd.V (Kd.int .i64) 3 (w44.setCell ⟨gb118,0,none⟩ (.slice Ao45 t134.length co45)) w.heap.size (fun k_=>((P0_0_ k_∨P0_1_ k_∨P0_2_ k_)∨w.heap.size≤k_)∧some k_≠(.slice Ao38 t125.length co38:Value).ownBlock∧some k_≠(.slice Ao40 t128.length co40:Value).ownBlock∧some k_≠(.slice Ao41 t131.length co41:Value).ownBlock∧some k_≠(.slice Ao45 t134.length co45:Value).ownBlock∧k_≠gb118∧k_≠gb119∧k_≠gb121) (.slice A0_0 l0_0.length c0_0) l0_0):=⟨by (with_reducible repeat (first|apply zL|apply zK|apply zM));exact zO (zS (p:=⟨gb118,0,none⟩) (zO HO_119000.out (fun k_ hk=>(⟨hk,hk.1.2.2.2.2.1⟩:_∧k_≠gb118))) (fun _ hk=>hk.2) (.slice Ao45 t134.length co45)) (fun _ hk=>⟨hk.1.1.1,⟨hk.1.1.2.1,⟨hk.1.1.2.2.1,⟨hk.1.1.2.2.2.1,⟨hk.1.2,⟨hk.1.1.2.2.2.2.1,⟨hk.1.1.2.2.2.2.2.1,hk.1.1.2.2.2.2.2.2⟩⟩⟩⟩⟩⟩⟩)⟩
     have n1_:zN (Kd.V (Kd.int .i64) 3 (w44.setCell ⟨gb118,0,none⟩ (.slice Ao45 t134.length co45)) w.heap.size (fun k_=>((P0_0_ k_∨P0_1_ k_∨P0_2_ k_)∨w.heap.size≤k_)∧some k_≠(.slice Ao38 t125.length co38:Value).ownBlock∧some k_≠(.slice Ao40 t128.length co40:Value).ownBlock∧some k_≠(.slice Ao41 t131.length co41:Value).ownBlock∧some k_≠(.slice Ao45 t134.length co45:Value).ownBlock∧k_≠gb118∧k_≠gb119∧k_≠gb121) (.slice A0_1 l0_1.length c0_1) l0_1):=⟨by (with_reducible repeat (first|apply zL|apply zK|apply zM));exact zO (zS (p:=⟨gb118,0,none⟩) (zO HO_119001.out (fun k_ hk=>(⟨hk,hk.1.2.2.2.2.1⟩:_∧k_≠gb118))) (fun _ hk=>hk.2) (.slice Ao45 t134.length co45)) (fun _ hk=>⟨hk.1.1.1,⟨hk.1.1.2.1,⟨hk.1.1.2.2.1,⟨hk.1.1.2.2.2.1,⟨hk.1.2,⟨hk.1.1.2.2.2.2.1,⟨hk.1.1.2.2.2.2.2.1,hk.1.1.2.2.2.2.2.2⟩⟩⟩⟩⟩⟩⟩)⟩
     have n2_:zN (Kd.V (Kd.int .i64) 3 (w44.setCell ⟨gb118,0,none⟩ (.slice Ao45 t134.length co45)) w.heap.size (fun k_=>((P0_0_ k_∨P0_1_ k_∨P0_2_ k_)∨w.heap.size≤k_)∧some k_≠(.slice Ao38 t125.length co38:Value).ownBlock∧some k_≠(.slice Ao40 t128.length co40:Value).ownBlock∧some k_≠(.slice Ao41 t131.length co41:Value).ownBlock∧some k_≠(.slice Ao45 t134.length co45:Value).ownBlock∧k_≠gb118∧k_≠gb119∧k_≠gb121) (.slice A0_2 l0_2.length c0_2) l0_2):=⟨by (with_reducible repeat (first|apply zL|apply zK|apply zM));exact zO (zS (p:=⟨gb118,0,none⟩) (zO HO_119002.out (fun k_ hk=>(⟨hk,hk.1.2.2.2.2.1⟩:_∧k_≠gb118))) (fun _ hk=>hk.2) (.slice Ao45 t134.length co45)) (fun _ hk=>⟨hk.1.1.1,⟨hk.1.1.2.1,⟨hk.1.1.2.2.1,⟨hk.1.1.2.2.2.1,⟨hk.1.2,⟨hk.1.1.2.2.2.2.1,⟨hk.1.1.2.2.2.2.2.1,hk.1.1.2.2.2.2.2.2⟩⟩⟩⟩⟩⟩⟩)⟩
     have n3_:zN (Kd.R (Kd.int .i64) 3 (w44.setCell ⟨gb118,0,none⟩ (.slice Ao45 t134.length co45)) w.heap.size (fun k_=>(w.heap.size≤k_)∧some k_≠(.slice Ao40 t128.length co40:Value).ownBlock∧some k_≠(.slice Ao41 t131.length co41:Value).ownBlock∧some k_≠(.slice Ao45 t134.length co45:Value).ownBlock∧k_≠gb121) (.slice Ao38 t125.length co38) t125):=⟨by (with_reducible repeat (first|apply zR|apply zQ|apply zU));exact yB (zT (p:=⟨gb118,0,none⟩) (zX HO127.out BK118.out (by decide)) (fun _ hk=>hk.2) (.slice Ao45 t134.length co45)) (fun _ hk=>⟨hk.1.1.1,⟨hk.1.1.2.1,⟨hk.1.1.2.2.1,⟨hk.1.2,hk.1.1.2.2.2⟩⟩⟩⟩)⟩
     have n4_:zN (Kd.R (Kd.int .i64) 3 (w44.setCell ⟨gb118,0,none⟩ (.slice Ao45 t134.length co45)) w.heap.size (fun k_=>(w.heap.size≤k_)∧some k_≠(.slice Ao38 t125.length co38:Value).ownBlock∧some k_≠(.slice Ao41 t131.length co41:Value).ownBlock∧some k_≠(.slice Ao45 t134.length co45:Value).ownBlock∧k_≠gb121) (.slice Ao40 t128.length co40) t128):=⟨by (with_reducible repeat (first|apply zR|apply zQ|apply zU));exact yB (zT (p:=⟨gb118,0,none⟩) (zX HO130.out BK118.out (by decide)) (fun _ hk=>hk.2) (.slice Ao45 t134.length co45)) (fun _ hk=>⟨hk.1.1.1,⟨hk.1.1.2.1,⟨hk.1.1.2.2.1,⟨hk.1.2,hk.1.1.2.2.2⟩⟩⟩⟩)⟩
     have n5_:zN (Kd.R (Kd.int .i64) 3 (w44.setCell ⟨gb118,0,none⟩ (.slice Ao45 t134.length co45)) w.heap.size (fun k_=>(w.heap.size≤k_)∧some k_≠(.slice Ao38 t125.length co38:Value).ownBlock∧some k_≠(.slice Ao40 t128.length co40:Value).ownBlock∧some k_≠(.slice Ao45 t134.length co45:Value).ownBlock∧k_≠gb121) (.slice Ao41 t131.length co41) t131):=⟨by (with_reducible repeat (first|apply zR|apply zQ|apply zU));exact yB (zT (p:=⟨gb118,0,none⟩) (zX HO133.out BK118.out (by decide)) (fun _ hk=>hk.2) (.slice Ao45 t134.length co45)) (fun _ hk=>⟨hk.1.1.1,⟨hk.1.1.2.1,⟨hk.1.1.2.2.1,⟨hk.1.2,hk.1.1.2.2.2⟩⟩⟩⟩)⟩
     have n6_:zN (Kd.R (Kd.int .i64) 3 (w44.setCell ⟨gb118,0,none⟩ (.slice Ao45 t134.length co45)) w.heap.size (fun k_=>(w.heap.size≤k_)∧some k_≠(.slice Ao38 t125.length co38:Value).ownBlock∧some k_≠(.slice Ao40 t128.length co40:Value).ownBlock∧some k_≠(.slice Ao41 t131.length co41:Value).ownBlock∧k_≠gb121) (.slice Ao45 t134.length co45) t134):=⟨by (with_reducible repeat (first|apply zR|apply zQ|apply zU));exact yB (zT (p:=⟨gb118,0,none⟩) (zX HO136.out BK118.out (by decide)) (fun _ hk=>hk.2) (.slice Ao45 t134.length co45)) (fun _ hk=>⟨hk.1.1.1.1.1.1,⟨hk.1.1.1.1.2,⟨hk.1.1.1.2,⟨hk.1.1.2,hk.1.2⟩⟩⟩⟩)⟩
     have n7_:zN ((w44.setCell ⟨gb118,0,none⟩ (.slice Ao45 t134.length co45)).heap[gb118]?=some (.cells #[.slice Ao45 t134.length co45,.slice Ao40 t128.length co40,.slice Ao41 t131.length co41] 30 (0,0))):=⟨by (with_reducible repeat (first|refine zB ?_ _|refine zF ?_|refine zA ?_ _));refine yE (cs:=#[.slice Ao38 t125.length co38,.slice Ao40 t128.length co40,.slice Ao41 t131.length co41]) ?_ 0 _ rfl;(with_reducible repeat (first|refine zB ?_ _|refine zF ?_|refine zA ?_ _));exact BK118.out⟩
     have n8_:zN ((w44.setCell ⟨gb118,0,none⟩ (.slice Ao45 t134.length co45)).heap[gb119]?=some (.cells #[.slice none 0 0,.slice none 0 0,.slice none 0 0] 30 (0,0))):=⟨by (with_reducible repeat (first|refine zB ?_ _|refine zF ?_|refine zA ?_ _));refine zY ?_ NB119_118.out _;(with_reducible repeat (first|refine zB ?_ _|refine zF ?_|refine zA ?_ _));exact BK119.out⟩
     have n9_:zN ((w44.setCell ⟨gb118,0,none⟩ (.slice Ao45 t134.length co45)).heap[gb121]?=some (.cells #[.int .i64 x122000_10] 3 (0,0))):=⟨by (with_reducible repeat (first|refine zB ?_ _|refine zF ?_|refine zA ?_ _));refine zY ?_ NB121_118.out _;(with_reducible repeat (first|refine zB ?_ _|refine zF ?_|refine zA ?_ _));exact BK121.out⟩
     have n10_:zN (Below w.heap.size w (w44.setCell ⟨gb118,0,none⟩ (.slice Ao45 t134.length co45))):=⟨by repeat (first|(with_reducible first|exact HB.out|apply zG|apply zD|apply zH|refine zC ?_ GE118.out|refine zC ?_ GE119.out|refine zC ?_ GE121.out)|exact HB.out)⟩
     (try clear HO_119000)
     (try clear HO_119001)
     (try clear HO_119002)
     (try clear HO127)
     (try clear HO130)
     (try clear HO133)
     (try clear HO136)
     (try clear BK118)
     (try clear BK119)
     (try clear BK121)
     (try clear HB)
     generalize (w44.setCell ⟨gb118,0,none⟩ (.slice Ao45 t134.length co45))=w47 at n0_ n1_ n2_ n3_ n4_ n5_ n6_ n7_ n8_ n9_ n10_ ⊢
     have HO_119000:=n0_
     have HO_119001:=n1_
     have HO_119002:=n2_
     have HO127:=n3_
     have HO130:=n4_
     have HO133:=n5_
     have HO136:=n6_
     have BK118:=n7_
     have BK119:=n8_
     have BK121:=n9_
     have HB:=n10_
     clear n0_ n1_ n2_ n3_ n4_ n5_ n6_ n7_ n8_ n9_ n10_
     have n0_:=Zk (zM HO_119000.out)
     have n1_:=Zk (zM HO_119001.out)
     have n2_:=Zk (zM HO_119002.out)
     have n3_:=Zk (zU HO127.out)
     have n4_:=Zk (zU HO130.out)
     have n5_:=Zk (zU HO133.out)
     have n6_:=Zk (zU HO136.out)
     have n7_:=Zk (zF BK118.out)
     have n8_:=Zk (zF BK119.out)
     have n9_:=Zk (zF BK121.out)
     have n10_:=Zk (zH HB.out)
     clear HO_119000
     clear HO_119001
     clear HO_119002
     clear HO127
     clear HO130
     clear HO133
     clear HO136
     clear BK118
     clear BK119
     clear BK121
     clear HB
     have HO_119000:=n0_
     have HO_119001:=n1_
     have HO_119002:=n2_
     have HO127:=n3_
     have HO130:=n4_
     have HO133:=n5_
     have HO136:=n6_
     have BK118:=n7_
     have BK119:=n8_
     have BK121:=n9_
     have HB:=n10_
     clear n0_ n1_ n2_ n3_ n4_ n5_ n6_ n7_ n8_ n9_ n10_
     refine start_ (n:=6) (S:=fun w'=>w'.cell? ⟨gb118,0,none⟩=some (.slice Ao45 t134.length co45)∧w'.cell? ⟨gb118,1,none⟩=some (.slice Ao40 t128.length co40)∧w'.cell? ⟨gb118,2,none⟩=some (.slice Ao41 t131.length co41)∧w'.cell? ⟨gb121,0,none⟩=some (.int .i64 x122000_10)) (ds:=[]) #[false,false,false,false,false,false] (by kernel_rfl) rfl rfl ⟨(zJ BK118.out 0).trans rfl,(zJ BK118.out 1).trans rfl,(zJ BK118.out 2).trans rfl,(zJ BK121.out 0).trans rfl⟩ (fun hHeld=>?_)
     generalize w47.drew=w48 at HO_119000 HO_119001 HO_119002 HO127 HO130 HO133 HO136 BK118 BK119 BK121 HB hHeld ⊢
     refine pure_ (i:=2) (N:=some 33) (v:=?_) (a':=?_) #[false,false,true,false,false,false] rfl rfl (by kernel_rfl) (fun _ _ _ h=>h) (Or.inl ⟨by rfl,?_⟩) ?_ ?_
     rotate_left
     ·intro w'
      go_simp
      with_reducible rfl
     rotate_left
     ·simp only [Act.put,List.setIfInBounds_toArray,List.set_cons_zero,List.set_cons_succ,yX,i32_w]
      rfl
     refine take_ (i:=0) (N:=some 31) (v:=?_) (a':=?_) #[true,false,true,false,false,false] rfl rfl (by kernel_rfl) (fun _ _ _ h=>h) (Or.inl ⟨by rfl,?_⟩) hHeld ?_ ?_
     rotate_left
     ·rintro w' ⟨s0,s1,s2,s3⟩
      go_simp
      with_reducible rfl
     rotate_left
     ·simp only [Act.put,List.setIfInBounds_toArray,List.set_cons_zero,List.set_cons_succ,yX,i32_w]
      rfl
     refine take_ (i:=1) (N:=some 32) (v:=?_) (a':=?_) #[true,true,true,false,false,false] rfl rfl (by kernel_rfl) (fun _ _ _ h=>h) (Or.inl ⟨by rfl,?_⟩) hHeld ?_ ?_
     rotate_left
     ·rintro w' ⟨s0,s1,s2,s3⟩
      go_simp
      with_reducible rfl
     rotate_left
     ·simp only [Act.put,List.setIfInBounds_toArray,List.set_cons_zero,List.set_cons_succ,yX,i32_w]
      rfl
     refine one_ (i:=3) (N:=none) #[true,true,true,true,false,false] rfl rfl (by kernel_rfl) (by decide) (fun K hK=>?_)
     have hs49:w48.cell? ⟨gb119,0,none⟩=some (.slice none 0 0):=(zJ BK119.out 0).trans rfl
     have hfs49:=zI BK119.out 0
     have hns49_0:=NB118_119.out
     have hns49_2:=NB121_119.out
     have hms49_0:=NB119_118.out
     have hms49_2:=NB119_121.out
     have hs50:w48.cell? ⟨gb119,1,none⟩=some (.slice none 0 0):=(zJ BK119.out 1).trans rfl
     have hfs50:=zI BK119.out 1
     have hns50_0:=NB118_119.out
     have hns50_2:=NB121_119.out
     have hms50_0:=NB119_118.out
     have hms50_2:=NB119_121.out
     have hs51:w48.cell? ⟨gb119,2,none⟩=some (.slice none 0 0):=(zJ BK119.out 2).trans rfl
     have hfs51:=zI BK119.out 2
     have hns51_0:=NB118_119.out
     have hns51_2:=NB121_119.out
     have hms51_0:=NB119_118.out
     have hms51_2:=NB119_121.out
     refine skip_ (w1:=?_) (by rfl) rfl ?_ ?_
     rotate_left
     ·go_simp
      rfl
     refine hK.out _ _ ⟨((cell_far (p:=⟨gb119,_,none⟩) NB118_119.out _).trans (((cell_far (p:=⟨gb119,_,none⟩) NB118_119.out _).trans (((cell_far (p:=⟨gb119,_,none⟩) NB118_119.out _).trans (hHeld.1)))))),((cell_far (p:=⟨gb119,_,none⟩) NB118_119.out _).trans (((cell_far (p:=⟨gb119,_,none⟩) NB118_119.out _).trans (((cell_far (p:=⟨gb119,_,none⟩) NB118_119.out _).trans (hHeld.2.1)))))),((cell_far (p:=⟨gb119,_,none⟩) NB118_119.out _).trans (((cell_far (p:=⟨gb119,_,none⟩) NB118_119.out _).trans (((cell_far (p:=⟨gb119,_,none⟩) NB118_119.out _).trans (hHeld.2.2.1)))))),((cell_far (p:=⟨gb119,_,none⟩) NB121_119.out _).trans (((cell_far (p:=⟨gb119,_,none⟩) NB121_119.out _).trans (((cell_far (p:=⟨gb119,_,none⟩) NB121_119.out _).trans (hHeld.2.2.2))))))⟩ (fun hHeld=>?_)
     clear hK K
     refine pure_ (i:=4) (N:=some 3) (v:=?_) (a':=?_) #[true,true,true,true,true,false] rfl rfl (by kernel_rfl) (fun _ _ _ h=>h) (Or.inl ⟨by rfl,?_⟩) ?_ ?_
     rotate_left
     ·intro w'
      go_simp
      with_reducible rfl
     rotate_left
     ·simp only [Act.put,List.setIfInBounds_toArray,List.set_cons_zero,List.set_cons_succ,yX,i32_w]
      rfl
     refine pure_ (i:=5) (N:=some 4) (v:=?_) (a':=?_) #[true,true,true,true,true,true] rfl rfl (by kernel_rfl) (fun _ _ _ h=>h) (Or.inl ⟨by rfl,?_⟩) ?_ ?_
     rotate_left
     ·intro w'
      go_simp
      with_reducible rfl
     rotate_left
     ·simp only [Act.put,List.setIfInBounds_toArray,List.set_cons_zero,List.set_cons_succ,yX,i32_w]
      rfl
     refine done_ (by kernel_rfl) ?_
     try go_wp2
     refine bodyPost_ret (results_ctt rfl _ _ gb119 30 #[.slice Ao45 t134.length co45,.slice Ao40 t128.length co40,.slice Ao41 t131.length co41] (0,0) _ rfl (by (with_reducible repeat (first|refine zB ?_ _|refine zF ?_|refine zA ?_ _));refine yE (cs:=#[.slice Ao45 t134.length co45,.slice Ao40 t128.length co40,.slice none 0 0]) ?_ 2 _ rfl;(with_reducible repeat (first|refine zB ?_ _|refine zF ?_|refine zA ?_ _));refine yE (cs:=#[.slice Ao45 t134.length co45,.slice none 0 0,.slice none 0 0]) ?_ 1 _ rfl;(with_reducible repeat (first|refine zB ?_ _|refine zF ?_|refine zA ?_ _));refine yE (cs:=#[.slice none 0 0,.slice none 0 0,.slice none 0 0]) ?_ 0 _ rfl;(with_reducible repeat (first|refine zB ?_ _|refine zF ?_|refine zA ?_ _));exact BK119.out) Tryd.underlying30 rfl (by kernel_rfl)) rfl ?_
     exact ⟨_,_,_,by first|rfl|(simp [errW_none,errW_some] <;> rfl)|(simp [*,errW_none,errW_some] <;> rfl),zO (R_V (by (with_reducible repeat (first|apply zR|apply zQ|apply zU));exact yB (zT (p:=⟨gb119,2,none⟩) (zT (p:=⟨gb119,1,none⟩) (zT (p:=⟨gb119,0,none⟩) (zX HO136.out BK119.out (by decide)) (fun _ hk=>hk.2) (.slice Ao45 t134.length co45)) (fun _ hk=>hk.2) (.slice Ao40 t128.length co40)) (fun _ hk=>hk.2) (.slice Ao41 t131.length co41)) (fun _ hk=>hk.1.1))) (fun k_ hk=>by first|exact ⟨(.inr (hk.1)),hk.2⟩|exact (.inr (hk))),zO (R_V (by (with_reducible repeat (first|apply zR|apply zQ|apply zU));exact yB (zT (p:=⟨gb119,2,none⟩) (zT (p:=⟨gb119,1,none⟩) (zT (p:=⟨gb119,0,none⟩) (zX HO130.out BK119.out (by decide)) (fun _ hk=>hk.2) (.slice Ao45 t134.length co45)) (fun _ hk=>hk.2) (.slice Ao40 t128.length co40)) (fun _ hk=>hk.2) (.slice Ao41 t131.length co41)) (fun _ hk=>hk.1.1))) (fun k_ hk=>by first|exact ⟨(.inr (hk.1)),hk.2⟩|exact (.inr (hk))),zO (R_V (by (with_reducible repeat (first|apply zR|apply zQ|apply zU));exact yB (zT (p:=⟨gb119,2,none⟩) (zT (p:=⟨gb119,1,none⟩) (zT (p:=⟨gb119,0,none⟩) (zX HO133.out BK119.out (by decide)) (fun _ hk=>hk.2) (.slice Ao45 t134.length co45)) (fun _ hk=>hk.2) (.slice Ao40 t128.length co40)) (fun _ hk=>hk.2) (.slice Ao41 t131.length co41)) (fun _ hk=>hk.1.1))) (fun k_ hk=>by first|exact ⟨(.inr (hk.1)),hk.2⟩|exact (.inr (hk))),by repeat (first|(with_reducible first|exact HB.out|apply zG|apply zD|apply zH|refine zC ?_ GE118.out|refine zC ?_ GE119.out|refine zC ?_ GE121.out)|exact HB.out)⟩
    ·replace c27:=Bool.eq_false_iff.mpr c27
     subst c27
     have H1:((signal_copied.f l0_0 l0_1 l0_2).bind fun bt137=>((signal_without_1_41.f bt137.1 x122000_10).bind fun t146=>(some (t146,bt137.2.1,bt137.2.2,x122000_10,t123))))=some (r1,r2,r3,r4,r5):=by rw [if_neg (show ¬ (false=true) by decide)] at H;exact H
     clear H
     have H:=H1
     clear H1
     replace H:=Option.bind_eq_some_iff.mp H
     obtain ⟨⟨t137,t140,t143⟩,A520,H⟩:=H
     replace H:((signal_without_1_41.f t137 x122000_10).bind fun t146=>(some (t146,t140,t143,x122000_10,t123)))=some (r1,r2,r3,r4,r5):=H
     have A52:=Zk A520
     clear A520
     replace H:=Option.bind_eq_some_iff.mp H
     obtain ⟨t146,A530,H⟩:=H
     replace H:(some (t146,t140,t143,x122000_10,t123))=some (r1,r2,r3,r4,r5):=H
     have A53:=Zk A530
     clear A530
     simp only [Option.some.injEq,Prod.mk.injEq] at H
     obtain ⟨rfl,rfl,rfl,rfl,rfl⟩:=H
     have hnb54:=NB121_118.out
     have hnc54:=NB118_121.out
     have hnb55:=NB121_119.out
     have hnc55:=NB119_121.out
     have hcz56_0:wc.cell? ⟨gb121,0,none⟩=some (.int .i64 x122000_10):=(zJ BK121.out 0).trans rfl
     have hfz56_0:=zI BK121.out 0
     try go_wp2_with (first|((with_reducible refine yD (f:=15) rfl ?_);refine yM (some 19) rfl rfl Tryd.func15 (by kernel_rfl) rfl #[.int .i64 x122000_10] rfl (by (try simp only [List.map_toArray,List.map_cons,List.map_nil]);first|done|rfl|(simp only [List.length_drop,List.length_take];rfl)) ?_;(with_reducible refine (signal_Default.calls x122000_10 t123 _ A25.out).mono ?_);rintro e w57 ⟨rfl,hb⟩;refine ⟨_,rfl,?_⟩;have n0_:=Zk (zV (by (with_reducible repeat (first|apply zL|apply zK|apply zM));exact HO_119000.out) hb);have n1_:=Zk (zV (by (with_reducible repeat (first|apply zL|apply zK|apply zM));exact HO_119001.out) hb);have n2_:=Zk (zV (by (with_reducible repeat (first|apply zL|apply zK|apply zM));exact HO_119002.out) hb);have n3_:=Zk (zW (g:=gb118) (o:=.cells #[.slice A0_0 l0_0.length c0_0,.slice A0_1 l0_1.length c0_1,.slice A0_2 l0_2.length c0_2] 30 (0,0)) (by (with_reducible repeat (first|refine zB ?_ _|refine zF ?_|refine zA ?_ _));exact BK118.out) hb);have n4_:=Zk (zW (g:=gb119) (o:=.cells #[.slice none 0 0,.slice none 0 0,.slice none 0 0] 30 (0,0)) (by (with_reducible repeat (first|refine zB ?_ _|refine zF ?_|refine zA ?_ _));exact BK119.out) hb);have n5_:=Zk (zW (g:=gb121) (o:=.cells #[.int .i64 x122000_10] 3 (0,0)) (by (with_reducible repeat (first|refine zB ?_ _|refine zF ?_|refine zA ?_ _));exact BK121.out) hb);have n6_:=Zk (yA (by repeat (first|(with_reducible first|exact HB.out|apply zG|apply zD|apply zH|refine zC ?_ GE118.out|refine zC ?_ GE119.out|refine zC ?_ GE121.out)|exact HB.out)) hb);clear HO_119000;clear HO_119001;clear HO_119002;clear BK118;clear BK119;clear BK121;clear HB;have HO_119000:=n0_;have HO_119001:=n1_;have HO_119002:=n2_;have BK118:=n3_;have BK119:=n4_;have BK121:=n5_;have HB:=n6_;clear n0_ n1_ n2_ n3_ n4_ n5_ n6_;(try clear hb);(try clear hb2);(try clear hk);(try clear hi);have hnb58:=NB118_119.out;have hnc58:=NB119_118.out;have hcz59_0:w57.cell? ⟨gb118,0,none⟩=some (.slice A0_0 l0_0.length c0_0):=(zJ BK118.out 0).trans rfl;have hcz59_1:w57.cell? ⟨gb118,1,none⟩=some (.slice A0_1 l0_1.length c0_1):=(zJ BK118.out 1).trans rfl;have hcz59_2:w57.cell? ⟨gb118,2,none⟩=some (.slice A0_2 l0_2.length c0_2):=(zJ BK118.out 2).trans rfl;have hfz59_0:=zI BK118.out 0;have hfz59_1:=zI BK118.out 1;have hfz59_2:=zI BK118.out 2;have hcz60_0:w57.cell? ⟨gb121,0,none⟩=some (.int .i64 x122000_10):=(zJ BK121.out 0).trans rfl;have hfz60_0:=zI BK121.out 0)|((with_reducible refine yD (f:=38) rfl ?_);refine yM (some 23) rfl rfl Tryd.func38 (by kernel_rfl) rfl #[.slice A0_2 l0_2.length c0_2,.int .i64 x122000_10] rfl (by (try simp only [List.map_toArray,List.map_cons,List.map_nil]);first|done|rfl|(simp only [List.length_drop,List.length_take];rfl)) ?_;(with_reducible refine (slices_Contains_int_int.calls kj10 _ _ l0_2 x122000_10 false _ ?side1 ?side2 A26.out).mono ?_);(case side1=>repeat (first|exact (yH HO_119002.out).2.2|(with_reducible refine yG ?_ _)|(with_reducible refine yF ?_ _)|(with_reducible refine yI ?_)));(case side2=>exact (yH HO_119002.out).2.1);rintro e w' ⟨rfl,⟨nd,rfl⟩⟩;refine ⟨_,rfl,?_⟩;(try (rw [drewN_self w57];generalize hq_:World.drewN w57 _=w57;(try replace hcz59_0:=cz_at hq_ hcz59_0);(try replace hcz59_1:=cz_at hq_ hcz59_1);(try replace hcz59_2:=cz_at hq_ hcz59_2);(try replace hcz60_0:=cz_at hq_ hcz60_0);(try replace hfz59_0:=fz_at hq_ hfz59_0);(try replace hfz59_1:=fz_at hq_ hfz59_1);(try replace hfz59_2:=fz_at hq_ hfz59_2);(try replace hfz60_0:=fz_at hq_ hfz60_0);have n0_:=Zk (V_att hq_ HO_119000.out);have n1_:=Zk (V_att hq_ HO_119001.out);have n2_:=Zk (V_att hq_ HO_119002.out);have n3_:=Zk (blk_at hq_ BK118.out);have n4_:=Zk (blk_at hq_ BK119.out);have n5_:=Zk (blk_at hq_ BK121.out);have n6_:=Zk (below_at hq_ HB.out);clear hq_ HO_119000 HO_119001 HO_119002 BK118 BK119 BK121 HB;have HO_119000:=n0_;have HO_119001:=n1_;have HO_119002:=n2_;have BK118:=n3_;have BK119:=n4_;have BK121:=n5_;have HB:=n6_;clear n0_ n1_ n2_ n3_ n4_ n5_ n6_)))|((with_reducible refine yD (f:=39) rfl ?_);refine yM (some 25) rfl rfl Tryd.func39 (by kernel_rfl) rfl #[.agg #[.slice A0_0 l0_0.length c0_0,.slice A0_1 l0_1.length c0_1,.slice A0_2 l0_2.length c0_2]] rfl (by (try simp only [List.map_toArray,List.map_cons,List.map_nil]);first|done|rfl|(simp only [List.length_drop,List.length_take];rfl)) ?_;(with_reducible refine (signal_copied.calls _ _ l0_0 _ _ l0_1 _ _ l0_2 t137 t140 t143 _ ?side1 ?side2 ?side3 ?side4 ?side5 ?side6 A52.out).mono ?_);(case side1=>repeat (first|exact (yH HO_119000.out).2.2|(with_reducible refine yG ?_ _)|(with_reducible refine yF ?_ _)|(with_reducible refine yI ?_)));(case side2=>exact (yH HO_119000.out).2.1);(case side3=>repeat (first|exact (yH HO_119001.out).2.2|(with_reducible refine yG ?_ _)|(with_reducible refine yF ?_ _)|(with_reducible refine yI ?_)));(case side4=>exact (yH HO_119001.out).2.1);(case side5=>repeat (first|exact (yH HO_119002.out).2.2|(with_reducible refine yG ?_ _)|(with_reducible refine yF ?_ _)|(with_reducible refine yI ?_)));(case side6=>exact (yH HO_119002.out).2.1);rintro e w61 ⟨v138,v141,v144,rfl,ho0,ho1,ho2,hb⟩;refine ⟨_,rfl,?_⟩;have n0_:=Zk (zO (yO (yO (yO (V_old (by (with_reducible repeat (first|apply zL|apply zK|apply zM));exact HO_119000.out) hb) (zZ ho0)) (zZ ho1)) (zZ ho2)) (fun _ h_=>h_.1));have n1_:=Zk (zO (yO (yO (yO (V_old (by (with_reducible repeat (first|apply zL|apply zK|apply zM));exact HO_119001.out) hb) (zZ ho0)) (zZ ho1)) (zZ ho2)) (fun _ h_=>h_.1));have n2_:=Zk (zO (yO (yO (yO (V_old (by (with_reducible repeat (first|apply zL|apply zK|apply zM));exact HO_119002.out) hb) (zZ ho0)) (zZ ho1)) (zZ ho2)) (fun _ h_=>h_.1));have n3_:=Zk (yU (R_newB (R_newM (M:=fun k_=>(w.heap.size≤k_)) ho0 (zP (by repeat (first|(with_reducible first|exact HB.out|apply zG|apply zD|apply zH|refine zC ?_ GE118.out|refine zC ?_ GE119.out|refine zC ?_ GE121.out)|exact HB.out))) (fun k_ h_=>h_)) (g:=gb121) (o:=.cells #[.int .i64 x122000_10] 3 (0,0)) (by (with_reducible repeat (first|refine zB ?_ _|refine zF ?_|refine zA ?_ _));exact BK121.out)) (zP (by repeat (first|(with_reducible first|exact HB.out|apply zG|apply zD|apply zH|refine zC ?_ GE118.out|refine zC ?_ GE119.out|refine zC ?_ GE121.out)|exact HB.out))));have n4_:=Zk (yU (R_newB (R_newM (M:=fun k_=>(w.heap.size≤k_)) ho1 (zP (by repeat (first|(with_reducible first|exact HB.out|apply zG|apply zD|apply zH|refine zC ?_ GE118.out|refine zC ?_ GE119.out|refine zC ?_ GE121.out)|exact HB.out))) (fun k_ h_=>h_)) (g:=gb121) (o:=.cells #[.int .i64 x122000_10] 3 (0,0)) (by (with_reducible repeat (first|refine zB ?_ _|refine zF ?_|refine zA ?_ _));exact BK121.out)) (zP (by repeat (first|(with_reducible first|exact HB.out|apply zG|apply zD|apply zH|refine zC ?_ GE118.out|refine zC ?_ GE119.out|refine zC ?_ GE121.out)|exact HB.out))));have n5_:=Zk (yU (R_newB (R_newM (M:=fun k_=>(w.heap.size≤k_)) ho2 (zP (by repeat (first|(with_reducible first|exact HB.out|apply zG|apply zD|apply zH|refine zC ?_ GE118.out|refine zC ?_ GE119.out|refine zC ?_ GE121.out)|exact HB.out))) (fun k_ h_=>h_)) (g:=gb121) (o:=.cells #[.int .i64 x122000_10] 3 (0,0)) (by (with_reducible repeat (first|refine zB ?_ _|refine zF ?_|refine zA ?_ _));exact BK121.out)) (zP (by repeat (first|(with_reducible first|exact HB.out|apply zG|apply zD|apply zH|refine zC ?_ GE118.out|refine zC ?_ GE119.out|refine zC ?_ GE121.out)|exact HB.out))));have n6_:=Zk (zW (g:=gb118) (o:=.cells #[.slice A0_0 l0_0.length c0_0,.slice A0_1 l0_1.length c0_1,.slice A0_2 l0_2.length c0_2] 30 (0,0)) (by (with_reducible repeat (first|refine zB ?_ _|refine zF ?_|refine zA ?_ _));exact BK118.out) hb);have n7_:=Zk (zW (g:=gb119) (o:=.cells #[.slice none 0 0,.slice none 0 0,.slice none 0 0] 30 (0,0)) (by (with_reducible repeat (first|refine zB ?_ _|refine zF ?_|refine zA ?_ _));exact BK119.out) hb);have n8_:=Zk (zW (g:=gb121) (o:=.cells #[.int .i64 x122000_10] 3 (0,0)) (by (with_reducible repeat (first|refine zB ?_ _|refine zF ?_|refine zA ?_ _));exact BK121.out) hb);have n9_:=Zk (yA (by repeat (first|(with_reducible first|exact HB.out|apply zG|apply zD|apply zH|refine zC ?_ GE118.out|refine zC ?_ GE119.out|refine zC ?_ GE121.out)|exact HB.out)) hb);clear HO_119000;clear HO_119001;clear HO_119002;clear BK118;clear BK119;clear BK121;clear HB;have HO_119000:=n0_;have HO_119001:=n1_;have HO_119002:=n2_;have HO139:=n3_;have HO142:=n4_;have HO145:=n5_;have BK118:=n6_;have BK119:=n7_;have BK121:=n8_;have HB:=n9_;clear n0_ n1_ n2_ n3_ n4_ n5_ n6_ n7_ n8_ n9_;(try clear hb);(try clear hb2);(try clear hk);(try clear hi);(try clear ho0);(try clear ho1);(try clear ho2);obtain ⟨Ao62,co62,eo62⟩:=yQ HO139.out;subst eo62;have hcz63_0:w61.cell? ⟨gb118,0,none⟩=some (.slice A0_0 l0_0.length c0_0):=(zJ BK118.out 0).trans rfl;have hcz63_1:w61.cell? ⟨gb118,1,none⟩=some (.slice A0_1 l0_1.length c0_1):=(zJ BK118.out 1).trans rfl;have hcz63_2:w61.cell? ⟨gb118,2,none⟩=some (.slice A0_2 l0_2.length c0_2):=(zJ BK118.out 2).trans rfl;have hfz63_0:=zI BK118.out 0;have hfz63_1:=zI BK118.out 1;have hfz63_2:=zI BK118.out 2;obtain ⟨Ao64,co64,eo64⟩:=yQ HO142.out;subst eo64;obtain ⟨Ao65,co65,eo65⟩:=yQ HO145.out;subst eo65)|((with_reducible refine xA (t:=30) (p:=1) rfl ?_);refine yY (t:=30) (p:=1) (v:=?vo_w66) (w1:=(((w61.setCell ⟨gb118,0,none⟩ (.slice Ao62 t137.length co62)).setCell ⟨gb118,1,none⟩ (.slice Ao64 t140.length co64)).setCell ⟨gb118,2,none⟩ (.slice Ao65 t143.length co65))) ?hg ?ho ?hn ?hr ?_;(case ho=>rfl);(case hg=>rfl);(case hn=>rfl);(case hr=>first|(go_simp;done)|(go_simp;rfl));intro w66 hw;have n0_:zN (Kd.V (Kd.int .i64) 3 w66 w.heap.size (fun k_=>((P0_0_ k_∨P0_1_ k_∨P0_2_ k_)∨w.heap.size≤k_)∧some k_≠(.slice Ao62 t137.length co62:Value).ownBlock∧some k_≠(.slice Ao64 t140.length co64:Value).ownBlock∧some k_≠(.slice Ao65 t143.length co65:Value).ownBlock∧k_≠gb118∧k_≠gb119∧k_≠gb121) (.slice A0_0 l0_0.length c0_0) l0_0):=⟨(by rw [hw];exact (by (with_reducible repeat (first|apply zL|apply zK|apply zM));exact zO (zS (p:=⟨gb118,2,none⟩) (zS (p:=⟨gb118,1,none⟩) (zS (p:=⟨gb118,0,none⟩) (zO HO_119000.out (fun k_ hk=>(⟨hk,hk.1.1.1.2.1⟩:_∧k_≠gb118))) (fun _ hk=>hk.2) (.slice Ao62 t137.length co62)) (fun _ hk=>hk.2) (.slice Ao64 t140.length co64)) (fun _ hk=>hk.2) (.slice Ao65 t143.length co65)) (fun _ hk=>⟨hk.1.1.1.1.1,⟨hk.1.1.1.2,⟨hk.1.1.2,⟨hk.1.2,⟨hk.1.1.1.1.2.1,⟨hk.1.1.1.1.2.2.1,hk.1.1.1.1.2.2.2⟩⟩⟩⟩⟩⟩)))⟩;have n1_:zN (Kd.V (Kd.int .i64) 3 w66 w.heap.size (fun k_=>((P0_0_ k_∨P0_1_ k_∨P0_2_ k_)∨w.heap.size≤k_)∧some k_≠(.slice Ao62 t137.length co62:Value).ownBlock∧some k_≠(.slice Ao64 t140.length co64:Value).ownBlock∧some k_≠(.slice Ao65 t143.length co65:Value).ownBlock∧k_≠gb118∧k_≠gb119∧k_≠gb121) (.slice A0_1 l0_1.length c0_1) l0_1):=⟨(by rw [hw];exact (by (with_reducible repeat (first|apply zL|apply zK|apply zM));exact zO (zS (p:=⟨gb118,2,none⟩) (zS (p:=⟨gb118,1,none⟩) (zS (p:=⟨gb118,0,none⟩) (zO HO_119001.out (fun k_ hk=>(⟨hk,hk.1.1.1.2.1⟩:_∧k_≠gb118))) (fun _ hk=>hk.2) (.slice Ao62 t137.length co62)) (fun _ hk=>hk.2) (.slice Ao64 t140.length co64)) (fun _ hk=>hk.2) (.slice Ao65 t143.length co65)) (fun _ hk=>⟨hk.1.1.1.1.1,⟨hk.1.1.1.2,⟨hk.1.1.2,⟨hk.1.2,⟨hk.1.1.1.1.2.1,⟨hk.1.1.1.1.2.2.1,hk.1.1.1.1.2.2.2⟩⟩⟩⟩⟩⟩)))⟩;have n2_:zN (Kd.V (Kd.int .i64) 3 w66 w.heap.size (fun k_=>((P0_0_ k_∨P0_1_ k_∨P0_2_ k_)∨w.heap.size≤k_)∧some k_≠(.slice Ao62 t137.length co62:Value).ownBlock∧some k_≠(.slice Ao64 t140.length co64:Value).ownBlock∧some k_≠(.slice Ao65 t143.length co65:Value).ownBlock∧k_≠gb118∧k_≠gb119∧k_≠gb121) (.slice A0_2 l0_2.length c0_2) l0_2):=⟨(by rw [hw];exact (by (with_reducible repeat (first|apply zL|apply zK|apply zM));exact zO (zS (p:=⟨gb118,2,none⟩) (zS (p:=⟨gb118,1,none⟩) (zS (p:=⟨gb118,0,none⟩) (zO HO_119002.out (fun k_ hk=>(⟨hk,hk.1.1.1.2.1⟩:_∧k_≠gb118))) (fun _ hk=>hk.2) (.slice Ao62 t137.length co62)) (fun _ hk=>hk.2) (.slice Ao64 t140.length co64)) (fun _ hk=>hk.2) (.slice Ao65 t143.length co65)) (fun _ hk=>⟨hk.1.1.1.1.1,⟨hk.1.1.1.2,⟨hk.1.1.2,⟨hk.1.2,⟨hk.1.1.1.1.2.1,⟨hk.1.1.1.1.2.2.1,hk.1.1.1.1.2.2.2⟩⟩⟩⟩⟩⟩)))⟩;have n3_:zN (Kd.R (Kd.int .i64) 3 w66 w.heap.size (fun k_=>(w.heap.size≤k_)∧some k_≠(.slice Ao64 t140.length co64:Value).ownBlock∧some k_≠(.slice Ao65 t143.length co65:Value).ownBlock∧k_≠gb121) (.slice Ao62 t137.length co62) t137):=⟨(by rw [hw];exact (by (with_reducible repeat (first|apply zR|apply zQ|apply zU));exact yB (zT (p:=⟨gb118,2,none⟩) (zT (p:=⟨gb118,1,none⟩) (zT (p:=⟨gb118,0,none⟩) (zX HO139.out BK118.out (by decide)) (fun _ hk=>hk.2) (.slice Ao62 t137.length co62)) (fun _ hk=>hk.2) (.slice Ao64 t140.length co64)) (fun _ hk=>hk.2) (.slice Ao65 t143.length co65)) (fun _ hk=>⟨hk.1.1.1,⟨hk.1.1.2.1,⟨hk.1.1.2.2,hk.1.2⟩⟩⟩)))⟩;have n4_:zN (Kd.R (Kd.int .i64) 3 w66 w.heap.size (fun k_=>(w.heap.size≤k_)∧some k_≠(.slice Ao62 t137.length co62:Value).ownBlock∧some k_≠(.slice Ao65 t143.length co65:Value).ownBlock∧k_≠gb121) (.slice Ao64 t140.length co64) t140):=⟨(by rw [hw];exact (by (with_reducible repeat (first|apply zR|apply zQ|apply zU));exact yB (zT (p:=⟨gb118,2,none⟩) (zT (p:=⟨gb118,1,none⟩) (zT (p:=⟨gb118,0,none⟩) (zX HO142.out BK118.out (by decide)) (fun _ hk=>hk.2) (.slice Ao62 t137.length co62)) (fun _ hk=>hk.2) (.slice Ao64 t140.length co64)) (fun _ hk=>hk.2) (.slice Ao65 t143.length co65)) (fun _ hk=>⟨hk.1.1.1,⟨hk.1.1.2.1,⟨hk.1.1.2.2,hk.1.2⟩⟩⟩)))⟩;have n5_:zN (Kd.R (Kd.int .i64) 3 w66 w.heap.size (fun k_=>(w.heap.size≤k_)∧some k_≠(.slice Ao62 t137.length co62:Value).ownBlock∧some k_≠(.slice Ao64 t140.length co64:Value).ownBlock∧k_≠gb121) (.slice Ao65 t143.length co65) t143):=⟨(by rw [hw];exact (by (with_reducible repeat (first|apply zR|apply zQ|apply zU));exact yB (zT (p:=⟨gb118,2,none⟩) (zT (p:=⟨gb118,1,none⟩) (zT (p:=⟨gb118,0,none⟩) (zX HO145.out BK118.out (by decide)) (fun _ hk=>hk.2) (.slice Ao62 t137.length co62)) (fun _ hk=>hk.2) (.slice Ao64 t140.length co64)) (fun _ hk=>hk.2) (.slice Ao65 t143.length co65)) (fun _ hk=>⟨hk.1.1.1,⟨hk.1.1.2.1,⟨hk.1.1.2.2,hk.1.2⟩⟩⟩)))⟩;have n6_:zN (w66.heap[gb118]?=some (.cells #[.slice Ao62 t137.length co62,.slice Ao64 t140.length co64,.slice Ao65 t143.length co65] 30 (0,0))):=⟨(by rw [hw];exact (by (with_reducible repeat (first|refine zB ?_ _|refine zF ?_|refine zA ?_ _));refine yE (cs:=#[.slice Ao62 t137.length co62,.slice Ao64 t140.length co64,.slice A0_2 l0_2.length c0_2]) ?_ 2 _ rfl;(with_reducible repeat (first|refine zB ?_ _|refine zF ?_|refine zA ?_ _));refine yE (cs:=#[.slice Ao62 t137.length co62,.slice A0_1 l0_1.length c0_1,.slice A0_2 l0_2.length c0_2]) ?_ 1 _ rfl;(with_reducible repeat (first|refine zB ?_ _|refine zF ?_|refine zA ?_ _));refine yE (cs:=#[.slice A0_0 l0_0.length c0_0,.slice A0_1 l0_1.length c0_1,.slice A0_2 l0_2.length c0_2]) ?_ 0 _ rfl;(with_reducible repeat (first|refine zB ?_ _|refine zF ?_|refine zA ?_ _));exact BK118.out))⟩;have n7_:zN (w66.heap[gb119]?=some (.cells #[.slice none 0 0,.slice none 0 0,.slice none 0 0] 30 (0,0))):=⟨(by rw [hw];exact (by (with_reducible repeat (first|refine zB ?_ _|refine zF ?_|refine zA ?_ _));refine zY ?_ NB119_118.out _;(with_reducible repeat (first|refine zB ?_ _|refine zF ?_|refine zA ?_ _));refine zY ?_ NB119_118.out _;(with_reducible repeat (first|refine zB ?_ _|refine zF ?_|refine zA ?_ _));refine zY ?_ NB119_118.out _;(with_reducible repeat (first|refine zB ?_ _|refine zF ?_|refine zA ?_ _));exact BK119.out))⟩;have n8_:zN (w66.heap[gb121]?=some (.cells #[.int .i64 x122000_10] 3 (0,0))):=⟨(by rw [hw];exact (by (with_reducible repeat (first|refine zB ?_ _|refine zF ?_|refine zA ?_ _));refine zY ?_ NB121_118.out _;(with_reducible repeat (first|refine zB ?_ _|refine zF ?_|refine zA ?_ _));refine zY ?_ NB121_118.out _;(with_reducible repeat (first|refine zB ?_ _|refine zF ?_|refine zA ?_ _));refine zY ?_ NB121_118.out _;(with_reducible repeat (first|refine zB ?_ _|refine zF ?_|refine zA ?_ _));exact BK121.out))⟩;have n9_:zN (Below w.heap.size w w66):=⟨(by rw [hw];exact (by repeat (first|(with_reducible first|exact HB.out|apply zG|apply zD|apply zH|refine zC ?_ GE118.out|refine zC ?_ GE119.out|refine zC ?_ GE121.out)|exact HB.out)))⟩;clear hw;clear HO_119000;clear HO_119001;clear HO_119002;clear HO139;clear HO142;clear HO145;clear BK118;clear BK119;clear BK121;clear HB;have HO_119000:=n0_;have HO_119001:=n1_;have HO_119002:=n2_;have HO139:=n3_;have HO142:=n4_;have HO145:=n5_;have BK118:=n6_;have BK119:=n7_;have BK121:=n8_;have HB:=n9_;clear n0_ n1_ n2_ n3_ n4_ n5_ n6_ n7_ n8_ n9_;have hcz67_0:w66.cell? ⟨gb118,0,none⟩=some (.slice Ao62 t137.length co62):=(zJ BK118.out 0).trans rfl;have hcz67_1:w66.cell? ⟨gb118,1,none⟩=some (.slice Ao64 t140.length co64):=(zJ BK118.out 1).trans rfl;have hcz67_2:w66.cell? ⟨gb118,2,none⟩=some (.slice Ao65 t143.length co65):=(zJ BK118.out 2).trans rfl;have hfz67_0:=zI BK118.out 0;have hfz67_1:=zI BK118.out 1;have hfz67_2:=zI BK118.out 2)|((with_reducible refine yD (f:=40) rfl ?_);refine yM (some 29) rfl rfl Tryd.func40 (by kernel_rfl) rfl #[.slice Ao62 t137.length co62,.func (.func 41) #[] #[.pointer (some ⟨gb121,0,none⟩)]] rfl (by (try simp only [List.map_toArray,List.map_cons,List.map_nil]);first|done|rfl|(simp only [List.length_drop,List.length_take];rfl)) ?_;(with_reducible refine (signal_without_1_41.calls _ _ t137 x122000_10 t146 _ ?side1 ?side2 ?side3 A53.out).mono ?_);(case side1=>repeat (first|exact (yZ HO139.out).2.2|(with_reducible refine yG ?_ _)|(with_reducible refine yF ?_ _)|(with_reducible refine yI ?_)));(case side2=>exact (yZ HO139.out).2.1);(case side3=>exact by (with_reducible repeat (first|refine zB ?_ _|refine zF ?_|refine zA ?_ _));exact BK121.out);rintro e w68 ⟨v147,rfl,ho0,hb⟩;refine ⟨_,rfl,?_⟩;have n0_:=Zk (yL (by (with_reducible repeat (first|apply zL|apply zK|apply zM));exact HO_119000.out) (zZ ho0) hb);have n1_:=Zk (yL (by (with_reducible repeat (first|apply zL|apply zK|apply zM));exact HO_119001.out) (zZ ho0) hb);have n2_:=Zk (yL (by (with_reducible repeat (first|apply zL|apply zK|apply zM));exact HO_119002.out) (zZ ho0) hb);have n3_:=Zk (yK (by (with_reducible repeat (first|apply zR|apply zQ|apply zU));exact HO139.out) (zZ ho0) hb);have n4_:=Zk (yK (by (with_reducible repeat (first|apply zR|apply zQ|apply zU));exact HO142.out) (zZ ho0) hb);have n5_:=Zk (yK (by (with_reducible repeat (first|apply zR|apply zQ|apply zU));exact HO145.out) (zZ ho0) hb);have n6_:=Zk (yU (R_newB (yR (yR (yR (R_newM (M:=fun k_=>(w.heap.size≤k_)) ho0 (zP (by repeat (first|(with_reducible first|exact HB.out|apply zG|apply zD|apply zH|refine zC ?_ GE118.out|refine zC ?_ GE119.out|refine zC ?_ GE121.out)|exact HB.out))) (fun k_ h_=>h_)) (R_lt (by (with_reducible repeat (first|apply zR|apply zQ|apply zU));exact HO139.out))) (R_lt (by (with_reducible repeat (first|apply zR|apply zQ|apply zU));exact HO142.out))) (R_lt (by (with_reducible repeat (first|apply zR|apply zQ|apply zU));exact HO145.out))) (g:=gb121) (o:=.cells #[.int .i64 x122000_10] 3 (0,0)) (by (with_reducible repeat (first|refine zB ?_ _|refine zF ?_|refine zA ?_ _));exact BK121.out)) (zP (by repeat (first|(with_reducible first|exact HB.out|apply zG|apply zD|apply zH|refine zC ?_ GE118.out|refine zC ?_ GE119.out|refine zC ?_ GE121.out)|exact HB.out))));have n7_:=Zk (zW (g:=gb118) (o:=.cells #[.slice Ao62 t137.length co62,.slice Ao64 t140.length co64,.slice Ao65 t143.length co65] 30 (0,0)) (by (with_reducible repeat (first|refine zB ?_ _|refine zF ?_|refine zA ?_ _));exact BK118.out) hb);have n8_:=Zk (zW (g:=gb119) (o:=.cells #[.slice none 0 0,.slice none 0 0,.slice none 0 0] 30 (0,0)) (by (with_reducible repeat (first|refine zB ?_ _|refine zF ?_|refine zA ?_ _));exact BK119.out) hb);have n9_:=Zk (zW (g:=gb121) (o:=.cells #[.int .i64 x122000_10] 3 (0,0)) (by (with_reducible repeat (first|refine zB ?_ _|refine zF ?_|refine zA ?_ _));exact BK121.out) hb);have n10_:=Zk (yA (by repeat (first|(with_reducible first|exact HB.out|apply zG|apply zD|apply zH|refine zC ?_ GE118.out|refine zC ?_ GE119.out|refine zC ?_ GE121.out)|exact HB.out)) hb);clear HO_119000;clear HO_119001;clear HO_119002;clear HO139;clear HO142;clear HO145;clear BK118;clear BK119;clear BK121;clear HB;have HO_119000:=n0_;have HO_119001:=n1_;have HO_119002:=n2_;have HO139:=n3_;have HO142:=n4_;have HO145:=n5_;have HO148:=n6_;have BK118:=n7_;have BK119:=n8_;have BK121:=n9_;have HB:=n10_;clear n0_ n1_ n2_ n3_ n4_ n5_ n6_ n7_ n8_ n9_ n10_;(try clear hb);(try clear hb2);(try clear hk);(try clear hi);(try clear ho0);obtain ⟨Ao69,co69,eo69⟩:=yQ HO148.out;subst eo69;have hcz70_0:w68.cell? ⟨gb118,0,none⟩=some (.slice Ao62 t137.length co62):=(zJ BK118.out 0).trans rfl;have hcz70_1:w68.cell? ⟨gb118,1,none⟩=some (.slice Ao64 t140.length co64):=(zJ BK118.out 1).trans rfl;have hcz70_2:w68.cell? ⟨gb118,2,none⟩=some (.slice Ao65 t143.length co65):=(zJ BK118.out 2).trans rfl;have hfz70_0:=zI BK118.out 0;have hfz70_1:=zI BK118.out 1;have hfz70_2:=zI BK118.out 2))
     have n0_:zN (Kd.V (Kd.int .i64) 3 (w68.setCell ⟨gb118,0,none⟩ (.slice Ao69 t146.length co69)) w.heap.size (fun k_=>((P0_0_ k_∨P0_1_ k_∨P0_2_ k_)∨w.heap.size≤k_)∧some k_≠(.slice Ao62 t137.length co62:Value).ownBlock∧some k_≠(.slice Ao64 t140.length co64:Value).ownBlock∧some k_≠(.slice Ao65 t143.length co65:Value).ownBlock∧some k_≠(.slice Ao69 t146.length co69:Value).ownBlock∧k_≠gb118∧k_≠gb119∧k_≠gb121) (.slice A0_0 l0_0.length c0_0) l0_0):=⟨by (with_reducible repeat (first|apply zL|apply zK|apply zM));exact zO (zS (p:=⟨gb118,0,none⟩) (zO HO_119000.out (fun k_ hk=>(⟨hk,hk.1.2.2.2.2.1⟩:_∧k_≠gb118))) (fun _ hk=>hk.2) (.slice Ao69 t146.length co69)) (fun _ hk=>⟨hk.1.1.1,⟨hk.1.1.2.1,⟨hk.1.1.2.2.1,⟨hk.1.1.2.2.2.1,⟨hk.1.2,⟨hk.1.1.2.2.2.2.1,⟨hk.1.1.2.2.2.2.2.1,hk.1.1.2.2.2.2.2.2⟩⟩⟩⟩⟩⟩⟩)⟩
     have n1_:zN (Kd.V (Kd.int .i64) 3 (w68.setCell ⟨gb118,0,none⟩ (.slice Ao69 t146.length co69)) w.heap.size (fun k_=>((P0_0_ k_∨P0_1_ k_∨P0_2_ k_)∨w.heap.size≤k_)∧some k_≠(.slice Ao62 t137.length co62:Value).ownBlock∧some k_≠(.slice Ao64 t140.length co64:Value).ownBlock∧some k_≠(.slice Ao65 t143.length co65:Value).ownBlock∧some k_≠(.slice Ao69 t146.length co69:Value).ownBlock∧k_≠gb118∧k_≠gb119∧k_≠gb121) (.slice A0_1 l0_1.length c0_1) l0_1):=⟨by (with_reducible repeat (first|apply zL|apply zK|apply zM));exact zO (zS (p:=⟨gb118,0,none⟩) (zO HO_119001.out (fun k_ hk=>(⟨hk,hk.1.2.2.2.2.1⟩:_∧k_≠gb118))) (fun _ hk=>hk.2) (.slice Ao69 t146.length co69)) (fun _ hk=>⟨hk.1.1.1,⟨hk.1.1.2.1,⟨hk.1.1.2.2.1,⟨hk.1.1.2.2.2.1,⟨hk.1.2,⟨hk.1.1.2.2.2.2.1,⟨hk.1.1.2.2.2.2.2.1,hk.1.1.2.2.2.2.2.2⟩⟩⟩⟩⟩⟩⟩)⟩
     have n2_:zN (Kd.V (Kd.int .i64) 3 (w68.setCell ⟨gb118,0,none⟩ (.slice Ao69 t146.length co69)) w.heap.size (fun k_=>((P0_0_ k_∨P0_1_ k_∨P0_2_ k_)∨w.heap.size≤k_)∧some k_≠(.slice Ao62 t137.length co62:Value).ownBlock∧some k_≠(.slice Ao64 t140.length co64:Value).ownBlock∧some k_≠(.slice Ao65 t143.length co65:Value).ownBlock∧some k_≠(.slice Ao69 t146.length co69:Value).ownBlock∧k_≠gb118∧k_≠gb119∧k_≠gb121) (.slice A0_2 l0_2.length c0_2) l0_2):=⟨by (with_reducible repeat (first|apply zL|apply zK|apply zM));exact zO (zS (p:=⟨gb118,0,none⟩) (zO HO_119002.out (fun k_ hk=>(⟨hk,hk.1.2.2.2.2.1⟩:_∧k_≠gb118))) (fun _ hk=>hk.2) (.slice Ao69 t146.length co69)) (fun _ hk=>⟨hk.1.1.1,⟨hk.1.1.2.1,⟨hk.1.1.2.2.1,⟨hk.1.1.2.2.2.1,⟨hk.1.2,⟨hk.1.1.2.2.2.2.1,⟨hk.1.1.2.2.2.2.2.1,hk.1.1.2.2.2.2.2.2⟩⟩⟩⟩⟩⟩⟩)⟩
     have n3_:zN (Kd.R (Kd.int .i64) 3 (w68.setCell ⟨gb118,0,none⟩ (.slice Ao69 t146.length co69)) w.heap.size (fun k_=>(w.heap.size≤k_)∧some k_≠(.slice Ao64 t140.length co64:Value).ownBlock∧some k_≠(.slice Ao65 t143.length co65:Value).ownBlock∧some k_≠(.slice Ao69 t146.length co69:Value).ownBlock∧k_≠gb121) (.slice Ao62 t137.length co62) t137):=⟨by (with_reducible repeat (first|apply zR|apply zQ|apply zU));exact yB (zT (p:=⟨gb118,0,none⟩) (zX HO139.out BK118.out (by decide)) (fun _ hk=>hk.2) (.slice Ao69 t146.length co69)) (fun _ hk=>⟨hk.1.1.1,⟨hk.1.1.2.1,⟨hk.1.1.2.2.1,⟨hk.1.2,hk.1.1.2.2.2⟩⟩⟩⟩)⟩
     have n4_:zN (Kd.R (Kd.int .i64) 3 (w68.setCell ⟨gb118,0,none⟩ (.slice Ao69 t146.length co69)) w.heap.size (fun k_=>(w.heap.size≤k_)∧some k_≠(.slice Ao62 t137.length co62:Value).ownBlock∧some k_≠(.slice Ao65 t143.length co65:Value).ownBlock∧some k_≠(.slice Ao69 t146.length co69:Value).ownBlock∧k_≠gb121) (.slice Ao64 t140.length co64) t140):=⟨by (with_reducible repeat (first|apply zR|apply zQ|apply zU));exact yB (zT (p:=⟨gb118,0,none⟩) (zX HO142.out BK118.out (by decide)) (fun _ hk=>hk.2) (.slice Ao69 t146.length co69)) (fun _ hk=>⟨hk.1.1.1,⟨hk.1.1.2.1,⟨hk.1.1.2.2.1,⟨hk.1.2,hk.1.1.2.2.2⟩⟩⟩⟩)⟩
     have n5_:zN (Kd.R (Kd.int .i64) 3 (w68.setCell ⟨gb118,0,none⟩ (.slice Ao69 t146.length co69)) w.heap.size (fun k_=>(w.heap.size≤k_)∧some k_≠(.slice Ao62 t137.length co62:Value).ownBlock∧some k_≠(.slice Ao64 t140.length co64:Value).ownBlock∧some k_≠(.slice Ao69 t146.length co69:Value).ownBlock∧k_≠gb121) (.slice Ao65 t143.length co65) t143):=⟨by (with_reducible repeat (first|apply zR|apply zQ|apply zU));exact yB (zT (p:=⟨gb118,0,none⟩) (zX HO145.out BK118.out (by decide)) (fun _ hk=>hk.2) (.slice Ao69 t146.length co69)) (fun _ hk=>⟨hk.1.1.1,⟨hk.1.1.2.1,⟨hk.1.1.2.2.1,⟨hk.1.2,hk.1.1.2.2.2⟩⟩⟩⟩)⟩
     have n6_:zN (Kd.R (Kd.int .i64) 3 (w68.setCell ⟨gb118,0,none⟩ (.slice Ao69 t146.length co69)) w.heap.size (fun k_=>(w.heap.size≤k_)∧some k_≠(.slice Ao62 t137.length co62:Value).ownBlock∧some k_≠(.slice Ao64 t140.length co64:Value).ownBlock∧some k_≠(.slice Ao65 t143.length co65:Value).ownBlock∧k_≠gb121) (.slice Ao69 t146.length co69) t146):=⟨by (with_reducible repeat (first|apply zR|apply zQ|apply zU));exact yB (zT (p:=⟨gb118,0,none⟩) (zX HO148.out BK118.out (by decide)) (fun _ hk=>hk.2) (.slice Ao69 t146.length co69)) (fun _ hk=>⟨hk.1.1.1.1.1.1,⟨hk.1.1.1.1.2,⟨hk.1.1.1.2,⟨hk.1.1.2,hk.1.2⟩⟩⟩⟩)⟩
     have n7_:zN ((w68.setCell ⟨gb118,0,none⟩ (.slice Ao69 t146.length co69)).heap[gb118]?=some (.cells #[.slice Ao69 t146.length co69,.slice Ao64 t140.length co64,.slice Ao65 t143.length co65] 30 (0,0))):=⟨by (with_reducible repeat (first|refine zB ?_ _|refine zF ?_|refine zA ?_ _));refine yE (cs:=#[.slice Ao62 t137.length co62,.slice Ao64 t140.length co64,.slice Ao65 t143.length co65]) ?_ 0 _ rfl;(with_reducible repeat (first|refine zB ?_ _|refine zF ?_|refine zA ?_ _));exact BK118.out⟩
     have n8_:zN ((w68.setCell ⟨gb118,0,none⟩ (.slice Ao69 t146.length co69)).heap[gb119]?=some (.cells #[.slice none 0 0,.slice none 0 0,.slice none 0 0] 30 (0,0))):=⟨by (with_reducible repeat (first|refine zB ?_ _|refine zF ?_|refine zA ?_ _));refine zY ?_ NB119_118.out _;(with_reducible repeat (first|refine zB ?_ _|refine zF ?_|refine zA ?_ _));exact BK119.out⟩
     have n9_:zN ((w68.setCell ⟨gb118,0,none⟩ (.slice Ao69 t146.length co69)).heap[gb121]?=some (.cells #[.int .i64 x122000_10] 3 (0,0))):=⟨by (with_reducible repeat (first|refine zB ?_ _|refine zF ?_|refine zA ?_ _));refine zY ?_ NB121_118.out _;(with_reducible repeat (first|refine zB ?_ _|refine zF ?_|refine zA ?_ _));exact BK121.out⟩
     have n10_:zN (Below w.heap.size w (w68.setCell ⟨gb118,0,none⟩ (.slice Ao69 t146.length co69))):=⟨by repeat (first|(with_reducible first|exact HB.out|apply zG|apply zD|apply zH|refine zC ?_ GE118.out|refine zC ?_ GE119.out|refine zC ?_ GE121.out)|exact HB.out)⟩
     (try clear HO_119000)
     (try clear HO_119001)
     (try clear HO_119002)
     (try clear HO139)
     (try clear HO142)
     (try clear HO145)
     (try clear HO148)
     (try clear BK118)
     (try clear BK119)
     (try clear BK121)
     (try clear HB)
     generalize (w68.setCell ⟨gb118,0,none⟩ (.slice Ao69 t146.length co69))=w71 at n0_ n1_ n2_ n3_ n4_ n5_ n6_ n7_ n8_ n9_ n10_ ⊢
     have HO_119000:=n0_
     have HO_119001:=n1_
     have HO_119002:=n2_
     have HO139:=n3_
     have HO142:=n4_
     have HO145:=n5_
     have HO148:=n6_
     have BK118:=n7_
     have BK119:=n8_
     have BK121:=n9_
     have HB:=n10_
     clear n0_ n1_ n2_ n3_ n4_ n5_ n6_ n7_ n8_ n9_ n10_
     have n0_:=Zk (zM HO_119000.out)
     have n1_:=Zk (zM HO_119001.out)
     have n2_:=Zk (zM HO_119002.out)
     have n3_:=Zk (zU HO139.out)
     have n4_:=Zk (zU HO142.out)
     have n5_:=Zk (zU HO145.out)
     have n6_:=Zk (zU HO148.out)
     have n7_:=Zk (zF BK118.out)
     have n8_:=Zk (zF BK119.out)
     have n9_:=Zk (zF BK121.out)
     have n10_:=Zk (zH HB.out)
     clear HO_119000
     clear HO_119001
     clear HO_119002
     clear HO139
     clear HO142
     clear HO145
     clear HO148
     clear BK118
     clear BK119
     clear BK121
     clear HB
     have HO_119000:=n0_
     have HO_119001:=n1_
     have HO_119002:=n2_
     have HO139:=n3_
     have HO142:=n4_
     have HO145:=n5_
     have HO148:=n6_
     have BK118:=n7_
     have BK119:=n8_
     have BK121:=n9_
     have HB:=n10_
     clear n0_ n1_ n2_ n3_ n4_ n5_ n6_ n7_ n8_ n9_ n10_
     refine start_ (n:=6) (S:=fun w'=>w'.cell? ⟨gb118,0,none⟩=some (.slice Ao69 t146.length co69)∧w'.cell? ⟨gb118,1,none⟩=some (.slice Ao64 t140.length co64)∧w'.cell? ⟨gb118,2,none⟩=some (.slice Ao65 t143.length co65)∧w'.cell? ⟨gb121,0,none⟩=some (.int .i64 x122000_10)) (ds:=[]) #[false,false,false,false,false,false] (by kernel_rfl) rfl rfl ⟨(zJ BK118.out 0).trans rfl,(zJ BK118.out 1).trans rfl,(zJ BK118.out 2).trans rfl,(zJ BK121.out 0).trans rfl⟩ (fun hHeld=>?_)
     generalize w71.drew=w72 at HO_119000 HO_119001 HO_119002 HO139 HO142 HO145 HO148 BK118 BK119 BK121 HB hHeld ⊢
     refine pure_ (i:=2) (N:=some 33) (v:=?_) (a':=?_) #[false,false,true,false,false,false] rfl rfl (by kernel_rfl) (fun _ _ _ h=>h) (Or.inl ⟨by rfl,?_⟩) ?_ ?_
     rotate_left
     ·intro w'
      go_simp
      with_reducible rfl
     rotate_left
     ·simp only [Act.put,List.setIfInBounds_toArray,List.set_cons_zero,List.set_cons_succ,yX,i32_w]
      rfl
     refine take_ (i:=0) (N:=some 31) (v:=?_) (a':=?_) #[true,false,true,false,false,false] rfl rfl (by kernel_rfl) (fun _ _ _ h=>h) (Or.inl ⟨by rfl,?_⟩) hHeld ?_ ?_
     rotate_left
     ·rintro w' ⟨s0,s1,s2,s3⟩
      go_simp
      with_reducible rfl
     rotate_left
     ·simp only [Act.put,List.setIfInBounds_toArray,List.set_cons_zero,List.set_cons_succ,yX,i32_w]
      rfl
     refine take_ (i:=1) (N:=some 32) (v:=?_) (a':=?_) #[true,true,true,false,false,false] rfl rfl (by kernel_rfl) (fun _ _ _ h=>h) (Or.inl ⟨by rfl,?_⟩) hHeld ?_ ?_
     rotate_left
     ·rintro w' ⟨s0,s1,s2,s3⟩
      go_simp
      with_reducible rfl
     rotate_left
     ·simp only [Act.put,List.setIfInBounds_toArray,List.set_cons_zero,List.set_cons_succ,yX,i32_w]
      rfl
     refine one_ (i:=3) (N:=none) #[true,true,true,true,false,false] rfl rfl (by kernel_rfl) (by decide) (fun K hK=>?_)
     have hs73:w72.cell? ⟨gb119,0,none⟩=some (.slice none 0 0):=(zJ BK119.out 0).trans rfl
     have hfs73:=zI BK119.out 0
     have hns73_0:=NB118_119.out
     have hns73_2:=NB121_119.out
     have hms73_0:=NB119_118.out
     have hms73_2:=NB119_121.out
     have hs74:w72.cell? ⟨gb119,1,none⟩=some (.slice none 0 0):=(zJ BK119.out 1).trans rfl
     have hfs74:=zI BK119.out 1
     have hns74_0:=NB118_119.out
     have hns74_2:=NB121_119.out
     have hms74_0:=NB119_118.out
     have hms74_2:=NB119_121.out
     have hs75:w72.cell? ⟨gb119,2,none⟩=some (.slice none 0 0):=(zJ BK119.out 2).trans rfl
     have hfs75:=zI BK119.out 2
     have hns75_0:=NB118_119.out
     have hns75_2:=NB121_119.out
     have hms75_0:=NB119_118.out
     have hms75_2:=NB119_121.out
     refine skip_ (w1:=?_) (by rfl) rfl ?_ ?_
     rotate_left
     ·go_simp
      rfl
     refine hK.out _ _ ⟨((cell_far (p:=⟨gb119,_,none⟩) NB118_119.out _).trans (((cell_far (p:=⟨gb119,_,none⟩) NB118_119.out _).trans (((cell_far (p:=⟨gb119,_,none⟩) NB118_119.out _).trans (hHeld.1)))))),((cell_far (p:=⟨gb119,_,none⟩) NB118_119.out _).trans (((cell_far (p:=⟨gb119,_,none⟩) NB118_119.out _).trans (((cell_far (p:=⟨gb119,_,none⟩) NB118_119.out _).trans (hHeld.2.1)))))),((cell_far (p:=⟨gb119,_,none⟩) NB118_119.out _).trans (((cell_far (p:=⟨gb119,_,none⟩) NB118_119.out _).trans (((cell_far (p:=⟨gb119,_,none⟩) NB118_119.out _).trans (hHeld.2.2.1)))))),((cell_far (p:=⟨gb119,_,none⟩) NB121_119.out _).trans (((cell_far (p:=⟨gb119,_,none⟩) NB121_119.out _).trans (((cell_far (p:=⟨gb119,_,none⟩) NB121_119.out _).trans (hHeld.2.2.2))))))⟩ (fun hHeld=>?_)
     clear hK K
     refine pure_ (i:=4) (N:=some 3) (v:=?_) (a':=?_) #[true,true,true,true,true,false] rfl rfl (by kernel_rfl) (fun _ _ _ h=>h) (Or.inl ⟨by rfl,?_⟩) ?_ ?_
     rotate_left
     ·intro w'
      go_simp
      with_reducible rfl
     rotate_left
     ·simp only [Act.put,List.setIfInBounds_toArray,List.set_cons_zero,List.set_cons_succ,yX,i32_w]
      rfl
     refine pure_ (i:=5) (N:=some 4) (v:=?_) (a':=?_) #[true,true,true,true,true,true] rfl rfl (by kernel_rfl) (fun _ _ _ h=>h) (Or.inl ⟨by rfl,?_⟩) ?_ ?_
     rotate_left
     ·intro w'
      go_simp
      with_reducible rfl
     rotate_left
     ·simp only [Act.put,List.setIfInBounds_toArray,List.set_cons_zero,List.set_cons_succ,yX,i32_w]
      rfl
     refine done_ (by kernel_rfl) ?_
     try go_wp2
     refine bodyPost_ret (results_ctt rfl _ _ gb119 30 #[.slice Ao69 t146.length co69,.slice Ao64 t140.length co64,.slice Ao65 t143.length co65] (0,0) _ rfl (by (with_reducible repeat (first|refine zB ?_ _|refine zF ?_|refine zA ?_ _));refine yE (cs:=#[.slice Ao69 t146.length co69,.slice Ao64 t140.length co64,.slice none 0 0]) ?_ 2 _ rfl;(with_reducible repeat (first|refine zB ?_ _|refine zF ?_|refine zA ?_ _));refine yE (cs:=#[.slice Ao69 t146.length co69,.slice none 0 0,.slice none 0 0]) ?_ 1 _ rfl;(with_reducible repeat (first|refine zB ?_ _|refine zF ?_|refine zA ?_ _));refine yE (cs:=#[.slice none 0 0,.slice none 0 0,.slice none 0 0]) ?_ 0 _ rfl;(with_reducible repeat (first|refine zB ?_ _|refine zF ?_|refine zA ?_ _));exact BK119.out) Tryd.underlying30 rfl (by kernel_rfl)) rfl ?_
     exact ⟨_,_,_,by first|rfl|(simp [errW_none,errW_some] <;> rfl)|(simp [*,errW_none,errW_some] <;> rfl),zO (R_V (by (with_reducible repeat (first|apply zR|apply zQ|apply zU));exact yB (zT (p:=⟨gb119,2,none⟩) (zT (p:=⟨gb119,1,none⟩) (zT (p:=⟨gb119,0,none⟩) (zX HO148.out BK119.out (by decide)) (fun _ hk=>hk.2) (.slice Ao69 t146.length co69)) (fun _ hk=>hk.2) (.slice Ao64 t140.length co64)) (fun _ hk=>hk.2) (.slice Ao65 t143.length co65)) (fun _ hk=>hk.1.1))) (fun k_ hk=>by first|exact ⟨(.inr (hk.1)),hk.2⟩|exact (.inr (hk))),zO (R_V (by (with_reducible repeat (first|apply zR|apply zQ|apply zU));exact yB (zT (p:=⟨gb119,2,none⟩) (zT (p:=⟨gb119,1,none⟩) (zT (p:=⟨gb119,0,none⟩) (zX HO142.out BK119.out (by decide)) (fun _ hk=>hk.2) (.slice Ao69 t146.length co69)) (fun _ hk=>hk.2) (.slice Ao64 t140.length co64)) (fun _ hk=>hk.2) (.slice Ao65 t143.length co65)) (fun _ hk=>hk.1.1))) (fun k_ hk=>by first|exact ⟨(.inr (hk.1)),hk.2⟩|exact (.inr (hk))),zO (R_V (by (with_reducible repeat (first|apply zR|apply zQ|apply zU));exact yB (zT (p:=⟨gb119,2,none⟩) (zT (p:=⟨gb119,1,none⟩) (zT (p:=⟨gb119,0,none⟩) (zX HO145.out BK119.out (by decide)) (fun _ hk=>hk.2) (.slice Ao69 t146.length co69)) (fun _ hk=>hk.2) (.slice Ao64 t140.length co64)) (fun _ hk=>hk.2) (.slice Ao65 t143.length co65)) (fun _ hk=>hk.1.1))) (fun k_ hk=>by first|exact ⟨(.inr (hk.1)),hk.2⟩|exact (.inr (hk))),by repeat (first|(with_reducible first|exact HB.out|apply zG|apply zD|apply zH|refine zC ?_ GE118.out|refine zC ?_ GE119.out|refine zC ?_ GE121.out)|exact HB.out)⟩
def cmp_isNaN_int.f (a0:Int):Option (Bool):=some (a0 != a0)
set_option maxHeartbeats 8000000 in
set_option maxRecDepth 10000000 in
theorem cmp_isNaN_int.calls (a0:Int) (r:Bool) (w:World) (h:cmp_isNaN_int.f a0=some r) :
  Calls Tryd.prog 67 #[.int .i64 a0] w fun e w'=>e=.returned (.bool r)∧Drawn0 w w':=by
 have H:(some (a0 != a0))=some r:=h
 clear h
 obtain rfl:=Option.some.inj H
 go_enter Tryd.func67,Tryd.ntmps67
 go_wp2
 go_ret
 exact ⟨by first|rfl|(simp;done)|(simp [*];done),by repeat (first|exact Drawn0.refl _|apply Drawn0.step)⟩
def cmp_Less_int.f (a0:Int) (a1:Int):Option (Bool):=(cmp_isNaN_int.f a0).bind fun t149=>(if t149=true then ((cmp_isNaN_int.f a1).bind fun t150=>(if t150=true then (some (decide (a0 < a1))) else (some true))) else (some (decide (a0 < a1))))
set_option maxHeartbeats 8000000 in
set_option maxRecDepth 10000000 in
theorem cmp_Less_int.calls (a0:Int) (a1:Int) (r:Bool) (w:World) (h:cmp_Less_int.f a0 a1=some r) :
  Calls Tryd.prog 59 #[.int .i64 a0,.int .i64 a1] w fun e w'=>e=.returned (.bool r)∧Drawn0 w w':=by
 have H:((cmp_isNaN_int.f a0).bind fun t149=>(if t149=true then ((cmp_isNaN_int.f a1).bind fun t150=>(if t150=true then (some (decide (a0 < a1))) else (some true))) else (some (decide (a0 < a1)))))=some r:=h
 clear h
 replace H:=Option.bind_eq_some_iff.mp H
 obtain ⟨t149,A30,H⟩:=H
 replace H:(if t149=true then ((cmp_isNaN_int.f a1).bind fun t150=>(if t150=true then (some (decide (a0 < a1))) else (some true))) else (some (decide (a0 < a1))))=some r:=H
 have A3:=Zk A30
 clear A30
 by_cases c4:t149=true
 ·subst c4
  have H1:((cmp_isNaN_int.f a1).bind fun t150=>(if t150=true then (some (decide (a0 < a1))) else (some true)))=some r:=by rw [if_pos rfl] at H;exact H
  clear H
  have H:=H1
  clear H1
  replace H:=Option.bind_eq_some_iff.mp H
  obtain ⟨t150,A50,H⟩:=H
  replace H:(if t150=true then (some (decide (a0 < a1))) else (some true))=some r:=H
  have A5:=Zk A50
  clear A50
  by_cases c6:t150=true
  ·subst c6
   have H1:(some (decide (a0 < a1)))=some r:=by rw [if_pos rfl] at H;exact H
   clear H
   have H:=H1
   clear H1
   obtain rfl:=Option.some.inj H
   go_enter Tryd.func59,Tryd.ntmps59
   go_wp2_with (first|((with_reducible refine yD (f:=67) rfl ?_);refine yM (some 6) rfl rfl Tryd.func67 (by kernel_rfl) rfl #[.int .i64 a0] rfl (by (try simp only [List.map_toArray,List.map_cons,List.map_nil]);first|done|rfl|(simp only [List.length_drop,List.length_take];rfl)) ?_;(with_reducible refine (cmp_isNaN_int.calls a0 true _ A3.out).mono ?_);rintro e w' ⟨rfl,⟨nd,rfl⟩⟩;refine ⟨_,rfl,?_⟩)|(go_at_call 67;(with_reducible refine (cmp_isNaN_int.calls a1 true _ A5.out).mono ?_);rintro e w' ⟨rfl,⟨nd,rfl⟩⟩))
   go_ret
   exact ⟨by first|rfl|(simp;done)|(simp [*];done),by repeat (first|exact Drawn0.refl _|apply Drawn0.step)⟩
  ·replace c6:=Bool.eq_false_iff.mpr c6
   subst c6
   have H1:(some true)=some r:=by rw [if_neg (show ¬ (false=true) by decide)] at H;exact H
   clear H
   have H:=H1
   clear H1
   obtain rfl:=Option.some.inj H
   go_enter Tryd.func59,Tryd.ntmps59
   go_wp2_with (first|((with_reducible refine yD (f:=67) rfl ?_);refine yM (some 6) rfl rfl Tryd.func67 (by kernel_rfl) rfl #[.int .i64 a0] rfl (by (try simp only [List.map_toArray,List.map_cons,List.map_nil]);first|done|rfl|(simp only [List.length_drop,List.length_take];rfl)) ?_;(with_reducible refine (cmp_isNaN_int.calls a0 true _ A3.out).mono ?_);rintro e w' ⟨rfl,⟨nd,rfl⟩⟩;refine ⟨_,rfl,?_⟩)|(go_at_call 67;(with_reducible refine (cmp_isNaN_int.calls a1 false _ A5.out).mono ?_);rintro e w' ⟨rfl,⟨nd,rfl⟩⟩))
   go_ret
   exact ⟨by first|rfl|(simp;done)|(simp [*];done),by repeat (first|exact Drawn0.refl _|apply Drawn0.step)⟩
 ·replace c4:=Bool.eq_false_iff.mpr c4
  subst c4
  have H1:(some (decide (a0 < a1)))=some r:=by rw [if_neg (show ¬ (false=true) by decide)] at H;exact H
  clear H
  have H:=H1
  clear H1
  obtain rfl:=Option.some.inj H
  go_enter Tryd.func59,Tryd.ntmps59
  go_wp2_with (first|((with_reducible refine yD (f:=67) rfl ?_);refine yM (some 6) rfl rfl Tryd.func67 (by kernel_rfl) rfl #[.int .i64 a0] rfl (by (try simp only [List.map_toArray,List.map_cons,List.map_nil]);first|done|rfl|(simp only [List.length_drop,List.length_take];rfl)) ?_;(with_reducible refine (cmp_isNaN_int.calls a0 false _ A3.out).mono ?_);rintro e w' ⟨rfl,⟨nd,rfl⟩⟩;refine ⟨_,rfl,?_⟩))
  go_ret
  exact ⟨by first|rfl|(simp;done)|(simp [*];done),by repeat (first|exact Drawn0.refl _|apply Drawn0.step)⟩
def slices_isNaN_int.f (a0:Int):Option (Bool):=some (a0 != a0)
set_option maxHeartbeats 8000000 in
set_option maxRecDepth 10000000 in
theorem slices_isNaN_int.calls (a0:Int) (r:Bool) (w:World) (h:slices_isNaN_int.f a0=some r) :
  Calls Tryd.prog 60 #[.int .i64 a0] w fun e w'=>e=.returned (.bool r)∧Drawn0 w w':=by
 have H:(some (a0 != a0))=some r:=h
 clear h
 obtain rfl:=Option.some.inj H
 go_enter Tryd.func60,Tryd.ntmps60
 go_wp2
 go_ret
 exact ⟨by first|rfl|(simp;done)|(simp [*];done),by repeat (first|exact Drawn0.refl _|apply Drawn0.step)⟩
end Go.Proofs.YtnkkdpjipfjdaaaDoor.Q
end
