/- Own texts of one claim, put one behind the other by wip/tool/pack.py: words beside the print's, what each printed function computes, and the plain laws. -/
import Derived.Test.YtpljggoogodhlaaKStD
import Derived.SizedLaws
import Derived.ProofKit
import Derived.WideShapes
import Derived.OpenShut
import Derived.ChangeArms
import Derived.Deep.Slices
import Derived.ChangeSame
section
namespace Go.Proofs.YtpljggoogodhlaaM
open Go Go.RowKit Go.Proofs.YtpljggoogodhlaaW.PrintWords Go.WideShapes Go.ChangeShapes
def Opens {α:Type} (P:Program) (d:Kd α) (t:TypeId) (G:α→Prop):Prop:=
  ∀ (H:Type) (enc:TypeId × Value→H) (w:World) (spare:Nat→Bool) (held:Bool) (fuel:Nat) (cs:List Value) (dd:DataW H) (ps:List MemPlace),
    DataW.trod enc P w 0 spare held fuel t cs=some (dd,ps)→(dd.weights P t).all (·≤reachBytes)=true→∃ x:α,d.K w x cs∧G x
theorem Opens.imp {α:Type} {P:Program} {d:Kd α} {t:TypeId} {G G':α→Prop} (h:Opens P d t G) (hg:∀ x,G x→G' x):Opens P d t G':=fun H enc w s hd f cs dd ps h1 h2=>by
  obtain ⟨x,hk,hx⟩:=h H enc w s hd f cs dd ps h1 h2
  exact ⟨x,hk,hg x hx⟩
theorem opens_int {P:Program} {t:TypeId} {k:IntKind} (ht:P.underlying t=some (.int k)):Opens P (Kd.int k) t (fun x=>(Lit.int k x).wf=true):=by
  intro H enc w s hd fuel cs dd ps h _
  obtain ⟨n,rfl,_,hw⟩:=DataW.trod_int ht h
  exact ⟨n,rfl,hw⟩
theorem opens_bool {P:Program} {t:TypeId} (ht:P.underlying t=some .bool):Opens P Kd.bool t (fun _=>True):=by
  intro H enc w s hd fuel cs dd ps h _
  obtain ⟨b,rfl,_⟩:=DataW.trod_bool ht h
  exact ⟨b,rfl,trivial⟩
theorem weightsAll_mem {H:Type} {P:Program} {e:TypeId} {d:DataW H}:∀ {l:List (DataW H)},d ∈ l→(DataW.weightsAll P e l).all (·≤reachBytes)=true→(d.weights P e).all (·≤reachBytes)=true
  |a :: l,hd,h=>by
    rw [DataW.weightsAll,List.all_append,Bool.and_eq_true] at h
    rcases List.mem_cons.1 hd with rfl|hd
    · exact h.1
    · exact weightsAll_mem hd h.2
theorem collect {α:Type} {Q:Nat→α→Prop}:∀ {n:Nat},(∀ i,i < n→∃ x,Q i x)→∃ l:List α,l.length=n∧∀ j x,l[j]?=some x→Q j x
  |0,_=>⟨[],rfl,fun j x hx=>by simp at hx⟩
  |n + 1,h=>by
    obtain ⟨l,hl,hq⟩:=collect (n:=n) (fun i hi=>h i (by omega))
    obtain ⟨x,hx⟩:=h n (by omega)
    refine ⟨l ++ [x],by simp [hl],fun j y hy=>?_⟩
    rcases Nat.lt_or_ge j l.length with hj|hj
    · rw [List.getElem?_append_left hj] at hy
      exact hq j y hy
    · rw [List.getElem?_append_right hj] at hy
      have h0:j - l.length=0:=by
        rcases Nat.eq_zero_or_pos (j - l.length) with h0|h0
        · exact h0
        · rw [List.getElem?_eq_none (by simp;omega)] at hy
          cases hy
      rw [h0] at hy
      obtain rfl:x=y:=by simpa using hy
      obtain rfl:j=n:=by omega
      exact hx
theorem add_add_ (a:Addr) (i j:Nat):(a.add i).add j=a.add (i + j):=by
  by_cases hi:i=0
  · subst hi
    simp [Addr.add]
  · by_cases hj:j=0
    · subst hj
      simp [Addr.add,hi]
    · simp [Addr.add,hi,hj,Nat.add_assoc]
theorem opens_slice {α:Type} {P:Program} {d:Kd α} {t e:TypeId} {G:α→Prop} (ht:P.underlying t=some (.slice e)) (he:Opens P d e G) (hsz:P.cellsOf e=d.sz) :
    Opens P (Kd.slice e d) t (fun l=>l.length * P.bytesOf e≤140737488351232∧l.length≤maxLen∧∀ x ∈ l,G x):=by
  intro H enc w s hd fuel cs dd ps h hw
  rcases Go.Deep.open_slice ht h with ⟨rfl,_⟩|⟨a,len,cap,m,n,D,Pl,rfl,hb,hl,hm,hmm,hx,hget⟩
  · exact ⟨[],⟨none,0,rfl,Nat.le_refl _,rfl,by simp,fun h0=>absurd h0 (by simp)⟩,by simp,by simp,by simp⟩
  · injection hx with h1 h2
    subst h1
    have hlm:len≤m:=by rw [hmm];split <;> omega
    have hw1:(len * P.bytesOf e≤reachBytes)∧∀ i,i < len→((D i).weights P e).all (·≤reachBytes)=true:=by
      simp only [DataW.weights,ht,List.all_cons,List.all_append,Bool.and_eq_true,decide_eq_true_eq,List.length_map,List.length_range] at hw
      obtain ⟨hw1,hw2,_⟩:=hw
      refine ⟨Nat.le_trans (Nat.mul_le_mul_right _ (Nat.le_add_right _ _)) hw1,fun i hi=>weightsAll_mem (List.mem_map.2 ⟨i,List.mem_range.2 hi,rfl⟩) hw2⟩
    have hex:∀ i:Nat,i < len→∃ x:α,G x∧∃ c,c.length=d.sz∧d.K w x c∧∀ q u,c[q]?=some u→w.cell? ((a.add (i * P.cellsOf e)).add q)=some u:=by
      intro i hi
      obtain ⟨cs',h1,h2⟩:=hget i (by omega)
      obtain ⟨x,hk,hg⟩:=he H enc w s hd n cs' (D i) (Pl i) h2 (hw1.2 i hi)
      obtain ⟨_,hlen,hc⟩:=World.cells?_some h1
      refine ⟨x,hg,cs',hlen.trans hsz,hk,fun q u hq=>?_⟩
      have hq':q < P.cellsOf e:=by rw [← hlen];exact (List.getElem?_eq_some_iff.1 hq).1
      rw [hc q hq']
      exact hq
    obtain ⟨l,hll,hl2⟩:=collect hex
    subst hll
    have hmax:cap≤9223372036854775807:=hm
    refine ⟨l,⟨some a,cap,rfl,hl,rfl,by omega,fun _=>⟨a,rfl,fun j x hj=>?_⟩⟩,hw1.1,Nat.le_trans hl hm,fun x hx=>?_⟩
    · obtain ⟨_,c,hc,hk,hcell⟩:=hl2 j x hj
      refine ⟨c,hc,hk,fun q u hq=>?_⟩
      rw [← add_add_ a (j * d.sz) q,← hsz]
      exact hcell q u hq
    · obtain ⟨j,hj⟩:=List.getElem?_of_mem hx
      exact (hl2 j x hj).1
def OpensF {γ:Type} (P:Program) (fs:List Field) (o n:Nat) (d:Kd γ) (G:γ→Prop):Prop:=
  ∀ (H:Type) (enc:TypeId × Value→H) (w:World) (spare:Nat→Bool) (held:Bool) (fuel:Nat) (cs:List Value) (xs:List (DataW H × List MemPlace)),cs.length=n→xs.length=fs.length→
    (∀ (i:Nat) (f:Field),fs[i]?=some f→DataW.trod enc P w 0 spare held fuel f.type ((cs.drop f.offset).take (P.cellsOf f.type))=xs[i]?)→
    (DataW.weightsEach P (fs.map (·.type)) (xs.map (·.1))).all (·≤reachBytes)=true→∃ x:γ,d.K w x (cs.drop o)∧G x
theorem OpensF.last {γ:Type} {P:Program} {f:Field} {o n:Nat} {d:Kd γ} {G:γ→Prop} (h:Opens P d f.type G) (ho:f.offset=o) (hn:n=o + P.cellsOf f.type):OpensF P [f] o n d G:=by
  intro H enc w s hd fuel cs xs hl hx hf hw
  obtain ⟨x0,rfl⟩:∃ x0,xs=[x0]:=by
    rcases xs with _|⟨x0,_|⟨x1,r⟩⟩
    · cases hx
    · exact ⟨x0,rfl⟩
    · simp at hx
  have h0:=hf 0 f rfl
  rw [ho,List.take_of_length_le (by rw [List.length_drop];omega)] at h0
  obtain ⟨x1,x2⟩:=x0
  refine h H enc w s hd fuel _ x1 x2 (by rw [h0];rfl) ?_
  simpa [DataW.weightsEach] using hw
theorem OpensF.next {α γ:Type} {P:Program} {f:Field} {fs:List Field} {o n:Nat} {a:Kd α} {b:Kd γ} {Ga:α→Prop} {Gb:γ→Prop} (h:Opens P a f.type Ga) (ho:f.offset=o) (m:Nat) (hm:m=o + P.cellsOf f.type) (hr:OpensF P fs m n b Gb) :
    OpensF P (f :: fs) o n (Kd.pair a b) (fun x=>Ga x.1∧Gb x.2):=by
  intro H enc w s hd fuel cs xs hl hx hf hw
  rcases xs with _|⟨⟨x1,x2⟩,xs⟩
  · cases hx
  have h0:=hf 0 f rfl
  rw [ho] at h0
  simp only [List.map_cons,DataW.weightsEach,List.all_append,Bool.and_eq_true] at hw
  obtain ⟨x,hk,hg⟩:=h H enc w s hd fuel _ x1 x2 (by rw [h0];rfl) hw.1
  obtain ⟨y,hk2,hg2⟩:=hr H enc w s hd fuel cs xs hl (by simpa using hx) (fun i f' hf'=>hf (i + 1) f' (by simpa using hf')) hw.2
  refine ⟨(x,y),⟨_,_,?_,hk,hk2⟩,hg,hg2⟩
  rw [hm,← List.drop_drop,List.take_append_drop]
theorem Opens.struct {γ:Type} {P:Program} {t:TypeId} {fs:Array Field} {n:Nat} {d:Kd γ} {G:γ→Prop} (ht:P.underlying t=some (.struct fs)) (hn:P.cellsOf t=n) (h:OpensF P fs.toList 0 n d G):Opens P d t G:=by
  intro H enc w s hd fuel cs dd ps h1 hw
  obtain ⟨xs,m,_,hx,hl,hlen,hf⟩:=DataW.trod_struct ht h1
  injection hx with h2 h3
  subst h2
  have:=h H enc w s hd m cs xs (hl.trans hn) (by simpa using hlen) (fun i f hf'=>hf i f (by simpa using hf')) (by simpa [DataW.weights,ht] using hw)
  simpa using this
theorem Opens.iso {α β:Type} {P:Program} {t:TypeId} {d:Kd α} {G:α→Prop} (h:Opens P d t G) (f:β→α) (g:α→β) (hfg:∀ x,f (g x)=x):Opens P (Kd.iso d f) t (fun y=>G (f y)):=by
  intro H enc w s hd fuel cs dd ps h1 hw
  obtain ⟨x,hk,hg⟩:=h H enc w s hd fuel cs dd ps h1 hw
  exact ⟨g x,by show d.K w (f (g x)) cs;rw [hfg];exact hk,by show G (f (g x));rw [hfg];exact hg⟩
theorem Opens.arg {α:Type} {P:Program} {d:Kd α} {t:TypeId} {G:α→Prop} (h:Opens P d t G) {H:Type} {enc:TypeId × Value→H} {w:World} {spare:Nat→Bool} {held:Bool} {v:Value} {dd:DataW H} {ps:List MemPlace} {ts:List TypeId} {ds:List (DataW H)}
    (hT:DataW.Trod enc P w 0 spare held t v dd ps) (hs:(DataW.weightsEach P ts ds).all (·≤reachBytes)=true) {j:Nat} (h1:ts[j]?=some t) (h2:ds[j]?=some dd):∃ x:α,d.K w x v.cells.toList∧G x:=by
  obtain ⟨fuel,hf⟩:=hT
  exact h H enc w spare held fuel _ dd ps hf (List.all_eq_true.2 (fun n hn=>List.all_eq_true.1 hs n (DataW.weights_mem_each h1 h2 n hn)))
end Go.Proofs.YtpljggoogodhlaaM

end
