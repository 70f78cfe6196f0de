/- Own texts of one claim, put one behind the other by wip/tool/pack.py: words beside the print's, what each printed function computes, and the plain laws. -/
import Derived.Test.YtnkkdpjipfjdaaaDoorKStF
import Derived.SizedLaws
import Derived.ProofKit
import Derived.WideShapes
import Derived.OpenShut
import Derived.ChangeArms
import Derived.Deep.Slices
import Derived.ChangeSame
import Derived.Test.YtnkkdpjipfjdaaaDoorRows
import Derived.LaidLaws
import Derived.LaidSub
import Derived.Lib.LaidTab
import Derived.KernelRfl
section
namespace Go.Proofs.YtnkkdpjipfjdaaaDoor.Sg
open Go.RowKit Go.Proofs.YtnkkdpjipfjdaaaDoor.Q Go.Proofs.YtnkkdpjipfjdaaaDoorW.PrintWords Go.Proofs.YtnkkdpjipfjdaaaDoorW.PrintLast Go.Proofs.YtnkkdpjipfjdaaaDoorM Go.Proofs.YtnkkdpjipfjdaaaDoor.Ix
set_option linter.unusedVariables false
set_option linter.unusedSectionVars false
section
variable (p g c:List Int) (hp:p.length≤1000) (hg:g.length≤1000) (hc:c.length≤1000)
include hp hg hc
theorem sl1_ev:∀ (m i:Nat),i + m=p.length→∃ r:Int,Ev (fun k=>signal_Valid.l1 k p (p.length:Int) (i:Int) p g c) r∧((r=25∧∃ x,badB p g x)∨(r=0∧∀ x,(x ∈ p.drop i→x≠18→x ∉ g)∧¬ (stopsB x=true∧x ∈ p∧(18:Int) ∈ p)))
  |0,i,h=>by
    have hd:p.drop i=[]:=List.drop_eq_nil_of_le (by omega)
    have hany:∀ b,slices_ContainsFunc_int_int_stops.f p 0=some b↔b=p.any stopsB:=fun b=>by
      unfold slices_ContainsFunc_int_int_stops.f
      exact ⟨fun h=>(Option.some.inj h).symm,fun h=>by rw [h];rfl⟩
    by_cases h18:(18:Int) ∈ p
    · by_cases hs:p.any stopsB=true
      · obtain ⟨x,hx,hxs⟩:=List.any_eq_true.1 hs
        exact ⟨25,Ev.step (fun k=>by apply signal_Valid.l1.eq_2) (yP (by omega) (Ev.bind (contains_ev p 18 hp) (yJ (decide_eq_true h18) (ev_bindc ((hany true).2 hs.symm) (yJ rfl (ev_some rfl)))))),.inl ⟨rfl,x,.inr ⟨hxs,hx,h18⟩⟩⟩
      · have hsf:p.any stopsB=false:=by simpa using hs
        refine ⟨0,Ev.step (fun k=>by apply signal_Valid.l1.eq_2) ?_,.inr ⟨rfl,fun x=>⟨fun hx=>(by rw [hd] at hx;cases hx),fun h=>hs (List.any_eq_true.2 ⟨x,h.2.1,h.1⟩)⟩⟩⟩
        refine yP (by omega) (Ev.bind (contains_ev p 18 hp) (yJ (decide_eq_true h18) ?_))
        refine ev_bindc ((hany false).2 hsf.symm) ?_
        exact yP Bool.false_ne_true (ev_some rfl)
    · exact ⟨0,Ev.step (fun k=>by apply signal_Valid.l1.eq_2) (yP (by omega) (Ev.bind (contains_ev p 18 hp) (yP (fun h=>h18 (of_decide_eq_true h)) (ev_some rfl)))),.inr ⟨rfl,fun x=>⟨fun hx=>(by rw [hd] at hx;cases hx),fun h=>h18 h.2.2⟩⟩⟩
  |m + 1,i,h=>by
    have hi:i < p.length:=by omega
    have hd:=drop_at p i hi
    have hr:rd p (i:Int)=p.getD i 0:=rfl
    have hmem:p.getD i 0 ∈ p:=by
      rw [List.getD_eq_getElem?_getD,List.getElem?_eq_getElem hi]
      exact List.getElem_mem hi
    obtain ⟨r,h1,h2⟩:=sl1_ev m (i + 1) (by omega)
    have hw:wrap64 ((i:Int) + 1)=((i + 1:Nat):Int):=by rw [wrap_in (by omega) (by omega)];omega
    rw [← hw] at h1
    by_cases h18:p.getD i 0=18
    · refine ⟨r,Ev.step (fun k=>by apply signal_Valid.l1.eq_2) (yJ (by omega) (yJ (by omega) (yJ (by omega) (yJ (by rw [hr];exact h18) h1)))),?_⟩
      rcases h2 with h2|⟨e,h2⟩
      · exact .inl h2
      · refine .inr ⟨e,fun x=>⟨fun hx hne=>?_,(h2 x).2⟩⟩
        rw [hd] at hx
        rcases List.mem_cons.1 hx with hx|hx
        · exact absurd (hx.trans h18) hne
        · exact (h2 x).1 hx hne
    · by_cases hin:p.getD i 0 ∈ g
      · exact ⟨25,Ev.step (fun k=>by apply signal_Valid.l1.eq_2) (yJ (by omega) (yJ (by omega) (yJ (by omega) (yP (by rw [hr];exact h18) (Ev.bind (contains_ev g (p.getD i 0) hg) (yJ (decide_eq_true hin) (ev_some rfl))))))),.inl ⟨rfl,_,.inl ⟨h18,hmem,hin⟩⟩⟩
      · refine ⟨r,Ev.step (fun k=>by apply signal_Valid.l1.eq_2) (yJ (by omega) (yJ (by omega) (yJ (by omega) (yP (by rw [hr];exact h18) (Ev.bind (contains_ev g (p.getD i 0) hg) (yP (fun h=>hin (of_decide_eq_true h)) h1)))))),?_⟩
        rcases h2 with h2|⟨e,h2⟩
        · exact .inl h2
        · refine .inr ⟨e,fun x=>⟨fun hx hne=>?_,(h2 x).2⟩⟩
          rw [hd] at hx
          rcases List.mem_cons.1 hx with hx|hx
          · rw [hx];exact hin
          · exact (h2 x).1 hx hne
theorem sl0_ev (r1:Int) (hr1:Ev (fun k=>signal_Valid.l1 k p (p.length:Int) 0 p g c) r1):∀ (m i:Nat),i + m=g.length→∃ r:Int,Ev (fun k=>signal_Valid.l0 k g (g.length:Int) (i:Int) p g c) r∧((r=1∧∃ x,x ∈ g∧x ∈ c)∨(r=r1∧∀ x,x ∈ g.drop i→x ∉ c))
  |0,i,h=>⟨r1,Ev.step (fun k=>by apply signal_Valid.l0.eq_2) (yP (by omega) hr1),.inr ⟨rfl,fun x hx=>by rw [List.drop_eq_nil_of_le (by omega)] at hx;cases hx⟩⟩
  |m + 1,i,h=>by
    have hi:i < g.length:=by omega
    have hd:=drop_at g i hi
    have hr:rd g (i:Int)=g.getD i 0:=rfl
    have hmem:g.getD i 0 ∈ g:=by
      rw [List.getD_eq_getElem?_getD,List.getElem?_eq_getElem hi]
      exact List.getElem_mem hi
    obtain ⟨r,h1,h2⟩:=sl0_ev r1 hr1 m (i + 1) (by omega)
    have hw:wrap64 ((i:Int) + 1)=((i + 1:Nat):Int):=by rw [wrap_in (by omega) (by omega)];omega
    rw [← hw] at h1
    by_cases hin:g.getD i 0 ∈ c
    · exact ⟨1,Ev.step (fun k=>by apply signal_Valid.l0.eq_2) (yJ (by omega) (yJ (by omega) (yJ (by omega) (Ev.bind (contains_ev c (g.getD i 0) hc) (yJ (decide_eq_true hin) (ev_some rfl)))))),.inl ⟨rfl,_,hmem,hin⟩⟩
    · refine ⟨r,Ev.step (fun k=>by apply signal_Valid.l0.eq_2) (yJ (by omega) (yJ (by omega) (yJ (by omega) (Ev.bind (contains_ev c (g.getD i 0) hc) (yP (fun h=>hin (of_decide_eq_true h)) h1))))),?_⟩
      rcases h2 with h2|⟨e,h2⟩
      · exact .inl h2
      · refine .inr ⟨e,fun x hx=>?_⟩
        rw [hd] at hx
        rcases List.mem_cons.1 hx with hx|hx
        · rw [hx];exact hin
        · exact h2 x hx
theorem valid_sig:∃ r:Int,Ev (fun k=>signal_Valid.f k p g c) r∧
    ((r=1∧¬ (okFrom p 0∧okFrom g 0∧okFrom c 0))∨
     ((okFrom p 0∧okFrom g 0∧okFrom c 0)∧((r=1∧∃ x,badA g c x)∨((∀ x,¬ badA g c x)∧((r=25∧∃ x,badB p g x)∨(r=0∧∀ x,¬ badB p g x)))))):=by
  obtain ⟨b1,e1,_,f1⟩:=list_ev p hp
  obtain ⟨b2,e2,_,f2⟩:=list_ev g hg
  obtain ⟨b3,e3,_,f3⟩:=list_ev c hc
  have out:Ev (fun k=>signal_Valid.j0 k true p g c) 1:=Ev.step (fun k=>by apply signal_Valid.j0.eq_2) (yJ rfl (ev_some rfl))
  have hfix:∀ l:List Int,slices_ContainsFunc_int_int_fixed.f l 0=some (l.any fun x=>(x == 9 ||x == 19)):=fun _=>rfl
  cases b1 with
  |false=>exact ⟨1,Ev.bind f1 (yP Bool.false_ne_true out),.inl ⟨rfl,fun h=>by simpa using e1.2 h.1⟩⟩
  |true=>
    cases b2 with
    |false=>exact ⟨1,Ev.bind f1 (yJ rfl (Ev.bind f2 (yP Bool.false_ne_true out))),.inl ⟨rfl,fun h=>by simpa using e2.2 h.2.1⟩⟩
    |true=>
      cases b3 with
      |false=>exact ⟨1,Ev.bind f1 (yJ rfl (Ev.bind f2 (yJ rfl (Ev.bind f3 (yP Bool.false_ne_true out))))),.inl ⟨rfl,fun h=>by simpa using e3.2 h.2.2⟩⟩
      |true=>
        have ok:=And.intro (e1.1 rfl) (And.intro (e2.1 rfl) (e3.1 rfl))
        have cond:∀ {x:Int},(x == 9 ||x == 19)=true→x=9∨x=19:=fun h=>by simpa using h
        cases hq:(g.any fun x=>(x == 9 ||x == 19)) with
        |true=>
          obtain ⟨x,hx,hx2⟩:=List.any_eq_true.1 hq
          exact ⟨1,Ev.bind f1 (yJ rfl (Ev.bind f2 (yJ rfl (Ev.bind f3 (yJ rfl (ev_bindc ((hfix g).trans (congrArg some hq)) (yJ rfl out))))))),.inr ⟨ok,.inl ⟨rfl,x,.inl ⟨cond hx2,.inl hx⟩⟩⟩⟩
        |false=>
          cases hq2:(c.any fun x=>(x == 9 ||x == 19)) with
          |true=>
            obtain ⟨x,hx,hx2⟩:=List.any_eq_true.1 hq2
            exact ⟨1,Ev.bind f1 (yJ rfl (Ev.bind f2 (yJ rfl (Ev.bind f3 (yJ rfl (ev_bindc ((hfix g).trans (congrArg some hq)) (yP Bool.false_ne_true (ev_bindc ((hfix c).trans (congrArg some hq2)) out)))))))),.inr ⟨ok,.inl ⟨rfl,x,.inl ⟨cond hx2,.inr hx⟩⟩⟩⟩
          |false=>
            obtain ⟨r1,g1,s1⟩:=sl1_ev p g c hp hg hc p.length 0 (by omega)
            obtain ⟨r0,g0,s0⟩:=sl0_ev p g c hp hg hc r1 g1 g.length 0 (by omega)
            refine ⟨r0,Ev.bind f1 (yJ rfl (Ev.bind f2 (yJ rfl (Ev.bind f3 (yJ rfl (ev_bindc ((hfix g).trans (congrArg some hq)) (yP Bool.false_ne_true (ev_bindc ((hfix c).trans (congrArg some hq2)) (Ev.step (fun k=>by apply signal_Valid.j0.eq_2) (yP Bool.false_ne_true g0)))))))))),.inr ⟨ok,?_⟩⟩
            have hn1:∀ x,x=9∨x=19→x ∉ g:=fun x h hx=>by
              have:=List.any_eq_false.1 hq x hx
              rcases h with h|h <;> subst h <;> simp at this
            have hn2:∀ x,x=9∨x=19→x ∉ c:=fun x h hx=>by
              have:=List.any_eq_false.1 hq2 x hx
              rcases h with h|h <;> subst h <;> simp at this
            rcases s0 with ⟨e,x,hx⟩|⟨e,hx⟩
            · exact .inl ⟨e,x,.inr hx⟩
            · rw [List.drop_zero] at hx
              refine .inr ⟨fun x h=>h.elim (fun h=>h.2.elim (hn1 x h.1) (hn2 x h.1)) (fun h=>hx x h.1 h.2),?_⟩
              rcases s1 with ⟨e',hy⟩|⟨e',hy⟩
              · exact .inl ⟨e.trans e',hy⟩
              · rw [List.drop_zero] at hy
                exact .inr ⟨e.trans e',fun x h=>h.elim (fun h=>(hy x).1 h.2.1 h.1 h.2.2) (hy x).2⟩
end
def VS (p g c:List Int):Prop:=(okFrom p 0∧okFrom g 0∧okFrom c 0)∧(∀ x,¬ badA g c x)∧∀ x,¬ badB p g x
theorem valid_zero {p g c:List Int} (h:VS p g c):Ev (fun k=>signal_Valid.f k p g c) 0:=by
  have lp:=ok_len h.1.1
  have lg:=ok_len h.1.2.1
  have lc:=ok_len h.1.2.2
  obtain ⟨r,h1,h2⟩:=valid_sig p g c (by omega) (by omega) (by omega)
  rcases h2 with ⟨_,n⟩|⟨_,⟨_,x,n⟩|⟨_,⟨_,x,n⟩|⟨e,_⟩⟩⟩
  · exact absurd h.1 n
  · exact absurd n (h.2.1 x)
  · exact absurd n (h.2.2 x)
  · rw [e] at h1;exact h1
theorem vs_sub {p g c P G C:List Int} (h:VS p g c) (oP:okFrom P 0) (oG:okFrom G 0) (oC:okFrom C 0) (hP:∀ x,x ∈ P→x ∈ p) (hG:∀ x,x ∈ G→x ∈ g) (hC:∀ x,x ∈ C→x ∈ c):VS P G C:=by
  refine ⟨⟨oP,oG,oC⟩,fun x hx=>h.2.1 x ?_,fun x hx=>h.2.2 x ?_⟩
  · exact hx.elim (fun k=>.inl ⟨k.1,k.2.elim (fun k=>.inl (hG x k)) (fun k=>.inr (hC x k))⟩) (fun k=>.inr ⟨hG x k.1,hC x k.2⟩)
  · exact hx.elim (fun k=>.inl ⟨k.1,hP x k.2.1,hG x k.2.2⟩) (fun k=>.inr ⟨k.1,hP x k.2.1,hP 18 k.2.2⟩)
theorem cleared_mem (p:List Int) (n y:Int):y ∈ cleared p n↔y ∈ p∧¬ (n=18∧stopsB y=true)∧¬ (n≠18∧stopsB n=true∧y=18):=by
  unfold cleared
  by_cases h18:n=18
  · rw [if_pos h18,List.mem_filter]
    constructor
    · intro h
      exact ⟨h.1,fun k=>by rw [k.2] at h;exact absurd h.2 (by decide),fun k=>k.1 h18⟩
    · intro h
      refine ⟨h.1,?_⟩
      cases hs:stopsB y with
      |true=>exact absurd ⟨h18,hs⟩ h.2.1
      |false=>rfl
  · rw [if_neg h18]
    by_cases hs:stopsB n=true
    · rw [if_pos hs,List.mem_filter]
      constructor
      · intro h
        exact ⟨h.1,fun k=>h18 k.1,fun k=>by rw [k.2.2] at h;exact absurd h.2 (by decide)⟩
      · intro h
        refine ⟨h.1,?_⟩
        rw [beq_eq_false_iff_ne.2 (fun e=>h.2.2 ⟨h18,hs,e⟩)];rfl
    · rw [if_neg hs]
      exact ⟨fun h=>⟨h,fun k=>h18 k.1,fun k=>hs k.2.1⟩,fun h=>h.1⟩
theorem sent_mem {p:List Int} (g:List Int) {n:Int} (ho:okFrom p 0) (hn:named n) (y:Int):y ∈ sentL p g n↔(y=n∧¬ (n≠18∧n ∈ g))∨y ∈ cleared p n:=by
  unfold sentL
  rw [if_pos hn]
  by_cases h:n≠18∧n ∈ g
  · rw [if_pos h]
    exact ⟨.inr,fun k=>k.elim (fun k=>absurd h k.2) id⟩
  · rw [if_neg h]
    unfold addL
    rw [List.mem_filter,up_mem]
    have h1:y ∈ cleared p n→1≤y∧y≤20:=fun k=>named_in (ok_named (cleared_ok ho n) k)
    have h2:=named_in hn
    constructor
    · intro k
      have k2:=k.2
      simp only [Bool.or_eq_true,beq_iff_eq,decide_eq_true_eq] at k2
      exact k2.elim (fun e=>.inl ⟨e,h⟩) .inr
    · intro k
      refine ⟨?_,?_⟩
      · rcases k with k|k
        · have:=k.1;omega
        · have:=h1 k;omega
      · simp only [Bool.or_eq_true,beq_iff_eq,decide_eq_true_eq]
        exact k.elim (fun k=>.inl k.1) .inr
theorem sent_vs {p g c:List Int} (n:Int) (h:VS p g c):VS (sentL p g n) g c:=by
  by_cases hn:named n
  · refine ⟨⟨sent_ok g h.1.1,h.1.2⟩,h.2.1,fun x hx=>?_⟩
    have m:=sent_mem g h.1.1 hn
    rcases hx with ⟨x18,xp,xg⟩|⟨xs,xp,x18⟩
    · rcases (m x).1 xp with ⟨e,k⟩|k
      · subst e;exact k ⟨x18,xg⟩
      · exact h.2.2 x (.inl ⟨x18,((cleared_mem p n x).1 k).1,xg⟩)
    · rcases (m x).1 xp with ⟨e,k⟩|k
      · subst e
        rcases (m 18).1 x18 with ⟨e,_⟩|k2
        · rw [← e] at xs;exact absurd xs (by decide)
        · exact ((cleared_mem p x 18).1 k2).2.2 ⟨fun e=>by rw [e] at xs;exact absurd xs (by decide),xs,rfl⟩
      · have k':=(cleared_mem p n x).1 k
        rcases (m 18).1 x18 with ⟨e,_⟩|k2
        · exact k'.2.1 ⟨e.symm,xs⟩
        · exact h.2.2 x (.inr ⟨xs,k'.1,((cleared_mem p n 18).1 k2).1⟩)
  · unfold sentL
    rw [if_neg hn]
    exact h
end Go.Proofs.YtnkkdpjipfjdaaaDoor.Sg

end
section
namespace Go.Proofs.YtnkkdpjipfjdaaaDoor.Pure
open Go.RowKit Go.Proofs.YtnkkdpjipfjdaaaDoor.Q Go.Proofs.YtnkkdpjipfjdaaaDoorW.PrintWords Go.Proofs.YtnkkdpjipfjdaaaDoorW.PrintLast Go.Proofs.YtnkkdpjipfjdaaaDoorM Go.Proofs.YtnkkdpjipfjdaaaDoor.Ix Go.Proofs.YtnkkdpjipfjdaaaDoor.Sg
set_option linter.unusedVariables false
theorem short_f (p g c:List Int):jobshelllaw25_short.f p g c=some (decide (p.length≤30∧g.length≤30∧c.length≤30)):=by
  unfold jobshelllaw25_short.f
  by_cases h1:p.length≤30
  · rw [if_pos (by omega)]
    by_cases h2:g.length≤30
    · rw [if_pos (by omega)]
      exact congrArg some (decide_eq_decide.2 (by omega))
    · rw [if_neg (by omega)]
      exact congrArg some (by simp [h2])
  · rw [if_neg (by omega)]
    exact congrArg some (by simp [h1])
theorem fixed_not {n m:Int} (hf:fixedB n=false) (h:m=9∨m=19):m≠n:=by
  intro e
  subst e
  unfold fixedB at hf
  rcases h with h|h <;> subst h <;> exact absurd hf (by decide)
theorem set_vs {p g c:List Int} (n how:Int) (h:VS p g c):∃ (P G C:List Int) (e:Int),Ev (fun k=>signal_Set.f k p g c n how) (P,G,C,e)∧VS P G C:=by
  have lp:=ok_len h.1.1
  have lg:=ok_len h.1.2.1
  have lc:=ok_len h.1.2.2
  by_cases hb:named n∧fixedB n=false∧0≤how∧how≤2
  · obtain ⟨q,q',hq,hq',e⟩:=set_good p g c n how (by omega) (by omega) (by omega) h.1.2.1 h.1.2.2 hb
    have op:=ok_filter h.1.1 (fun x=>!(x == n))
    have og:=ok_filter h.1.2.1 (fun x=>!(x == n))
    have oc:=ok_filter h.1.2.2 (fun x=>!(x == n))
    refine ⟨_,_,_,_,e,?_⟩
    have mg:∀ x,x ∈ lessL g n→x ∈ g:=fun x hx=>((lessL_mem g n x).1 hx).1
    have mc:∀ x,x ∈ lessL c n→x ∈ c:=fun x hx=>((lessL_mem c n x).1 hx).1
    have mp:∀ x,x ∈ lessL p n→x ∈ p:=fun x hx=>((lessL_mem p n x).1 hx).1
    by_cases h1:how=1
    · rw [if_pos h1,if_pos h1,if_neg (show ¬ how=2 by omega)]
      have hP:∀ x,x ∈ (if n=18 then p else lessL p n)→x ∈ p:=by
        intro x hx
        by_cases h18:n=18
        · rw [if_pos h18] at hx;exact hx
        · rw [if_neg h18] at hx;exact mp x hx
      have oP:okFrom (if n=18 then p else lessL p n) 0:=by
        split
        · exact h.1.1
        · exact op
      refine ⟨⟨oP,withL_ok og hb.1 hq,oc⟩,fun x hx=>?_,fun x hx=>?_⟩
      · rcases hx with ⟨k,hx⟩|⟨k1,k2⟩
        · have hne:=fixed_not hb.2.1 k
          refine h.2.1 x (.inl ⟨k,hx.elim (fun hx=>.inl ?_) (fun hx=>.inr (mc x hx))⟩)
          exact mg x (((withL_mem _ _ _ _).1 hx).resolve_left hne)
        · have k2':=(lessL_mem c n x).1 k2
          exact h.2.1 x (.inr ⟨mg x (((withL_mem _ _ _ _).1 k1).resolve_left k2'.2),k2'.1⟩)
      · rcases hx with ⟨x18,xp,xg⟩|⟨xs,xp,x18⟩
        · rcases (withL_mem _ _ _ _).1 xg with k|k
          · subst k
            rw [if_neg x18] at xp
            exact ((lessL_mem p x x).1 xp).2 rfl
          · exact h.2.2 x (.inl ⟨x18,hP x xp,mg x k⟩)
        · exact h.2.2 x (.inr ⟨xs,hP x xp,hP 18 x18⟩)
    · rw [if_neg h1,if_neg h1]
      by_cases h2:how=2
      · rw [if_pos h2]
        refine ⟨⟨h.1.1,og,withL_ok oc hb.1 hq'⟩,fun x hx=>?_,fun x hx=>?_⟩
        · rcases hx with ⟨k,hx⟩|⟨k1,k2⟩
          · have hne:=fixed_not hb.2.1 k
            refine h.2.1 x (.inl ⟨k,hx.elim (fun hx=>.inl (mg x hx)) (fun hx=>.inr ?_)⟩)
            exact mc x (((withL_mem _ _ _ _).1 hx).resolve_left hne)
          · have k1':=(lessL_mem g n x).1 k1
            exact h.2.1 x (.inr ⟨k1'.1,mc x (((withL_mem _ _ _ _).1 k2).resolve_left k1'.2)⟩)
        · exact h.2.2 x (hx.elim (fun k=>.inl ⟨k.1,k.2.1,mg x k.2.2⟩) .inr)
      · rw [if_neg h2]
        exact vs_sub h h.1.1 og oc (fun _ h=>h) mg mc
  · exact ⟨p,g,c,1,set_bad p g c n how hb,h⟩
theorem play_vs {p g c:List Int} (a n how:Int) (h:VS p g c):∃ P G C:List Int,Ev (fun k=>jobshelllaw25_play.f k p g c a n how) (P,G,C)∧VS P G C:=by
  have lp:=ok_len h.1.1
  have lg:=ok_len h.1.2.1
  have lc:=ok_len h.1.2.2
  have nil:okFrom ([]:List Int) 0:=fun j _ hj=>by simp at hj
  have cop:=copied_f p g c (by omega) (by omega) (by omega)
  by_cases h0:a=0
  · exact ⟨_,_,_,yJ h0 (Ev.bind (send_any p g c n h.1.1 (by omega) (by omega)) (ev_some rfl)),sent_vs n h⟩
  · by_cases h1:a=1
    · by_cases hne:p=[]
      · subst hne
        exact ⟨_,_,_,yP h0 (yJ h1 (Ev.bind (next_nil g c) (ev_some rfl))),h⟩
      · obtain ⟨d,hd,_⟩:=def_some (nextN p)
        exact ⟨_,_,_,yP h0 (yJ h1 (Ev.bind (next_ev p g c d (by omega) (by omega) (by omega) h.1.1 hne hd) (ev_some rfl))),vs_sub h (ok_filter h.1.1 _) h.1.2.1 h.1.2.2 (fun x hx=>((lessL_mem p _ x).1 hx).1) (fun _ h=>h) (fun _ h=>h)⟩
    · by_cases h2:a=2
      · obtain ⟨P,G,C,e,h3,h4⟩:=set_vs n how h
        exact ⟨P,G,C,yP h0 (yP h1 (yJ h2 (Ev.bind h3 (ev_some rfl)))),h4⟩
      · by_cases h3:a=3
        · exact ⟨_,_,_,yP h0 (yP h1 (yP h2 (yJ h3 (ev_bindc (by unfold signal_Fork.f;rw [cop];rfl) (ev_some rfl))))),vs_sub h nil h.1.2.1 h.1.2.2 (fun x hx=>by cases hx) (fun _ h=>h) (fun _ h=>h)⟩
        · exact ⟨_,_,_,yP h0 (yP h1 (yP h2 (yP h3 (ev_bindc (by unfold signal_Exec.f;rw [cop];rfl) (ev_some rfl))))),vs_sub h h.1.1 h.1.2.1 nil (fun _ h=>h) (fun _ h=>h) (fun x hx=>by cases hx)⟩
theorem stays_l0 (xs:List S51) (hx:xs.length≤60):∀ (m i:Nat) (p g c:List Int),i + m=xs.length→VS p g c→Ev (fun k=>jobshelllaw25_SignalStays.l0 k xs (i:Int) p g c) true
  |0,i,p,g,c,h,hv=>Ev.step (fun k=>by apply jobshelllaw25_SignalStays.l0.eq_2) (yP (by omega) (Ev.bind awake_ev (ev_some rfl)))
  |m + 1,i,p,g,c,h,hv=>by
    obtain ⟨P,G,C,e,hv2⟩:=play_vs ((rd_T51 xs (i:Int)).f0) ((rd_T51 xs (i:Int)).f1) ((rd_T51 xs (i:Int)).f2) hv
    have ih:=stays_l0 xs hx m (i + 1) P G C (by omega) hv2
    have w1:wrap64 ((i:Int) + 1)=((i + 1:Nat):Int):=by rw [wrap_in (by omega) (by omega)];omega
    rw [← w1] at ih
    exact Ev.step (fun k=>by apply jobshelllaw25_SignalStays.l0.eq_2) (yJ (by omega) (yJ (by omega) (Ev.bind e (Ev.bind (valid_zero hv2) (yJ rfl ih)))))
theorem SignalStays:StSignalStays.Pure:=by
  intro p g c xs _ _ _ _ _ _ _ _ _ _ _ _
  have h:Ev (fun k=>jobshelllaw25_SignalStays.f k p g c xs) true:=by
    have out:Ev (fun k=>jobshelllaw25_SignalStays.j0 k xs true p g c) true:=Ev.step (fun k=>by apply jobshelllaw25_SignalStays.j0.eq_2) (yJ rfl (Ev.bind awake_ev (ev_some rfl)))
    by_cases hs:p.length≤30∧g.length≤30∧c.length≤30
    · obtain ⟨r,h1,h2⟩:=valid_ref p g c (by omega) (by omega) (by omega)
      refine ev_bindc (short_f p g c) (yJ (decide_eq_true hs) (Ev.bind h1 ?_))
      by_cases hr:r=0
      · have ok:VS p g c:=by
          rcases h2 with ⟨a,_⟩|⟨o,⟨a,_⟩|⟨n1,⟨a,_⟩|⟨_,n2⟩⟩⟩
          · omega
          · omega
          · omega
          · exact ⟨o,n1,n2⟩
        refine yJ hr ?_
        by_cases hx:xs.length≤60
        · rw [decide_eq_false (p:=(xs.length:Int) > 60) (by omega)]
          exact Ev.step (fun k=>by apply jobshelllaw25_SignalStays.j0.eq_2) (yP Bool.false_ne_true (stays_l0 xs hx xs.length 0 p g c (by omega) ok))
        · rw [decide_eq_true (p:=(xs.length:Int) > 60) (by omega)]
          exact out
      · exact yP hr out
    · exact ev_bindc (short_f p g c) (yP (by simpa using hs) out)
  obtain ⟨K,hK⟩:=h
  exact ⟨K,hK K (Nat.le_refl _)⟩
end Go.Proofs.YtnkkdpjipfjdaaaDoor.Pure

end
section
namespace Go.Proofs.YtnkkdpjipfjdaaaDoorM
open Go Go.RowKit Go.Proofs.YtnkkdpjipfjdaaaDoorW.PrintWords Go.WideShapes Go.ChangeShapes
def Opens {α:Type} (P:Program) (d:Kd α) (t:TypeId) (G:α→Prop):Prop:=
  ∀ (H:Type) (enc:TypeId × Value→H) (w:World) (spare:Nat→Bool) (held:Bool) (fuel:Nat) (cs:List Value) (dd:DataW H) (ps:List MemPlace),
    DataW.trod enc P w 0 spare held fuel t cs=some (dd,ps)→(dd.weights P t).all (·≤reachBytes)=true→∃ x:α,d.K w x cs∧G x
theorem Opens.imp {α:Type} {P:Program} {d:Kd α} {t:TypeId} {G G':α→Prop} (h:Opens P d t G) (hg:∀ x,G x→G' x):Opens P d t G':=fun H enc w s hd f cs dd ps h1 h2=>by
  obtain ⟨x,hk,hx⟩:=h H enc w s hd f cs dd ps h1 h2
  exact ⟨x,hk,hg x hx⟩
theorem opens_int {P:Program} {t:TypeId} {k:IntKind} (ht:P.underlying t=some (.int k)):Opens P (Kd.int k) t (fun x=>(Lit.int k x).wf=true):=by
  intro H enc w s hd fuel cs dd ps h _
  obtain ⟨n,rfl,_,hw⟩:=DataW.trod_int ht h
  exact ⟨n,rfl,hw⟩
theorem weightsAll_mem {H:Type} {P:Program} {e:TypeId} {d:DataW H}:∀ {l:List (DataW H)},d ∈ l→(DataW.weightsAll P e l).all (·≤reachBytes)=true→(d.weights P e).all (·≤reachBytes)=true
  |a :: l,hd,h=>by
    rw [DataW.weightsAll,List.all_append,Bool.and_eq_true] at h
    rcases List.mem_cons.1 hd with rfl|hd
    · exact h.1
    · exact weightsAll_mem hd h.2
theorem collect {α:Type} {Q:Nat→α→Prop}:∀ {n:Nat},(∀ i,i < n→∃ x,Q i x)→∃ l:List α,l.length=n∧∀ j x,l[j]?=some x→Q j x
  |0,_=>⟨[],rfl,fun j x hx=>by simp at hx⟩
  |n + 1,h=>by
    obtain ⟨l,hl,hq⟩:=collect (n:=n) (fun i hi=>h i (by omega))
    obtain ⟨x,hx⟩:=h n (by omega)
    refine ⟨l ++ [x],by simp [hl],fun j y hy=>?_⟩
    rcases Nat.lt_or_ge j l.length with hj|hj
    · rw [List.getElem?_append_left hj] at hy
      exact hq j y hy
    · rw [List.getElem?_append_right hj] at hy
      have h0:j - l.length=0:=by
        rcases Nat.eq_zero_or_pos (j - l.length) with h0|h0
        · exact h0
        · rw [List.getElem?_eq_none (by simp;omega)] at hy
          cases hy
      rw [h0] at hy
      obtain rfl:x=y:=by simpa using hy
      obtain rfl:j=n:=by omega
      exact hx
theorem add_add_ (a:Addr) (i j:Nat):(a.add i).add j=a.add (i + j):=by
  by_cases hi:i=0
  · subst hi
    simp [Addr.add]
  · by_cases hj:j=0
    · subst hj
      simp [Addr.add,hi]
    · simp [Addr.add,hi,hj,Nat.add_assoc]
theorem opens_slice {α:Type} {P:Program} {d:Kd α} {t e:TypeId} {G:α→Prop} (ht:P.underlying t=some (.slice e)) (he:Opens P d e G) (hsz:P.cellsOf e=d.sz) :
    Opens P (Kd.slice e d) t (fun l=>l.length * P.bytesOf e≤140737488351232∧l.length≤maxLen∧∀ x ∈ l,G x):=by
  intro H enc w s hd fuel cs dd ps h hw
  rcases Go.Deep.open_slice ht h with ⟨rfl,_⟩|⟨a,len,cap,m,n,D,Pl,rfl,hb,hl,hm,hmm,hx,hget⟩
  · exact ⟨[],⟨none,0,rfl,Nat.le_refl _,rfl,by simp,fun h0=>absurd h0 (by simp)⟩,by simp,by simp,by simp⟩
  · injection hx with h1 h2
    subst h1
    have hlm:len≤m:=by rw [hmm];split <;> omega
    have hw1:(len * P.bytesOf e≤reachBytes)∧∀ i,i < len→((D i).weights P e).all (·≤reachBytes)=true:=by
      simp only [DataW.weights,ht,List.all_cons,List.all_append,Bool.and_eq_true,decide_eq_true_eq,List.length_map,List.length_range] at hw
      obtain ⟨hw1,hw2,_⟩:=hw
      refine ⟨Nat.le_trans (Nat.mul_le_mul_right _ (Nat.le_add_right _ _)) hw1,fun i hi=>weightsAll_mem (List.mem_map.2 ⟨i,List.mem_range.2 hi,rfl⟩) hw2⟩
    have hex:∀ i:Nat,i < len→∃ x:α,G x∧∃ c,c.length=d.sz∧d.K w x c∧∀ q u,c[q]?=some u→w.cell? ((a.add (i * P.cellsOf e)).add q)=some u:=by
      intro i hi
      obtain ⟨cs',h1,h2⟩:=hget i (by omega)
      obtain ⟨x,hk,hg⟩:=he H enc w s hd n cs' (D i) (Pl i) h2 (hw1.2 i hi)
      obtain ⟨_,hlen,hc⟩:=World.cells?_some h1
      refine ⟨x,hg,cs',hlen.trans hsz,hk,fun q u hq=>?_⟩
      have hq':q < P.cellsOf e:=by rw [← hlen];exact (List.getElem?_eq_some_iff.1 hq).1
      rw [hc q hq']
      exact hq
    obtain ⟨l,hll,hl2⟩:=collect hex
    subst hll
    have hmax:cap≤9223372036854775807:=hm
    refine ⟨l,⟨some a,cap,rfl,hl,rfl,by omega,fun _=>⟨a,rfl,fun j x hj=>?_⟩⟩,hw1.1,Nat.le_trans hl hm,fun x hx=>?_⟩
    · obtain ⟨_,c,hc,hk,hcell⟩:=hl2 j x hj
      refine ⟨c,hc,hk,fun q u hq=>?_⟩
      rw [← add_add_ a (j * d.sz) q,← hsz]
      exact hcell q u hq
    · obtain ⟨j,hj⟩:=List.getElem?_of_mem hx
      exact (hl2 j x hj).1
def OpensF {γ:Type} (P:Program) (fs:List Field) (o n:Nat) (d:Kd γ) (G:γ→Prop):Prop:=
  ∀ (H:Type) (enc:TypeId × Value→H) (w:World) (spare:Nat→Bool) (held:Bool) (fuel:Nat) (cs:List Value) (xs:List (DataW H × List MemPlace)),cs.length=n→xs.length=fs.length→
    (∀ (i:Nat) (f:Field),fs[i]?=some f→DataW.trod enc P w 0 spare held fuel f.type ((cs.drop f.offset).take (P.cellsOf f.type))=xs[i]?)→
    (DataW.weightsEach P (fs.map (·.type)) (xs.map (·.1))).all (·≤reachBytes)=true→∃ x:γ,d.K w x (cs.drop o)∧G x
theorem OpensF.last {γ:Type} {P:Program} {f:Field} {o n:Nat} {d:Kd γ} {G:γ→Prop} (h:Opens P d f.type G) (ho:f.offset=o) (hn:n=o + P.cellsOf f.type):OpensF P [f] o n d G:=by
  intro H enc w s hd fuel cs xs hl hx hf hw
  obtain ⟨x0,rfl⟩:∃ x0,xs=[x0]:=by
    rcases xs with _|⟨x0,_|⟨x1,r⟩⟩
    · cases hx
    · exact ⟨x0,rfl⟩
    · simp at hx
  have h0:=hf 0 f rfl
  rw [ho,List.take_of_length_le (by rw [List.length_drop];omega)] at h0
  obtain ⟨x1,x2⟩:=x0
  refine h H enc w s hd fuel _ x1 x2 (by rw [h0];rfl) ?_
  simpa [DataW.weightsEach] using hw
theorem OpensF.next {α γ:Type} {P:Program} {f:Field} {fs:List Field} {o n:Nat} {a:Kd α} {b:Kd γ} {Ga:α→Prop} {Gb:γ→Prop} (h:Opens P a f.type Ga) (ho:f.offset=o) (m:Nat) (hm:m=o + P.cellsOf f.type) (hr:OpensF P fs m n b Gb) :
    OpensF P (f :: fs) o n (Kd.pair a b) (fun x=>Ga x.1∧Gb x.2):=by
  intro H enc w s hd fuel cs xs hl hx hf hw
  rcases xs with _|⟨⟨x1,x2⟩,xs⟩
  · cases hx
  have h0:=hf 0 f rfl
  rw [ho] at h0
  simp only [List.map_cons,DataW.weightsEach,List.all_append,Bool.and_eq_true] at hw
  obtain ⟨x,hk,hg⟩:=h H enc w s hd fuel _ x1 x2 (by rw [h0];rfl) hw.1
  obtain ⟨y,hk2,hg2⟩:=hr H enc w s hd fuel cs xs hl (by simpa using hx) (fun i f' hf'=>hf (i + 1) f' (by simpa using hf')) hw.2
  refine ⟨(x,y),⟨_,_,?_,hk,hk2⟩,hg,hg2⟩
  rw [hm,← List.drop_drop,List.take_append_drop]
theorem Opens.struct {γ:Type} {P:Program} {t:TypeId} {fs:Array Field} {n:Nat} {d:Kd γ} {G:γ→Prop} (ht:P.underlying t=some (.struct fs)) (hn:P.cellsOf t=n) (h:OpensF P fs.toList 0 n d G):Opens P d t G:=by
  intro H enc w s hd fuel cs dd ps h1 hw
  obtain ⟨xs,m,_,hx,hl,hlen,hf⟩:=DataW.trod_struct ht h1
  injection hx with h2 h3
  subst h2
  have:=h H enc w s hd m cs xs (hl.trans hn) (by simpa using hlen) (fun i f hf'=>hf i f (by simpa using hf')) (by simpa [DataW.weights,ht] using hw)
  simpa using this
theorem Opens.iso {α β:Type} {P:Program} {t:TypeId} {d:Kd α} {G:α→Prop} (h:Opens P d t G) (f:β→α) (g:α→β) (hfg:∀ x,f (g x)=x):Opens P (Kd.iso d f) t (fun y=>G (f y)):=by
  intro H enc w s hd fuel cs dd ps h1 hw
  obtain ⟨x,hk,hg⟩:=h H enc w s hd fuel cs dd ps h1 hw
  exact ⟨g x,by show d.K w (f (g x)) cs;rw [hfg];exact hk,by show G (f (g x));rw [hfg];exact hg⟩
theorem Opens.arg {α:Type} {P:Program} {d:Kd α} {t:TypeId} {G:α→Prop} (h:Opens P d t G) {H:Type} {enc:TypeId × Value→H} {w:World} {spare:Nat→Bool} {held:Bool} {v:Value} {dd:DataW H} {ps:List MemPlace} {ts:List TypeId} {ds:List (DataW H)}
    (hT:DataW.Trod enc P w 0 spare held t v dd ps) (hs:(DataW.weightsEach P ts ds).all (·≤reachBytes)=true) {j:Nat} (h1:ts[j]?=some t) (h2:ds[j]?=some dd):∃ x:α,d.K w x v.cells.toList∧G x:=by
  obtain ⟨fuel,hf⟩:=hT
  exact h H enc w spare held fuel _ dd ps hf (List.all_eq_true.2 (fun n hn=>List.all_eq_true.1 hs n (DataW.weights_mem_each h1 h2 n hn)))
end Go.Proofs.YtnkkdpjipfjdaaaDoorM

end
section
namespace Go.Proofs.YtnkkdpjipfjdaaaDoorM
open Go Go.Proofs.YtnkkdpjipfjdaaaDoor
def tab10:List Int:=[1,10,100,1000,10000,100000,1000000,10000000,100000000,1000000000,10000000000,100000000000,1000000000000,10000000000000,100000000000000,1000000000000000,10000000000000000,100000000000000000,1000000000000000000,10000000000000000000]
def tab32:List Int:=[0,1,28,2,29,14,24,3,30,22,20,15,25,17,4,8,31,27,13,23,21,19,16,7,26,12,18,6,11,5,10,9]
def tab64:List Int:=[0,1,56,2,57,49,28,3,61,58,42,50,38,29,17,4,62,47,59,36,45,43,51,22,53,39,33,30,24,18,12,5,63,55,48,27,60,41,37,16,46,35,44,21,52,32,23,11,54,26,40,15,34,20,31,10,25,14,19,9,13,8,7,6]
def putCells (cs:Array Value):Obj→Obj
  |.cells _ t frozen=>.cells cs t frozen
  |o=>o
noncomputable def laidWorld (os:Os):World:=
  { World.holding Tryd.prog os ⟨#[],#[],[]⟩ with heap:=(((World.holding Tryd.prog os ⟨#[],#[],[]⟩).heap.modify 0 (putCells (tab10.map fun z=>Value.int .u64 z).toArray)).modify 1 (putCells (tab32.map fun z=>Value.int .u8 z).toArray)).modify 2 (putCells (tab64.map fun z=>Value.int .u8 z).toArray) }
theorem laid_met (os:Os) (args:Array Value):laidMet Tryd.prog Rows.signalNamesRow.laid ((laidWorld os).forCall (fun _ _=>0) ⟨#[],args,[]⟩).memory:=
  laidMet_of_run' 8 (by kernel_rfl) (by kernel_rfl)
end Go.Proofs.YtnkkdpjipfjdaaaDoorM

end
