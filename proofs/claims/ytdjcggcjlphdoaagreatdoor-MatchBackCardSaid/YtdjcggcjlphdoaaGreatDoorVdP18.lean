/-
  Functions of the chapter, as plain functions of what they are given; no condition.
-/
import Derived.Test.YtdjcggcjlphdoaaGreatDoorVdP17
import Derived.Test.YtdjcggcjlphdoaaGreatDoorVfP11
import Derived.Test.YtdjcggcjlphdoaaGreatDoorVaP18
set_option maxRecDepth 100000
set_option linter.unusedSimpArgs false
set_option linter.unusedVariables false
set_option maxHeartbeats 4000000
namespace Go.Proofs.YtdjcggcjlphdoaaGreatDoor
open Go Go.Vo
open Nat (reduceAdd reduceSub reduceMul reduceLeDiff reduceLT reduceEqDiff)
open Int (reduceNeg)
def aUm(W:List LTerm→Bool)(O:List LTerm→List LTerm)(s:dX)(t:LTerm)(u:LSub):LTerm×Int:=
 if aQq s t=true∧(kV s&&mK s u)=true then(if aHh s u t=true then(zT,16)else if aCn W O u t=true then(zT,14)else if iA nodeB (F6 O u t)=true then(F6 O u t,0)else(zT,3))else(zT,2)
theorem aFp{h:List AObj}{o:Int}:Vo.Fin h (.tup [.agg [.i .i64 0,.i .i64 0,.s [],.s [],.e0,.e0],.i .i64 o]) (.tup [elT zT,.i .i64 o]):=.inr ⟨⟨⟨rfl,rfl,rfl,rfl,rfl,rfl,trivial⟩,rfl,trivial⟩,fI,fun i hi=>by cases hi⟩
theorem bWc{h:List AObj}{t:LTerm}{o:Int}:Vo.Fin h (.tup [.agg (tmC t),.i .i64 o]) (.tup [elT t,.i .i64 o]):=.inl ⟨by rw[elT,aW];rfl,by simp[pers,persL,iL]⟩
theorem bKn(W:List LTerm→Bool)(O:List LTerm→List LTerm)(s:dX)(t:LTerm)(u:LSub)(hm:Small s)(hs:OkS s)(ht:OkT t)(hu:OkU 1000000 u)(hn:∀q∈u,q.1.length≤140737488355328)(hP:aQq s t=true→mK s u=true→bIg W O s u t)(hO:OkT (F6 O u t)): CT 22 [.agg (dT s),elT t,avu u] (.tup [elT (aUm W O s t u).1,.i .i64 (aUm W O s t u).2]):=by
 refine eG cZ Tryz.func22 g0 ?_
 ·generalize hR:((.tup [elT (aUm W O s t u).1,.i .i64 (aUm W O s t u).2]):AV)=R;simp -implicitDefEqProofs (disch:=omega) only[Tryz.f22,go_sem,List.replicate,simprocAttr,elT,aW,avu];have c1:=bYg s t hm hs ht;have c2:=bKo s u hm hs hu hn;simp only[avu]at c2;rw[aUm]at hR;by_cases h1:aQq s t=true
  ·rw[h1]at c1
   by_cases h2:(kV s&&mK s u)=true
   ·rw[h2]at c2
    rw[if_pos ⟨h1,h2⟩]at hR;have hv:kV s=true:=by rw[aA]at h2;exact h2.1
    have c3:=aFx s hm (jR hv);have cP:=hP h1 (by rw[aA]at h2;exact h2.2) false false;have c4:=aNr _ hO;have c5:=aYv _ hO;generalize F6 O u t=T at *
    rw[cU,cU]at cP;simp only[F7,avu,cM]at cP;(refine zy3 aN c1 c2 c3 ?_;repeat' first|exact trivial|refine zJ ?_ ?_|refine zH fun hc=>?_);refine fM (uT 3 g0 cP (E0 s u _ _) (E0 s u _ _) (by rw[elT,pers,wJ]) rfl (by simp only[elT,aW,avt,renL,ren,renL_pers _ _ iL,T8])) ?_;rintro r' h' ⟨rfl,rfl⟩;by_cases hS:aHh s u t=true
    ·rw[if_pos hS]at hR;refine zh (zA2 hS (zA2 @elT.eq_1 (zA2 @aW @avt.eq_1))) ?_;subst hR;exact aFp
    ·rw[if_neg hS]at hR
     by_cases hW:aCn W O u t=true
     ·rw[if_pos hW]at hR;refine zh (zA2 (dD.2 hS) (zA2 hW (zA2 @elT.eq_1 (zA2 @aW @avt.eq_1)))) ?_;subst hR;exact aFp
     ·rw[if_neg hW]at hR;by_cases hV:iA nodeB T=true
      ·rw[if_pos hV]at hR;rw[hV]at c4;refine zh (zA2 (dD.2 hS) (zA2 (dD.2 hW) (zA2 @elT.eq_1 (zA2 @aW @avt.eq_1)))) ?_;(refine zy2 aN c4 c5 ?_;repeat' first|exact trivial|refine zJ ?_ ?_|refine zH fun hc=>?_);subst hR;exact bWc
      ·rw[if_neg hV]at hR;rw[dD.2 hV]at c4;refine zh (zA2 (dD.2 hS) (zA2 (dD.2 hW) (zA2 @elT.eq_1 (zA2 @aW @avt.eq_1)))) ?_;(refine zy1 aS c4 ?_;repeat' first|exact trivial|refine zJ ?_ ?_|refine zH fun hc=>?_);subst hR;exact aFp
   ·rw[dD.2 h2]at c2;rw[if_neg (fun h=>h2 h.2)]at hR;(refine zy2 (zA2 aN aS) c1 c2 ?_;repeat' first|exact trivial|refine zJ ?_ ?_|refine zH fun hc=>?_);subst hR;exact aFp
  ·rw[dD.2 h1]at c1;rw[if_neg (fun h=>h1 h.1)]at hR;(refine zy1 aS c1 ?_;repeat' first|exact trivial|refine zJ ?_ ?_|refine zH fun hc=>?_);subst hR;exact aFp
mutual
def pR:LTerm→Bool
 | .mk k n x so ks rs=>(decide (k=6)&&decide (x=[95]))||wildL ks
def wildL:List LTerm→Bool
 | []=>false
 |t::l=>pR t||wildL l
end
theorem aCu:∀l:List LTerm,wildL l=l.any pR
 | []=>by rw[wildL];rfl
 |t::l=>by rw[wildL,aCu l];rfl
theorem aKt(t:LTerm):pR t=((decide (t.kind=6)&&decide (t.text=[95]))||t.kids.any pR):=by cases t;rw[pR,aCu];rfl
theorem cDg:∀t:LTerm,wfT nodeB t=true→pR t=false→wfT nwB t=true:=
 fH (Q:=fun t=>wfT nodeB t=true→pR t=false→wfT nwB t=true) fun t hk _ hw h=>by
  have hw':=gS.1 hw;rw[aKt,gR,fQ]at h;refine gS.2 ⟨?_,fun k hm=>hk k hm (hw'.2 k hm) (by have:=h.2 k hm;simpa using this)⟩;rw[nwB,h.1,aS,aI,bF];intro r hr;rw[zf (yP (lR hw'.1 r hr).2.1)];rfl
theorem aKv{v:LTerm×Int}:∀{l:List LTerm} {d:Int},v∈visL l d↔∃k∈l,v∈vis k d
 | [],d=>by simp[visL]
 |t::l,d=>by rw[visL,bM,aKv];simp
theorem bBc{s:dX}{W:LSub}:∀{ps ts:List LTerm},ML s W ps ts→∀p∈ps,∃t∈ts,MT s W p t
 | [],_,_,p,h=>by cases h
 |q::ps,[],h,p,_=>by rw[ML]at h;exact h.elim
 |q :: ps,t::ts,h,p,hp=>by
  rw[ML]at h;rcases cH.1 hp with rfl|hp
  ·exact⟨t,cQ,h.1⟩
  ·obtain⟨t',h1,h2⟩:=bBc h.2 p hp;exact⟨t',cJ _ h1,h2⟩
theorem aTx{t:LTerm}(h:nodeB t=true)(h7:¬t.kind=7)(h8:¬t.kind=8):t.rest=[]:=by
 have z:∀{a b c d},gK t a b c d false=true→t.rest=[]:=fun h=>(oV h).2.2.2.2 rfl;unfold nodeB at h;repeat' split at h
 all_goals try simp only[aA]at h
 all_goals first|exact z h.2|contradiction|cases h
theorem cBc{s:dX}{W:LSub}:∀p:LTerm,wfT nodeB p=true→∀t,MT s W p t→∀d:Int,∀v∈vis p d,v.1.kind=6→¬v.1.text=[95]→∃y,mOf W v.1.text=some y:=
 fH (Q := fun p=>wfT nodeB p=true→∀t,MT s W p t→∀d:Int,∀v∈vis p d,v.1.kind=6→¬v.1.text=[95]→∃y,mOf W v.1.text=some y) fun p hk _ hw t h d v hv h6 hx=>by
  have hw':=gS.1 hw;have h1:=kQ p hw'.1;rw[pW,cH,aKv]at hv;rcases hv with rfl|⟨k,hm,hv⟩
  ·rw[cBx h6,MB,if_neg hx]at h;exact⟨_,h⟩
  have kid:∀{ts},ML s W p.kids ts→k∈p.kids→∃y,mOf W v.1.text=some y:=fun hML hm=>by
   obtain⟨t',_,h2⟩:=bBc hML k hm;exact hk k hm (hw'.2 k hm) t' h2 _ v hv h6 hx
  have rst:∀{y},k∈p.rest→MB s W (p.rest.getD 0 default) y→∃y,mOf W v.1.text=some y:=fun{y} hr hb=>by
   obtain⟨r1,r2,_,r4,r5⟩:=lR hw'.1 k hr;rw[vJ r4 r5,aV]at hv;subst hv;have e:=aAs (List.ne_nil_of_mem hr) h1;rw[e,aV]at hr;rw[← hr,MB,if_neg hx]at hb;exact⟨y,hb⟩
  rcases bM.1 hm with hm|hm
  ·rw[sP]at h;split at h
   ·exact kid h.2.2 hm
   split at h
   ·exact kid h.2.2.1 hm
   split at h
   ·obtain⟨_,L,es,left,_,_,_,h5,_⟩:=h;exact kid h5 hm
   ·rename_i h5 h7 h8;rw[aJa hw'.1 h5 h7 h8]at hm;cases hm
  ·have hne:=List.ne_nil_of_mem hm;by_cases h7:p.kind=7
   ·rw[sP,if_neg (by omega),if_pos h7,if_neg hne]at h;exact rst hm h.2.2.2
   by_cases h8:p.kind=8
   ·rw[sP,if_neg (by omega),if_neg h7,if_pos h8]at h;obtain⟨_,L,es,left,_,_,_,_,h6'⟩:=h;rw[if_neg hne]at h6';exact rst hm h6'
   ·rw[aTx hw'.1 h7 h8]at hm;cases hm
theorem aKu{x:Str}:∀{vs:List (LTerm×Int)} {l:List Str},x∈oB tC l vs↔x∈l∨∃v∈vs,v.1.kind=6∧¬v.1.text=[95]∧v.1.text=x
 | [],l=>by simp[oB]
 |v :: vs,l=>by
  rw[show oB tC l (v::vs)=oB tC (tC v l) vs from rfl,aKu];have:x∈tC v l↔x∈l∨(v.1.kind=6∧¬v.1.text=[95]∧v.1.text=x):=by
   unfold tC;split
   ·rename_i h;rw[bHv];constructor
    ·rintro(h1|rfl)
     ·exact .inl h1
     ·exact .inr ⟨h.1,h.2,rfl⟩
    ·rintro(h1|h1)
     ·exact .inl h1
     ·exact .inr h1.2.2.symm
   ·rename_i h;exact⟨.inl,fun h1=>h1.resolve_right fun h2=>h ⟨h2.1,h2.2.1⟩⟩
  rw[this];simp only[cH];constructor
  ·rintro((h|h)|⟨w,h1,h2⟩)
   ·exact .inl h
   ·exact .inr ⟨v,.inl rfl,h⟩
   ·exact .inr ⟨w,.inr h1,h2⟩
  ·rintro(h|⟨w,rfl|h1,h2⟩)
   ·exact .inl (.inl h)
   ·exact .inl (.inr h2)
   ·exact .inr ⟨w,h1,h2⟩
theorem aSl{p:LTerm}{x:Str}:x∈S7 p↔∃v∈vis p 1,v.1.kind=6∧¬v.1.text=[95]∧v.1.text=x:=by
 rw[S7,aKu];simp
theorem bBr{s:dX}{W:LSub}{p t:LTerm}(hw:wfT nodeB p=true)(h:MT s W p t):∀x∈S7 p,∃y,mOf W x=some y:=fun x hx=>by
 obtain⟨v,hv,h6,hn,rfl⟩:=aSl.1 hx;exact cBc p hw t h 1 v hv h6 hn
theorem M5{W:List LTerm→Bool}{O:List LTerm→List LTerm}{u:LSub}:∀l:List LTerm,putWL W O u l=l.any (aCn W O u)
 | []=>by rw[putWL];rfl
 |t::l=>by rw[putWL,M5 l];rfl
theorem bNp{s:dX}{W:LSub}:∀p:LTerm,wfT nodeB p=true→wfT nwB p=true→∀t,PT s t→MT s W p t→aCn twM qN W p=false:=
 fH (Q := fun p=>wfT nodeB p=true→wfT nwB p=true→∀t,PT s t→MT s W p t→aCn twM qN W p=false) fun p hk _ hw hn t ht h=>by
  have hw':=gS.1 hw;have hn':=gS.1 hn;have hrn:=lR hw'.1;have h1:=kQ p hw'.1;by_cases h6:p.kind=6
  ·exact aLs h6
  have hrs:putWL twM qN W p.rest=false:=by
   rw[M5,fQ];intro r hr;rw[aLs (hrn r hr).1];simp
  have kid:∀{ts},(∀x∈ts,PT s x)→ML s W p.kids ts→putWL twM qN W p.kids=false:=fun hts hML=>by
   rw[M5,fQ];intro k hm;obtain⟨t',h1,h2⟩:=bBc hML k hm;rw[hk k hm (hw'.2 k hm) (hn'.2 k hm) t' (hts t' h1) h2];simp
  rw[bIv h6,hrs,aF];by_cases h5:p.kind=5
  ·rw[sP,if_pos h5]at h;rw[kid (fun x hx=>ht.kid hx) h.2.2,zf (by omega)];rfl
  by_cases h7:p.kind=7
  ·rw[sP,if_neg h5,if_pos h7]at h;rw[kid (fun x hx=>ht.kid (dH hx)) h.2.2.1,zf (by omega)];rfl
  by_cases h8:p.kind=8
  ·rw[sP,if_neg h5,if_neg h7,if_pos h8]at h
   obtain⟨g1,L,es,left,g2,g3,g4,g5,g6⟩:=h;obtain⟨L',k1,k2,k3⟩:=ht.map g1;obtain rfl:L=L':=aMx (g2.symm.trans k1);have me:∀x∈fl es,PT s x:=fun x hx=>by
    obtain⟨e,he,hx⟩:=aMz.1 hx;have:=qH g2 (g3.mem_iff.2 (dK _ he));rcases hx with rfl|rfl
    ·exact ht.kid this.1
    ·exact ht.kid this.2
   have ek:putL qN W p.kids=fl es:=aHc (fun q hq x hx hm=>bLi bJd q (hw'.2 q hq) (hn'.2 q hq) x hx hm) me g5;rw[kid me g5,cU,ek];have er:iU (putL qN W p.rest)=fl left:=by
    by_cases hr:p.rest=[]
    ·rw[if_pos hr]at g6;subst g6;rw[hr,putL];rfl
    ·rw[if_neg hr]at g6;have hm:=vN hr;obtain⟨r1,r2,_⟩:=hrn _ hm;rw[MB,if_neg (yP r2)]at g6;rw[aAs hr h1,putL,putL,aIe,if_pos r1,g6];simp[iU,LTerm.kind,LTerm.kids]
   rw[er,← aXk,bTp g3 k2 k3,aM]
  ·rw[aJa hw'.1 h5 h7 h8,putWL,zf h8];rfl
theorem cAp{u:LSub}(h:AscU u):∀q∈u,mOf u q.1=some q.2:=by
 induction u with
 |nil=>intro q hq;cases hq
 |cons e u ih=>
  intro q hq;rw[AscU,gH]at h;rw[aIy];rcases cH.1 hq with rfl|hq
  ·rw[if_pos rfl]
  ·rw[if_neg fun e'=>by have:=h.1 q hq;rw[e']at this;exact absurd this (lO _)];exact ih h.2 q hq
theorem aMl{u:LSub}{x:Str}{y:LTerm}(h:mOf u x=some y):(x,y)∈u:=by
 rw[mOf,dG]at h;obtain⟨q,h1,rfl⟩:=h;have h2:=List.find?_some h1;rw[decide_eq_true_eq]at h2;subst h2;exact lN h1
theorem bVg{s:dX}{u:LSub}(h:GdU s u):NoW u:=by
 rw[NoW];cases e:mOf u [95]with
 |none=>rfl
 |some y=>exact absurd rfl (yP (h _ (aMl e)).1)
theorem bOg{s:dX}{n:Nat}{p t:LTerm}{u0:LSub}(h:(fJ s n p t [u0] false).2=false):(fJ s n p t [u0] false).1=S6 s n p t u0:=by
 rw[cAv n p t [u0] h,List.flatMap_cons,List.flatMap_nil,List.append_nil]
theorem bHg{s:dX}{p t:LTerm}{u0 u:LSub}(hm:(kD s p t u0).2=0)(hu:u∈(kD s p t u0).1) :
 (kV s=true∧mK s u=true)∧(∀q∈u0,mOf u q.1=some q.2)∧(∀x∈S7 p,∃y,mOf u x=some y)∧(pR p=false→aUm twM qN s p u=(zT,16)∨aUm twM qN s p u=(t,0)):=by
 rw[kD]at hm hu;split at hm
 ·rename_i hA;rw[if_pos hA]at hu;obtain⟨hp,ht,h0⟩:=hA;split at hm
  ·simp at hm
  ·rename_i hb;rw[if_neg hb]at hu;rw[xR]at hb;dsimp only at hu;have hv:kV s=true:=by rw[aAm,aA]at hp;exact hp.1
   have hV:iA nodeB p=true∧tG s p=true:=by
    rw[aAm,aA,aSa]at hp;simp only[aA]at hp;exact⟨hp.2.1,hp.2.2.1⟩
   obtain⟨g,hg⟩:=bUs [] hp;have PTt:=cGl ht;have G0':=yC h0;have A0:=vL h0;have asc:=xM (s:=s) (nodesT p) p t [u0] false (fun x hx=>by rw[aV.1 hx];exact A0) u hu;rw[rM]at hb hu;rw[bOg hb]at hu;obtain⟨a1,a2⟩:=bAr (s:=s) (nodesT p) p ⟨hg.pw,hg.sg⟩ (bK _) t u0 u PTt (bVg G0') hu;obtain⟨n1,n2⟩:=bUt hp;have G1:=bLg (s:=s) (nodesT p) p ⟨hg.pw,hg.sg⟩ n1 n2 t u0 u ht G0' hu;have S1:=aWu G1 asc;refine⟨⟨hv,S1⟩,fun q hq=>a1.ext _ _ (cAp A0 q hq),bBr n1 a2,fun hw=>?_⟩;have nw:=cDg p n1 hw;have eP:=bLi bJd p n1 nw t PTt a2;have eW:=bNp p n1 nw t PTt a2;have vT:iA nodeB t=true:=by rw[gI,aA]at ht;exact ht.1
   rw[aUm,if_pos ⟨by rw[aQq,hV.1,hV.2,hv];rfl,by rw[hv,S1];rfl⟩];by_cases hs:aHh s u p=true
   ·rw[if_pos hs];exact .inl rfl
   ·rw[if_neg hs,eW,if_neg (by simp),eP,if_pos vT];exact .inr rfl
 ·simp at hm
end Go.Proofs.YtdjcggcjlphdoaaGreatDoor
