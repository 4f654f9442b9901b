/-
  Functions of the chapter, as plain functions of what they are given; no condition.
-/
import Derived.Test.YtdjcggcjlphdoaaGreatDoorVcP11
import Derived.Test.YtdjcggcjlphdoaaGreatDoorVoP22
set_option maxRecDepth 100000
set_option linter.unusedSimpArgs false
set_option linter.unusedVariables false
set_option maxHeartbeats 4000000
namespace Go.Proofs.YtdjcggcjlphdoaaGreatDoor
open Go Go.Vo
open Nat (reduceAdd reduceSub reduceMul reduceLeDiff reduceLT reduceEqDiff)
open Int (reduceNeg)
theorem aIw{u:LSub}{x:Str}:∀k,aIx u x k≤k
 |0=>bK _
 |k+1=>by
  rw[aIx];split
  ·have:=aIw (u:=u) (x:=x) k;omega
  ·exact bK _
theorem aBe{pre g:List AObj}{sz n:Nat}{out:AV}{cells:List AV}(ho:jI sz pre.length g out cells n)(hp:persL cells=true):Fin (pre++g) out (.sl cells n):=by
 rcases ho with⟨rfl,rfl,rfl⟩|⟨i,rfl,hi,hl⟩
 ·exact .inr ⟨rfl,by simp[dJ],by simp[dJ]⟩
 ·refine .inr ⟨?_,by simp[dJ],by simp[dJ]⟩;show AV.sl cells n=gZ dep (pre++g) (.hs (i+pre.length) 0 n false);have hg:(pre++g)[i+pre.length]? = some (.arr false sz cells):=by
   rw[aR (by omega)];simpa using hi
  have hd:(cells.drop 0).take (n*sz)=cells:=by rw[bG,bE (by omega)]
  simp only[gE,pers,rQ,hg,hd,hp,if_true,aE,if_false];rw[if_pos (by omega)]
theorem aOt:∀{l:List AV},persL l=true→l.all aNj=true
 | [],_=>rfl
 |a::l,h=>by
  rw[persL,aA]at h;rw[oQ,aOt h.2,bA];cases a<;>first|rfl|exact h.1
theorem rZ{pre g:List AObj}{sz n:Nat}{out:AV}{cells:List AV}(ho:jI sz pre.length g out cells n)(hp:persL cells=true) :
 gZ dep (pre++g) out=.sl cells n∧∃g',g'.length=g.length∧Vo.freeze (eH dep (pre++g) out) (pre++g)=pre++g':=by
 rcases ho with⟨rfl,rfl,rfl⟩|⟨i,rfl,hi,hl⟩
 ·exact⟨rfl,g,rfl,by rw[mZ rfl];rfl⟩
 ·have hlt:=bP hi;have hg:(pre++g)[i+pre.length]? = some (.arr false sz cells):=by
   rw[aR (by omega)];simpa using hi
  have hd:(cells.drop 0).take (n*sz)=cells:=by rw[bG,bE (by omega)]
  refine⟨?_,g.modify i AObj.fz,by simp,?_⟩
  ·simp only[gE,pers,rQ,hg,hd,hp,if_true,aE,if_false];rw[if_pos (by omega)]
  ·rw[yI,hg];simp only[hsQ,aOt hp,if_true,Vo.freeze];apply oP;intro j;by_cases hj:j<pre.length
   ·rw[gQ,aG hj,aG hj];have:¬i+pre.length=j:=by omega
    simp[this]
   ·rw[gQ,aR (by omega),aR (by omega),gQ];have:(i+pre.length=j)=(i=j-pre.length):=propext ⟨fun h=>by omega,fun h=>by omega⟩;simp only[this]
def OkU(m:Nat)(u:LSub):Prop:=u.length≤m∧∀p∈u,OkT p.2
theorem bJl{m:Nat}{u:LSub}{x:Str}{t:LTerm}(h:OkU m u)(e:mOf u x=some t):OkT t:=by
 rw[mOf,dG]at e;obtain⟨p,hp,rfl⟩:=e;exact h.2 p (lN hp)
def F3(m:Nat)(l:List LSub):Prop:=∀u∈l,OkU m u
theorem I5{s:dX}{v t:LTerm}{u:LSub}:(oK s v t u).length≤1:=by
 rw[oK];split
 ·split
  ·simp
  ·split
   ·split<;>simp
   ·simp
 ·simp
theorem aYa{s:dX}{p t:LTerm}{u:LSub}:(iT s p t u).length≤1:=by
 rw[iT];split
 ·exact I5
 ·split<;>simp
theorem rF{s:dX}{p t:LTerm}:∀{l:List LSub},(l.flatMap (iT s p t)).length≤l.length
 | []=>by simp
 |u::l=>by
  have h1:=aYa (s:=s) (p:=p) (t:=t) (u:=u);have h2:=rF (s:=s) (p:=p) (t:=t) (l:=l);rw[List.flatMap_cons,List.length_append,aQ];omega
theorem qJ{α β:Type}{f:α→List β}{l:List α}{k:Nat}{d:α}(h:k<l.length):(l.take (k+1)).flatMap f=(l.take k).flatMap f++f (l.getD k d):=by
 have:l.take (k+1)=l.take k++[l.getD k d]:=by
  rw[List.take_add_one,bL h,fN,bL h];rfl
 rw[this,List.flatMap_append];simp
theorem bTm{l:List LSub}{k:Nat}(h:k<l.length):(l.map avu)[k]? = some (avu (l.getD k default)):=by
 rw[eV,bL h,fN,bL h];rfl
attribute [go_sem] bTm M8 dP
theorem OkU.mono{m m':Nat}{u:LSub}(h:OkU m u)(hm:m≤m'):OkU m' u:=⟨jT h.1 hm,h.2⟩
theorem F3.mono{m m':Nat}{l:List LSub}(h:F3 m l)(hm:m≤m'):F3 m' l:=fun u hu=>(h u hu).mono hm
theorem cAx{m:Nat}{u:LSub}{x:Str}{t:LTerm}(h:OkU m u)(ht:OkT t):OkU (m+1) (X6 u x t):=by
 have hp:=aIw (u:=u) (x:=x) u.length;have h1:=h.1;refine⟨by rw[X6,List.length_append,aQ,List.length_take,dI];omega,fun p hp=>?_⟩;rw[X6]at hp;rcases bM.1 hp with hp|hp
 ·exact h.2 p (dH hp)
 ·rcases cH.1 hp with rfl|hp
  ·exact ht
  ·exact h.2 p (fL hp)
theorem aBs{s:dX}{m:Nat}{v t:LTerm}{u:LSub}(h:OkU m u)(ht:OkT t):F3 (m+1) (oK s v t u):=by
 intro u' hu';rw[oK]at hu';split at hu'
 ·split at hu'
  ·rw[aV.1 hu'];exact h.mono (by omega)
  ·split at hu'
   ·split at hu'
    ·rw[aV.1 hu'];exact h.mono (by omega)
    ·cases hu'
   ·rw[aV.1 hu'];exact cAx h ht
 ·cases hu'
theorem aSo{m:Nat}{l:List LSub}{b:Bool}(h:F3 m l):F3 m (uM b l).1∧(uM b l).1.length≤1000:=by
 rw[uM];split
 ·exact⟨fun u hu=>(by cases hu),by simp⟩
 ·exact⟨h,by dsimp only;omega⟩
theorem aXz{s:dX}{m:Nat}{p t:LTerm}{l:List LSub}{b:Bool}(h:F3 m l)(ht:OkT t):F3 (m+1) (G3 s p t l b).1∧(G3 s p t l b).1.length≤1000:=by
 refine aSo (fun u' hu'=>?_);obtain⟨u,hu,h2⟩:=dV.1 hu';rw[iT]at h2;split at h2
 ·exact aBs (h u hu) ht u' h2
 ·split at h2
  ·rw[aV.1 h2];exact(h u hu).mono (by omega)
  ·cases h2
theorem aEm{k:Int}{ks:List LTerm}(h:∀t∈ks,OkT t)(hl:ks.length≤1466015503701):OkT (.mk k 0 [] [] ks []):=
 .mk (by simp[LTerm.text]) (by simp[LTerm.sort]) (by simp[LTerm.n]) (by simp[LTerm.n]) hl (by simp[LTerm.rest]) h (fun k hk=>by cases hk)
def OkN(t:LTerm):Prop:=OkT t∧wfT nodeB t=true
theorem OkN.kid{t k:LTerm}(h:OkN t)(hk:k∈t.kids):OkN k:=⟨h.1.kid k hk,(gS.1 h.2).2 k hk⟩
theorem OkN.even{t:LTerm}(h:OkN t)(h8:t.kind=8):t.kids.length % 2=0:=by
 have e:=(gS.1 h.2).1;rw[nodeB]at e;simp only[h8,(by decide:¬(8:Int)=1),(by decide:¬(8:Int)=2),(by decide:¬(8:Int)=3),(by decide:¬(8:Int)=4),(by decide:¬(8:Int)=5),(by decide:¬(8:Int)=6),(by decide:¬(8:Int)=7),if_false,if_true,aA,decide_eq_true_eq]at e;exact e.1.2
def AOk(A:LTerm→LTerm→List LSub→Bool→MR)(p:LTerm):Prop:=
 ∀(t:LTerm) (l:List LSub) (b:Bool) (m:Nat),OkN t→F3 m l→l.length≤1000→F3 (m+nodesT p) (A p t l b).1∧(A p t l b).1.length≤1000
theorem L5{A:LTerm→LTerm→List LSub→Bool→MR}:∀{ps ts:List LTerm} {l:List LSub} {b:Bool} {m:Nat},(∀p∈ps,AOk A p)→(∀t∈ts,OkN t)→F3 m l→l.length≤1000→F3 (m+nodesL ps) (kG A ps ts l b).1∧(kG A ps ts l b).1.length≤1000
 |p::ps,t::ts,l,b,m,hA,ht,hl,h1=>by
  obtain⟨a,c⟩:=hA p (by simp) t l b m (ht t (by simp)) hl h1;rw[kG,nodesL,← eK];exact L5 (fun q hq=>hA q (by simp[hq])) (fun q hq=>ht q (by simp[hq])) a c
 | [],ts,l,b,m,_,_,hl,h1=>by
   have e:kG A [] ts l b=(l,b):=by cases ts<;>rfl
   rw[e];exact⟨hl.mono (by omega),h1⟩
 |p::ps,[],l,b,m,_,_,hl,h1=>⟨hl.mono (by omega),h1⟩
structure OkW(t:LTerm)(m:Nat)(w:nJ):Prop where
 u:OkU m w.u
 even:w.left.length % 2=0
 sub:∀x∈w.left,x∈t.kids
 len:w.left.length≤t.kids.length
def aSd(t:LTerm)(m:Nat)(l:List nJ):Prop:=∀w∈l,OkW t m w
theorem OkW.mono{t:LTerm}{m m':Nat}{w:nJ}(h:OkW t m w)(hm:m≤m'):OkW t m' w:=⟨h.u.mono hm,h.even,h.sub,h.len⟩
theorem aSd.mono{t:LTerm}{m m':Nat}{l:List nJ}(h:aSd t m l)(hm:m≤m'):aSd t m' l:=fun w hw=>(h w hw).mono hm
theorem bWs{l:List LTerm}{i:Nat}(h:i+2≤l.length):(aQf l i).length=l.length-2∧∀x∈aQf l i,x∈l:=by
 refine⟨by rw[aQf,List.length_append,List.length_take,dI];omega,fun x hx=>?_⟩;rcases bM.1 hx with h|h
 ·exact dH h
 ·exact fL h
theorem aLc{s:dX}{t key:LTerm}{w:nJ}{k m:Nat}(h:OkW t m w)(ht:OkN t)(hk:2*k<w.left.length):F3 (m+1) (mG s key w k)∧(mG s key w k).length≤1:=by
 rw[mG];split
 ·exact⟨aBs h.u (ht.kid (h.sub _ (cT hk))).1,I5⟩
 ·split
  ·exact⟨fun u hu=>by rw[aV.1 hu];exact h.u.mono (by omega),by simp⟩
  ·exact⟨fun u hu=>(by cases hu),by simp⟩
section
variable {A:LTerm→LTerm→List LSub→Bool→MR} {s:dX} {t key value:LTerm} {m:Nat}
theorem aXy{w:nJ}{k:Nat}{b:Bool}(hA:AOk A value)(h:OkW t m w)(ht:OkN t)(hk:2*k+1<w.left.length):aSd t (m+1+nodesT value) (uN A s key value w k b).1∧(uN A s key value w k b).1.length≤1000:=by
 obtain⟨s1,s2⟩:=aLc (s:=s) (key:=key) h ht (k:=k) (by omega);obtain⟨a1,a2⟩:=hA (w.left.getD (2*k+1) default) (mG s key w k) b (m+1) (ht.kid (h.sub _ (cT hk))) s1 (by omega);obtain⟨c1,c2⟩:=bWs (l:=w.left) (i:=2*k) (by omega);have he:=h.even;have hl:=h.len;refine⟨fun w' hw'=>?_,by rw[uN,dP];exact a2⟩;obtain⟨u,hu,rfl⟩:=dS.1 hw';exact⟨a1 u hu,by dsimp only;omega,fun x hx=>h.sub x (c2 x hx),by dsimp only;omega⟩
theorem aJo{w:nJ}(hA:AOk A value)(h:OkW t m w)(ht:OkN t):∀(k:Nat) (b:Bool),2*k≤w.left.length→aSd t (m+1+nodesT value) (pF A s key value w k b).1∧(pF A s key value w k b).1.length≤k*1000
 |0,b,_=>⟨fun w hw=>(by cases hw),by simp[pF]⟩
 |k+1,b,hk=>by
  obtain⟨a1,a2⟩:=aJo hA h ht k b (by omega);obtain⟨c1,c2⟩:=aXy (s:=s) (key:=key) (b:=(pF A s key value w k b).2) hA h ht (k:=k) (by omega);rw[pF];refine⟨fun w' hw'=>?_,by dsimp only;rw[List.length_append];omega⟩;rcases bM.1 hw' with h1|h1
  ·exact a1 w' h1
  ·exact c1 w' h1
theorem aXx(hA:AOk A value)(ht:OkN t):∀(ws:List nJ) (b:Bool),aSd t m ws→aSd t (m+1+nodesT value) (rY A s key value ws b).1∧(rY A s key value ws b).1.length≤ws.length*(t.kids.length*1000)
 | [],b,_=>⟨fun w hw=>(by cases hw),by simp[rY]⟩
 |w :: ws,b,h=>by
  have hw:=h w (by simp);obtain⟨a1,a2⟩:=aJo (s:=s) (key:=key) hA hw ht (w.left.length / 2) b (by omega);obtain⟨c1,c2⟩:=aXx hA ht ws (pF A s key value w (w.left.length / 2) b).2 (fun w' hw'=>h w' (by simp[hw']));have hl:=hw.len;rw[rY];refine⟨fun w' hw'=>?_,by
   dsimp only;rw[List.length_append,aQ,aKj];have:w.left.length / 2*1000≤t.kids.length*1000:=cN _ (by omega);omega⟩
  rcases bM.1 hw' with h1|h1
  ·exact a1 w' h1
  ·exact c1 w' h1
theorem aBh{ws:List nJ}{b:Bool}(hA:AOk A value)(ht:OkN t)(h:aSd t m ws):aSd t (m+1+nodesT value) (qZ A s key value ws b).1∧(qZ A s key value ws b).1.length≤1000:=by
 rw[qZ];split
 ·exact⟨fun w hw=>(by cases hw),by simp⟩
 ·exact⟨(aXx hA ht ws b h).1,by omega⟩
end
theorem B5{l:List LTerm}{k:Nat}(h:2*k+1<l.length):nodesL (l.take (2*(k+1)))=nodesL (l.take (2*k))+nodesT (l.getD (2*k) default)+nodesT (l.getD (2*k+1) default):=by
 rw[show 2*(k+1)=2*k+1+1 by omega,pE h,pE (by omega)]
theorem aTc{A:LTerm→LTerm→List LSub→Bool→MR}{s:dX}{p t:LTerm}{m:Nat}(hA:∀q∈p.kids,AOk A q)(ht:OkN t){ws:List nJ}{b:Bool}(h:aSd t m ws)(h1:ws.length≤1000):∀k,2*k≤p.kids.length→aSd t (m+nodesL (p.kids.take (2*k))) (pT A s p k (ws,b)).1∧(pT A s p k (ws,b)).1.length≤1000
 |0,_=>⟨by rw[pT];exact h.mono (by omega),h1⟩
 |k+1,hk=>by
  obtain⟨a1,a2⟩:=aTc hA ht h h1 k (by omega);have e:=B5 (l:=p.kids) (k:=k) (by omega);have hn:1≤nodesT (p.kids.getD (2*k) default):=by rw[iO];omega
  obtain⟨c1,c2⟩:=aBh (s:=s) (key:=p.kids.getD (2*k) default) (b:=(pT A s p k (ws,b)).2) (hA _ (cT (d:=default) (k:=2*k+1) (by omega))) ht a1;rw[pT];exact⟨c1.mono (by omega),c2⟩
theorem bCa{A:LTerm→LTerm→List LSub→Bool→MR}{s:dX}{p t:LTerm}{m:Nat}(hA:∀q∈p.kids,AOk A q)(ht:OkN t)(he:t.kids.length % 2=0){l:List LSub}{b:Bool}(h:F3 m l)(h1:l.length≤1000):F3 (m+nodesL p.kids+1) (mF A s p t l b).1∧(mF A s p t l b).1.length≤1000:=by
 have hw:aSd t m (l.map (nJ.mk · t.kids)):=fun w hw=>by
  obtain⟨u,hu,rfl⟩:=dS.1 hw;exact⟨h u hu,he,fun x hx=>hx,bK _⟩
 obtain⟨a1,a2⟩:=aTc (A:=A) (s:=s) (p:=p) (b:=b) hA ht hw (by rw[dP];exact h1) (p.kids.length / 2) (by omega);have hn:=kJ (l:=p.kids) (k:=2*(p.kids.length / 2));rw[mF];refine aSo (fun u' hu'=>?_);obtain⟨w,hw,h2⟩:=dV.1 hu';have hw:=a1 w hw;rw[G2]at h2;split at h2
 ·exact(aBs hw.u (aEm (fun x hx=>(ht.kid (hw.sub x hx)).1) (jT hw.len ht.1.kids))).mono (by omega) u' h2
 ·split at h2
  ·rw[aV.1 h2];exact hw.u.mono (by omega)
  ·cases h2
theorem sZ{s:dX}:∀(n:Nat) (p:LTerm),AOk (fJ s n) p
 |0,p=>fun t l b m _ _ _=>⟨fun u hu=>(by cases hu),by simp[fJ]⟩
 |n + 1,p=>fun t l b m ht hl h1=>by
  have hA:∀q∈p.kids,AOk (fJ s n) q:=fun q _=>sZ n q;have e:=iO p;have none:F3 (m+nodesT p) (([],b):MR).1∧(([],b):MR).1.length≤1000:=⟨fun u hu=>(by cases hu),by simp⟩;rw[fJ];split
  ·split
   ·obtain⟨a,c⟩:=L5 (b:=b) hA (fun t' h=>ht.kid h) hl h1;exact⟨a.mono (by omega),c⟩
   ·exact none
  split
  ·split
   ·obtain⟨a,c⟩:=L5 (b:=b) hA (fun t' h=>ht.kid (dH h)) hl h1 (ts:=t.kids.take p.kids.length);split
    ·obtain⟨a2,c2⟩:=aXz (s:=s) (p:=p.rest.getD 0 default) (t:=.mk 7 0 [] [] (t.kids.drop p.kids.length) []) (b:=(kG (fJ s n) p.kids (t.kids.take p.kids.length) l b).2) a (aEm (fun x hx=>(ht.kid (fL hx)).1) (by rw[dI];have:=ht.1.kids;omega));exact⟨a2.mono (by omega),c2⟩
    ·exact⟨a.mono (by omega),c⟩
   ·exact none
  split
  ·split
   ·rename_i h8;obtain⟨a,c⟩:=bCa (s:=s) (b:=b) hA ht (ht.even h8) hl h1;exact⟨a.mono (by omega),c⟩
   ·exact none
  obtain⟨a,c⟩:=aXz (s:=s) (p:=p) (b:=b) hl ht.1;exact⟨a.mono (by omega),c⟩
@[simp] theorem A7{A:LTerm→LTerm→List LSub→Bool→MR}{ts:List LTerm}{l:List LSub}{b:Bool}:kG A [] ts l b=(l,b):=by cases ts<;>rfl
theorem H0{A:LTerm→LTerm→List LSub→Bool→MR}:∀{ps ts:List LTerm} {l:List LSub} {b:Bool} {k:Nat},k<ps.length→k<ts.length →
 kG A (ps.take (k+1)) (ts.take (k+1)) l b=A (ps.getD k default) (ts.getD k default) (kG A (ps.take k) (ts.take k) l b).1 (kG A (ps.take k) (ts.take k) l b).2
 |p::ps,t::ts,l,b,0,_,_=>by simp[kG]
 |p::ps,t::ts,l,b,k+1,h1,h2=>by
  rw[aL,aL,kG,H0 (by simpa using h1) (by simpa using h2),aL,aL,kG];rfl
 | [],_,_,_,_,h,_=>by simp at h
 |_::_,[],_,_,_,_,h=>by simp at h
theorem aHw{A:LTerm→LTerm→List LSub→Bool→MR}:∀{ps ts:List LTerm} {l:List LSub} {b:Bool},kG A ps (ts.take ps.length) l b=kG A ps ts l b
 | [],ts,l,b=>by rw[A7,A7]
 |p::ps,[],l,b=>by simp[kG]
 |p::ps,t::ts,l,b=>by rw[aQ,aL,kG,kG,aHw]
end Go.Proofs.YtdjcggcjlphdoaaGreatDoor
