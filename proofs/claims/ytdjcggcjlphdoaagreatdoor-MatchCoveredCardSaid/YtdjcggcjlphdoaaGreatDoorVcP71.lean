/-
  Functions of the chapter, as plain functions of what they are given; no condition.
-/
import Derived.Test.YtdjcggcjlphdoaaGreatDoorVaP76
import Derived.Test.YtdjcggcjlphdoaaGreatDoorVoP82
set_option maxRecDepth 100000
set_option linter.unusedSimpArgs false
set_option linter.unusedVariables false
set_option maxHeartbeats 4000000
namespace Go.Proofs.YtdjcggcjlphdoaaGreatDoor
open Go Go.Vo
open Nat (reduceAdd reduceSub reduceMul reduceLeDiff reduceLT reduceEqDiff)
open Int (reduceNeg)
theorem aHm{u:LSub}{x:Str}:∀k,aHn u x k≤k
 |0=>bV _
 |k+1=>by
  rw[aHn];split
  ·have:=aHm (u:=u) (x:=x) k;omega
  ·exact bV _
theorem aAb{pre g:List AObj}{sz n:Nat}{out:AV}{cells:List AV}(ho:jU sz pre.length g out cells n)(hp:persL cells=true):Fin (pre++g) out (.sl cells n):=by
 rcases ho with⟨rfl,rfl,rfl⟩|⟨i,rfl,hi,hl⟩
 ·exact .inr ⟨rfl,by simp[dN],by simp[dN]⟩
 ·refine .inr ⟨?_,by simp[dN],by simp[dN]⟩;show AV.sl cells n=iA dep (pre++g) (.hs (i+pre.length) 0 n false);have hg:(pre++g)[i+pre.length]? = some (.arr false sz cells):=by
   rw[aX (by omega)];simpa using hi
  have hd:(cells.drop 0).take (n*sz)=cells:=by rw[bK,bB (by omega)]
  simp only[gN,pers,rV,hg,hd,hp,if_true,aI,if_false];rw[if_pos (by omega)]
theorem aMn:∀{l:List AV},persL l=true→l.all aOi=true
 | [],_=>rfl
 |a::l,h=>by
  rw[persL,aD]at h;rw[oC,aMn h.2,bA];cases a<;>first|rfl|exact h.1
theorem rB{pre g:List AObj}{sz n:Nat}{out:AV}{cells:List AV}(ho:jU sz pre.length g out cells n)(hp:persL cells=true) :
 iA dep (pre++g) out=.sl cells n∧∃g',g'.length=g.length∧Vo.freeze (eL dep (pre++g) out) (pre++g)=pre++g':=by
 rcases ho with⟨rfl,rfl,rfl⟩|⟨i,rfl,hi,hl⟩
 ·exact⟨rfl,g,rfl,by rw[yU rfl];rfl⟩
 ·have hlt:=bW hi;have hg:(pre++g)[i+pre.length]? = some (.arr false sz cells):=by
   rw[aX (by omega)];simpa using hi
  have hd:(cells.drop 0).take (n*sz)=cells:=by rw[bK,bB (by omega)]
  refine⟨?_,g.modify i AObj.fz,by simp,?_⟩
  ·simp only[gN,pers,rV,hg,hd,hp,if_true,aI,if_false];rw[if_pos (by omega)]
  ·rw[E4,hg];simp only[hsQ,aMn hp,if_true,Vo.freeze];apply oB;intro j;by_cases hj:j<pre.length
   ·rw[gL,aN hj,aN hj];have:¬i+pre.length=j:=by omega
    simp[this]
   ·rw[gL,aX (by omega),aX (by omega),gL];have:(i+pre.length=j)=(i=j-pre.length):=propext ⟨fun h=>by omega,fun h=>by omega⟩;simp only[this]
def OkU(m:Nat)(u:LSub):Prop:=u.length≤m∧∀p∈u,OkT p.2
theorem bGf{m:Nat}{u:LSub}{x:Str}{t:LTerm}(h:OkU m u)(e:mOf u x=some t):OkT t:=by
 rw[mOf,dH]at e;obtain⟨p,hp,rfl⟩:=e;exact h.2 p (lB hp)
def E2(m:Nat)(l:List LSub):Prop:=∀u∈l,OkU m u
theorem F2{s:dK}{v t:LTerm}{u:LSub}:(mM s v t u).length≤1:=by
 rw[mM];split
 ·split
  ·simp
  ·split
   ·split<;>simp
   ·simp
 ·simp
theorem aVo{s:dK}{p t:LTerm}{u:LSub}:(iJ s p t u).length≤1:=by
 rw[iJ];split
 ·exact F2
 ·split<;>simp
theorem qM{s:dK}{p t:LTerm}:∀{l:List LSub},(l.flatMap (iJ s p t)).length≤l.length
 | []=>by simp
 |u::l=>by
  have h1:=aVo (s:=s) (p:=p) (t:=t) (u:=u);have h2:=qM (s:=s) (p:=p) (t:=t) (l:=l);rw[List.flatMap_cons,List.length_append,bF];omega
theorem pI{α β:Type}{f:α→List β}{l:List α}{k:Nat}{d:α}(h:k<l.length):(l.take (k+1)).flatMap f=(l.take k).flatMap f++f (l.getD k d):=by
 have:l.take (k+1)=l.take k++[l.getD k d]:=by
  rw[List.take_add_one,bO h,cW,bO h];rfl
 rw[this,List.flatMap_append];simp
theorem bQb{l:List LSub}{k:Nat}(h:k<l.length):(l.map avu)[k]? = some (avu (l.getD k default)):=by
 rw[fC,bO h,cW,bO h];rfl
attribute [go_sem] bQb J1 eD
theorem OkU.mono{m m':Nat}{u:LSub}(h:OkU m u)(hm:m≤m'):OkU m' u:=⟨jI h.1 hm,h.2⟩
theorem E2.mono{m m':Nat}{l:List LSub}(h:E2 m l)(hm:m≤m'):E2 m' l:=fun u hu=>(h u hu).mono hm
theorem bWo{m:Nat}{u:LSub}{x:Str}{t:LTerm}(h:OkU m u)(ht:OkT t):OkU (m+1) (T8 u x t):=by
 have hp:=aHm (u:=u) (x:=x) u.length;have h1:=h.1;refine⟨by rw[T8,List.length_append,bF,cN,dS];omega,fun p hp=>?_⟩;rw[T8]at hp;rcases cQ.1 hp with hp|hp
 ·exact h.2 p (dI hp)
 ·rcases dA.1 hp with rfl|hp
  ·exact ht
  ·exact h.2 p (gK hp)
theorem aAu{s:dK}{m:Nat}{v t:LTerm}{u:LSub}(h:OkU m u)(ht:OkT t):E2 (m+1) (mM s v t u):=by
 intro u' hu';rw[mM]at hu';split at hu'
 ·split at hu'
  ·rw[aP.1 hu'];exact h.mono (by omega)
  ·split at hu'
   ·split at hu'
    ·rw[aP.1 hu'];exact h.mono (by omega)
    ·cases hu'
   ·rw[aP.1 hu'];exact bWo h ht
 ·cases hu'
theorem aPz{m:Nat}{l:List LSub}{b:Bool}(h:E2 m l):E2 m (sW b l).1∧(sW b l).1.length≤1000:=by
 rw[sW];split
 ·exact⟨fun u hu=>(by cases hu),by simp⟩
 ·exact⟨h,by dsimp only;omega⟩
theorem aVn{s:dK}{m:Nat}{p t:LTerm}{l:List LSub}{b:Bool}(h:E2 m l)(ht:OkT t):E2 (m+1) (D6 s p t l b).1∧(D6 s p t l b).1.length≤1000:=by
 refine aPz (fun u' hu'=>?_);obtain⟨u,hu,h2⟩:=cH.1 hu';rw[iJ]at h2;split at h2
 ·exact aAu (h u hu) ht u' h2
 ·split at h2
  ·rw[aP.1 h2];exact(h u hu).mono (by omega)
  ·cases h2
theorem aDg{k:Int}{ks:List LTerm}(h:∀t∈ks,OkT t)(hl:ks.length≤1466015503701):OkT (.mk k 0 [] [] ks []):=
 .mk (by simp[LTerm.text]) (by simp[LTerm.sort]) (by simp[LTerm.n]) (by simp[LTerm.n]) hl (by simp[LTerm.rest]) h (fun k hk=>by cases hk)
def OkN(t:LTerm):Prop:=OkT t∧wfT nodeB t=true
theorem OkN.kid{t k:LTerm}(h:OkN t)(hk:k∈t.kids):OkN k:=⟨h.1.kid k hk,(eN.1 h.2).2 k hk⟩
theorem OkN.even{t:LTerm}(h:OkN t)(h8:t.kind=8):t.kids.length % 2=0:=by
 have e:=(eN.1 h.2).1;rw[nodeB]at e;simp only[h8,(by decide:¬(8:Int)=1),(by decide:¬(8:Int)=2),(by decide:¬(8:Int)=3),(by decide:¬(8:Int)=4),(by decide:¬(8:Int)=5),(by decide:¬(8:Int)=6),(by decide:¬(8:Int)=7),if_false,if_true,aD,decide_eq_true_eq]at e;exact e.1.2
def AOk(A:LTerm→LTerm→List LSub→Bool→MR)(p:LTerm):Prop:=
 ∀(t:LTerm) (l:List LSub) (b:Bool) (m:Nat),OkN t→E2 m l→l.length≤1000→E2 (m+nodesT p) (A p t l b).1∧(A p t l b).1.length≤1000
theorem I2{A:LTerm→LTerm→List LSub→Bool→MR}:∀{ps ts:List LTerm} {l:List LSub} {b:Bool} {m:Nat},(∀p∈ps,AOk A p)→(∀t∈ts,OkN t)→E2 m l→l.length≤1000→E2 (m+nodesL ps) (jT A ps ts l b).1∧(jT A ps ts l b).1.length≤1000
 |p::ps,t::ts,l,b,m,hA,ht,hl,h1=>by
  obtain⟨a,c⟩:=hA p (by simp) t l b m (ht t (by simp)) hl h1;rw[jT,nodesL,← eM];exact I2 (fun q hq=>hA q (by simp[hq])) (fun q hq=>ht q (by simp[hq])) a c
 | [],ts,l,b,m,_,_,hl,h1=>by
   have e:jT A [] ts l b=(l,b):=by cases ts<;>rfl
   rw[e];exact⟨hl.mono (by omega),h1⟩
 |p::ps,[],l,b,m,_,_,hl,h1=>⟨hl.mono (by omega),h1⟩
structure OkW(t:LTerm)(m:Nat)(w:mS):Prop where
 u:OkU m w.u
 even:w.left.length % 2=0
 sub:∀x∈w.left,x∈t.kids
 len:w.left.length≤t.kids.length
def aPq(t:LTerm)(m:Nat)(l:List mS):Prop:=∀w∈l,OkW t m w
theorem OkW.mono{t:LTerm}{m m':Nat}{w:mS}(h:OkW t m w)(hm:m≤m'):OkW t m' w:=⟨h.u.mono hm,h.even,h.sub,h.len⟩
theorem aPq.mono{t:LTerm}{m m':Nat}{l:List mS}(h:aPq t m l)(hm:m≤m'):aPq t m' l:=fun w hw=>(h w hw).mono hm
theorem bSx{l:List LTerm}{i:Nat}(h:i+2≤l.length):(aKk l i).length=l.length-2∧∀x∈aKk l i,x∈l:=by
 refine⟨by rw[aKk,List.length_append,cN,dS];omega,fun x hx=>?_⟩;rcases cQ.1 hx with h|h
 ·exact dI h
 ·exact gK h
theorem aJk{s:dK}{t key:LTerm}{w:mS}{k m:Nat}(h:OkW t m w)(ht:OkN t)(hk:2*k<w.left.length):E2 (m+1) (lE s key w k)∧(lE s key w k).length≤1:=by
 rw[lE];split
 ·exact⟨aAu h.u (ht.kid (h.sub _ (cS hk))).1,F2⟩
 ·split
  ·exact⟨fun u hu=>by rw[aP.1 hu];exact h.u.mono (by omega),by simp⟩
  ·exact⟨fun u hu=>(by cases hu),by simp⟩
section
variable {A:LTerm→LTerm→List LSub→Bool→MR} {s:dK} {t key value:LTerm} {m:Nat}
theorem aVm{w:mS}{k:Nat}{b:Bool}(hA:AOk A value)(h:OkW t m w)(ht:OkN t)(hk:2*k+1<w.left.length):aPq t (m+1+nodesT value) (tC A s key value w k b).1∧(tC A s key value w k b).1.length≤1000:=by
 obtain⟨s1,s2⟩:=aJk (s:=s) (key:=key) h ht (k:=k) (by omega);obtain⟨a1,a2⟩:=hA (w.left.getD (2*k+1) default) (lE s key w k) b (m+1) (ht.kid (h.sub _ (cS hk))) s1 (by omega);obtain⟨c1,c2⟩:=bSx (l:=w.left) (i:=2*k) (by omega);have he:=h.even;have hl:=h.len;refine⟨fun w' hw'=>?_,by rw[tC,eD];exact a2⟩;obtain⟨u,hu,rfl⟩:=dX.1 hw';exact⟨a1 u hu,by dsimp only;omega,fun x hx=>h.sub x (c2 x hx),by dsimp only;omega⟩
theorem aIa{w:mS}(hA:AOk A value)(h:OkW t m w)(ht:OkN t):∀(k:Nat) (b:Bool),2*k≤w.left.length→aPq t (m+1+nodesT value) (oN A s key value w k b).1∧(oN A s key value w k b).1.length≤k*1000
 |0,b,_=>⟨fun w hw=>(by cases hw),by simp[oN]⟩
 |k+1,b,hk=>by
  obtain⟨a1,a2⟩:=aIa hA h ht k b (by omega);obtain⟨c1,c2⟩:=aVm (s:=s) (key:=key) (b:=(oN A s key value w k b).2) hA h ht (k:=k) (by omega);rw[oN];refine⟨fun w' hw'=>?_,by dsimp only;rw[List.length_append];omega⟩;rcases cQ.1 hw' with h1|h1
  ·exact a1 w' h1
  ·exact c1 w' h1
theorem aVl(hA:AOk A value)(ht:OkN t):∀(ws:List mS) (b:Bool),aPq t m ws→aPq t (m+1+nodesT value) (rA A s key value ws b).1∧(rA A s key value ws b).1.length≤ws.length*(t.kids.length*1000)
 | [],b,_=>⟨fun w hw=>(by cases hw),by simp[rA]⟩
 |w :: ws,b,h=>by
  have hw:=h w (by simp);obtain⟨a1,a2⟩:=aIa (s:=s) (key:=key) hA hw ht (w.left.length / 2) b (by omega);obtain⟨c1,c2⟩:=aVl hA ht ws (oN A s key value w (w.left.length / 2) b).2 (fun w' hw'=>h w' (by simp[hw']));have hl:=hw.len;rw[rA];refine⟨fun w' hw'=>?_,by
   dsimp only;rw[List.length_append,bF,aIw];have:w.left.length / 2*1000≤t.kids.length*1000:=cT _ (by omega);omega⟩
  rcases cQ.1 hw' with h1|h1
  ·exact a1 w' h1
  ·exact c1 w' h1
theorem aAe{ws:List mS}{b:Bool}(hA:AOk A value)(ht:OkN t)(h:aPq t m ws):aPq t (m+1+nodesT value) (qF A s key value ws b).1∧(qF A s key value ws b).1.length≤1000:=by
 rw[qF];split
 ·exact⟨fun w hw=>(by cases hw),by simp⟩
 ·exact⟨(aVl hA ht ws b h).1,by omega⟩
end
theorem yX{l:List LTerm}{k:Nat}(h:2*k+1<l.length):nodesL (l.take (2*(k+1)))=nodesL (l.take (2*k))+nodesT (l.getD (2*k) default)+nodesT (l.getD (2*k+1) default):=by
 rw[show 2*(k+1)=2*k+1+1 by omega,oM h,oM (by omega)]
theorem aQp{A:LTerm→LTerm→List LSub→Bool→MR}{s:dK}{p t:LTerm}{m:Nat}(hA:∀q∈p.kids,AOk A q)(ht:OkN t){ws:List mS}{b:Bool}(h:aPq t m ws)(h1:ws.length≤1000):∀k,2*k≤p.kids.length→aPq t (m+nodesL (p.kids.take (2*k))) (oY A s p k (ws,b)).1∧(oY A s p k (ws,b)).1.length≤1000
 |0,_=>⟨by rw[oY];exact h.mono (by omega),h1⟩
 |k+1,hk=>by
  obtain⟨a1,a2⟩:=aQp hA ht h h1 k (by omega);have e:=yX (l:=p.kids) (k:=k) (by omega);have hn:1≤nodesT (p.kids.getD (2*k) default):=by rw[eW];omega
  obtain⟨c1,c2⟩:=aAe (s:=s) (key:=p.kids.getD (2*k) default) (b:=(oY A s p k (ws,b)).2) (hA _ (cS (d:=default) (k:=2*k+1) (by omega))) ht a1;rw[oY];exact⟨c1.mono (by omega),c2⟩
theorem aZm{A:LTerm→LTerm→List LSub→Bool→MR}{s:dK}{p t:LTerm}{m:Nat}(hA:∀q∈p.kids,AOk A q)(ht:OkN t)(he:t.kids.length % 2=0){l:List LSub}{b:Bool}(h:E2 m l)(h1:l.length≤1000):E2 (m+nodesL p.kids+1) (lQ A s p t l b).1∧(lQ A s p t l b).1.length≤1000:=by
 have hw:aPq t m (l.map (mS.mk · t.kids)):=fun w hw=>by
  obtain⟨u,hu,rfl⟩:=dX.1 hw;exact⟨h u hu,he,fun x hx=>hx,bV _⟩
 obtain⟨a1,a2⟩:=aQp (A:=A) (s:=s) (p:=p) (b:=b) hA ht hw (by rw[eD];exact h1) (p.kids.length / 2) (by omega);have hn:=iU (l:=p.kids) (k:=2*(p.kids.length / 2));rw[lQ];refine aPz (fun u' hu'=>?_);obtain⟨w,hw,h2⟩:=cH.1 hu';have hw:=a1 w hw;rw[B7]at h2;split at h2
 ·exact(aAu hw.u (aDg (fun x hx=>(ht.kid (hw.sub x hx)).1) (jI hw.len ht.1.kids))).mono (by omega) u' h2
 ·split at h2
  ·rw[aP.1 h2];exact hw.u.mono (by omega)
  ·cases h2
theorem tQ{s:dK}:∀(n:Nat) (p:LTerm),AOk (fM s n) p
 |0,p=>fun t l b m _ _ _=>⟨fun u hu=>(by cases hu),by simp[fM]⟩
 |n + 1,p=>fun t l b m ht hl h1=>by
  have hA:∀q∈p.kids,AOk (fM s n) q:=fun q _=>tQ n q;have e:=eW p;have none:E2 (m+nodesT p) (([],b):MR).1∧(([],b):MR).1.length≤1000:=⟨fun u hu=>(by cases hu),by simp⟩;rw[fM];split
  ·split
   ·obtain⟨a,c⟩:=I2 (b:=b) hA (fun t' h=>ht.kid h) hl h1;exact⟨a.mono (by omega),c⟩
   ·exact none
  split
  ·split
   ·obtain⟨a,c⟩:=I2 (b:=b) hA (fun t' h=>ht.kid (dI h)) hl h1 (ts:=t.kids.take p.kids.length);split
    ·obtain⟨a2,c2⟩:=aVn (s:=s) (p:=p.rest.getD 0 default) (t:=.mk 7 0 [] [] (t.kids.drop p.kids.length) []) (b:=(jT (fM s n) p.kids (t.kids.take p.kids.length) l b).2) a (aDg (fun x hx=>(ht.kid (gK hx)).1) (by rw[dS];have:=ht.1.kids;omega));exact⟨a2.mono (by omega),c2⟩
    ·exact⟨a.mono (by omega),c⟩
   ·exact none
  split
  ·split
   ·rename_i h8;obtain⟨a,c⟩:=aZm (s:=s) (b:=b) hA ht (ht.even h8) hl h1;exact⟨a.mono (by omega),c⟩
   ·exact none
  obtain⟨a,c⟩:=aVn (s:=s) (p:=p) (b:=b) hl ht.1;exact⟨a.mono (by omega),c⟩
@[simp] theorem yT{A:LTerm→LTerm→List LSub→Bool→MR}{ts:List LTerm}{l:List LSub}{b:Bool}:jT A [] ts l b=(l,b):=by cases ts<;>rfl
theorem E3{A:LTerm→LTerm→List LSub→Bool→MR}:∀{ps ts:List LTerm} {l:List LSub} {b:Bool} {k:Nat},k<ps.length→k<ts.length →
 jT A (ps.take (k+1)) (ts.take (k+1)) l b=A (ps.getD k default) (ts.getD k default) (jT A (ps.take k) (ts.take k) l b).1 (jT A (ps.take k) (ts.take k) l b).2
 |p::ps,t::ts,l,b,0,_,_=>by simp[jT]
 |p::ps,t::ts,l,b,k+1,h1,h2=>by
  rw[aO,aO,jT,E3 (by simpa using h1) (by simpa using h2),aO,aO,jT];rfl
 | [],_,_,_,_,h,_=>by simp at h
 |_::_,[],_,_,_,_,h=>by simp at h
theorem aGj{A:LTerm→LTerm→List LSub→Bool→MR}:∀{ps ts:List LTerm} {l:List LSub} {b:Bool},jT A ps (ts.take ps.length) l b=jT A ps ts l b
 | [],ts,l,b=>by rw[yT,yT]
 |p::ps,[],l,b=>by simp[jT]
 |p::ps,t::ts,l,b=>by rw[bF,aO,jT,jT,aGj]
end Go.Proofs.YtdjcggcjlphdoaaGreatDoor
