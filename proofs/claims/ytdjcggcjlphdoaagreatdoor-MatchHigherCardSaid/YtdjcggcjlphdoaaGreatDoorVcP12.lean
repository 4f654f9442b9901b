/-
  Functions of the chapter, as plain functions of what they are given; no condition.
-/
import Derived.Test.YtdjcggcjlphdoaaGreatDoorVcP11
import Derived.Test.YtdjcggcjlphdoaaGreatDoorVoP22
set_option maxRecDepth 100000
set_option linter.unusedSimpArgs false
set_option linter.unusedVariables false
set_option maxHeartbeats 4000000
namespace Go.Proofs.YtdjcggcjlphdoaaGreatDoor
open Go Go.Vo
open Nat (reduceAdd reduceSub reduceMul reduceLeDiff reduceLT reduceEqDiff)
open Int (reduceNeg)

theorem aCl {u:LSub} {x:Str}:∀ k,aUf u x k≤k
 | 0=>bQ _
 | k+1=>by
   rw [aUf]
   split
   · have:=aCl (u:=u) (x:=x) k; omega
   · exact bQ _
theorem O4 {pre g:List AObj} {sz n:Nat} {out:AV} {cells:List AV} (ho:gW sz pre.length g out cells n) (hp:persL cells=true):Fin (pre++g) out (.sl cells n):=by
 rcases ho with ⟨rfl,rfl,rfl⟩ | ⟨i,rfl,hi,hl⟩
 · exact .inr ⟨rfl,by simp [cV],by simp [cV]⟩
 · refine .inr ⟨?_,by simp [cV],by simp [cV]⟩
   show AV.sl cells n=gG dep (pre++g) (.hs (i+pre.length) 0 n false)
   have hg:(pre++g)[i+pre.length]? = some (.arr false sz cells):=by
     rw [aR (by omega)]; simpa using hi
   have hd:(cells.drop 0).take (n * sz)=cells:=by rw [bC,bD (by omega)]
   simp only [fQ,pers,qH,hg,hd,hp,if_true,aG,if_false]
   rw [if_pos (by omega)]
theorem aGz:∀ {l:List AV},persL l=true→l.all aKa=true
 | [],_=>rfl
 | a::l,h=>by
   rw [persL,aE] at h
   rw [mV,aGz h.2,aX]
   cases a <;> first | rfl | exact h.1
theorem pK {pre g:List AObj} {sz n:Nat} {out:AV} {cells:List AV} (ho:gW sz pre.length g out cells n) (hp:persL cells=true) :
   gG dep (pre++g) out=.sl cells n∧∃ g',g'.length=g.length∧Vo.freeze (dW dep (pre++g) out) (pre++g)=pre++g':=by
 rcases ho with ⟨rfl,rfl,rfl⟩ | ⟨i,rfl,hi,hl⟩
 · exact ⟨rfl,g,rfl,by rw [vW rfl]; rfl⟩
 · have hlt:=bO hi
   have hg:(pre++g)[i+pre.length]? = some (.arr false sz cells):=by
     rw [aR (by omega)]; simpa using hi
   have hd:(cells.drop 0).take (n * sz)=cells:=by rw [bC,bD (by omega)]
   refine ⟨?_,g.modify i AObj.fz,by simp,?_⟩
   · simp only [fQ,pers,qH,hg,hd,hp,if_true,aG,if_false]
     rw [if_pos (by omega)]
   · rw [yA,hg]
     simp only [hsQ,aGz hp,if_true,Vo.freeze]
     apply mU
     intro j
     by_cases hj:j < pre.length
     · rw [fN,aJ hj,aJ hj]
       have:¬ i+pre.length=j:=by omega
       simp [this]
     · rw [fN,aR (by omega),aR (by omega),fN]
       have:(i+pre.length=j)=(i=j - pre.length):=propext ⟨fun h=>by omega,fun h=>by omega⟩
       simp only [this]
def OkU (m:Nat) (u:LSub):Prop:=u.length≤m∧∀ p ∈ u,OkT p.2
theorem aYk {m:Nat} {u:LSub} {x:Str} {t:LTerm} (h:OkU m u) (e:mOf u x=some t):OkT t:=by
 rw [mOf,cS] at e
 obtain ⟨p,hp,rfl⟩:=e
 exact h.2 p (E1 hp)
def xN (m:Nat) (l:List LSub):Prop:=∀ u ∈ l,OkU m u
theorem yF {s:eD} {v t:LTerm} {u:LSub}:(mP s v t u).length≤1:=by
 rw [mP]
 split
 · split
   · simp
   · split
     · split <;> simp
     · simp
 · simp
theorem aPc {s:eD} {p t:LTerm} {u:LSub}:(iP s p t u).length≤1:=by
 rw [iP]
 split
 · exact yF
 · split <;> simp
theorem oS {s:eD} {p t:LTerm}:∀ {l:List LSub},(l.flatMap (iP s p t)).length≤l.length
 | []=>by simp
 | u::l=>by
   have h1:=aPc (s:=s) (p:=p) (t:=t) (u:=u)
   have h2:=oS (s:=s) (p:=p) (t:=t) (l:=l)
   rw [List.flatMap_cons,List.length_append,bH]; omega
theorem nV {α β:Type} {f:α→List β} {l:List α} {k:Nat} {d:α} (h:k < l.length):(l.take (k+1)).flatMap f=(l.take k).flatMap f++f (l.getD k d):=by
 have:l.take (k+1)=l.take k++[l.getD k d]:=by
   rw [List.take_add_one,bW h,eM,bW h]; rfl
 rw [this,List.flatMap_append]; simp
theorem bGl {l:List LSub} {k:Nat} (h:k < l.length):(l.map avu)[k]? = some (avu (l.getD k default)):=by
 rw [dX,bW h,eM,bW h]; rfl
attribute [go_sem] bGl zL dC

theorem OkU.mono {m m':Nat} {u:LSub} (h:OkU m u) (hm:m≤m'):OkU m' u:=⟨jF h.1 hm,h.2⟩
theorem xN.mono {m m':Nat} {l:List LSub} (h:xN m l) (hm:m≤m'):xN m' l:=fun u hu=>(h u hu).mono hm
theorem bMr {m:Nat} {u:LSub} {x:Str} {t:LTerm} (h:OkU m u) (ht:OkT t):OkU (m+1) (aEz u x t):=by
 have hp:=aCl (u:=u) (x:=x) u.length
 have h1:=h.1
 refine ⟨by rw [aEz,List.length_append,bH,cH,fW]; omega,fun p hp=>?_⟩
 rw [aEz] at hp
 rcases cR.1 hp with hp | hp
 · exact h.2 p (eL hp)
 · rcases dE.1 hp with rfl | hp
   · exact ht
   · exact h.2 p (jA hp)
theorem P8 {s:eD} {m:Nat} {v t:LTerm} {u:LSub} (h:OkU m u) (ht:OkT t):xN (m+1) (mP s v t u):=by
 intro u' hu'
 rw [mP] at hu'
 split at hu'
 · split at hu'
   · rw [bV.1 hu']; exact h.mono (by omega)
   · split at hu'
     · split at hu'
       · rw [bV.1 hu']; exact h.mono (by omega)
       · cases hu'
     · rw [bV.1 hu']; exact bMr h ht
 · cases hu'
theorem aKk {m:Nat} {l:List LSub} {b:Bool} (h:xN m l):xN m (oN b l).1∧(oN b l).1.length≤1000:=by
 rw [oN]
 split
 · exact ⟨fun u hu=>(by cases hu),by simp⟩
 · exact ⟨h,by dsimp only; omega⟩
theorem aPb {s:eD} {m:Nat} {p t:LTerm} {l:List LSub} {b:Bool} (h:xN m l) (ht:OkT t):xN (m+1) (qJ s p t l b).1∧(qJ s p t l b).1.length≤1000:=by
 refine aKk (fun u' hu'=>?_)
 obtain ⟨u,hu,h2⟩:=gZ.1 hu'
 rw [iP] at h2
 split at h2
 · exact P8 (h u hu) ht u' h2
 · split at h2
   · rw [bV.1 h2]; exact (h u hu).mono (by omega)
   · cases h2
theorem W5 {k:Int} {ks:List LTerm} (h:∀ t ∈ ks,OkT t) (hl:ks.length≤1466015503701):OkT (.mk k 0 [] [] ks []):=
 .mk (by simp [LTerm.text]) (by simp [LTerm.sort]) (by simp [LTerm.n]) (by simp [LTerm.n]) hl (by simp [LTerm.rest]) h (fun k hk=>by cases hk)
def OkN (t:LTerm):Prop:=OkT t∧wfT eG t=true
theorem OkN.kid {t k:LTerm} (h:OkN t) (hk:k ∈ t.kids):OkN k:=⟨h.1.kid k hk,(kS.1 h.2).2 k hk⟩
theorem OkN.even {t:LTerm} (h:OkN t) (h8:t.kind=8):t.kids.length % 2=0:=by
 have e:=(kS.1 h.2).1
 rw [eG] at e
 simp only [h8,(by decide:¬ (8:Int)=1),(by decide:¬ (8:Int)=2),(by decide:¬ (8:Int)=3),(by decide:¬ (8:Int)=4),(by decide:¬ (8:Int)=5),(by decide:¬ (8:Int)=6),(by decide:¬ (8:Int)=7),if_false,if_true,aE,decide_eq_true_eq] at e
 exact e.1.2
def AOk (A:LTerm→LTerm→List LSub→Bool→MR) (p:LTerm):Prop:=
 ∀ (t:LTerm) (l:List LSub) (b:Bool) (m:Nat),OkN t→xN m l→l.length≤1000→xN (m+nodesT p) (A p t l b).1∧(A p t l b).1.length≤1000
theorem yX {A:LTerm→LTerm→List LSub→Bool→MR}:∀ {ps ts:List LTerm} {l:List LSub} {b:Bool} {m:Nat},(∀ p ∈ ps,AOk A p)→(∀ t ∈ ts,OkN t)→xN m l→l.length≤1000→xN (m+nodesL ps) (iS A ps ts l b).1∧(iS A ps ts l b).1.length≤1000
 | p::ps,t::ts,l,b,m,hA,ht,hl,h1=>by
   obtain ⟨a,c⟩:=hA p (by simp) t l b m (ht t (by simp)) hl h1
   rw [iS,nodesL,← dO]
   exact yX (fun q hq=>hA q (by simp [hq])) (fun q hq=>ht q (by simp [hq])) a c
 | [],ts,l,b,m,_,_,hl,h1=>by
   have e:iS A [] ts l b=(l,b):=by cases ts <;> rfl
   rw [e]; exact ⟨hl.mono (by omega),h1⟩
 | p::ps,[],l,b,m,_,_,hl,h1=>⟨hl.mono (by omega),h1⟩
structure OkW (t:LTerm) (m:Nat) (w:mC):Prop where
 u:OkU m w.u
 even:w.left.length % 2=0
 sub:∀ x ∈ w.left,x ∈ t.kids
 len:w.left.length≤t.kids.length
def aKb (t:LTerm) (m:Nat) (l:List mC):Prop:=∀ w ∈ l,OkW t m w
theorem OkW.mono {t:LTerm} {m m':Nat} {w:mC} (h:OkW t m w) (hm:m≤m'):OkW t m' w:=⟨h.u.mono hm,h.even,h.sub,h.len⟩
theorem aKb.mono {t:LTerm} {m m':Nat} {l:List mC} (h:aKb t m l) (hm:m≤m'):aKb t m' l:=fun w hw=>(h w hw).mono hm
theorem bJe {l:List LTerm} {i:Nat} (h:i+2≤l.length):(bDa l i).length=l.length - 2∧∀ x ∈ bDa l i,x ∈ l:=by
 refine ⟨by rw [bDa,List.length_append,cH,fW]; omega,fun x hx=>?_⟩
 rcases cR.1 hx with h | h
 · exact eL h
 · exact jA h
theorem aEa {s:eD} {t key:LTerm} {w:mC} {k m:Nat} (h:OkW t m w) (ht:OkN t) (hk:2 * k < w.left.length):xN (m+1) (lV s key w k)∧(lV s key w k).length≤1:=by
 rw [lV]
 split
 · exact ⟨P8 h.u (ht.kid (h.sub _ (cQ hk))).1,yF⟩
 · split
   · exact ⟨fun u hu=>by rw [bV.1 hu]; exact h.u.mono (by omega),by simp⟩
   · exact ⟨fun u hu=>(by cases hu),by simp⟩
section
variable {A:LTerm→LTerm→List LSub→Bool→MR} {s:eD} {t key value:LTerm} {m:Nat}
theorem aPa {w:mC} {k:Nat} {b:Bool} (hA:AOk A value) (h:OkW t m w) (ht:OkN t) (hk:2 * k+1 < w.left.length):aKb t (m+1+nodesT value) (pJ A s key value w k b).1∧(pJ A s key value w k b).1.length≤1000:=by
 obtain ⟨s1,s2⟩:=aEa (s:=s) (key:=key) h ht (k:=k) (by omega)
 obtain ⟨a1,a2⟩:=hA (w.left.getD (2 * k+1) default) (lV s key w k) b (m+1) (ht.kid (h.sub _ (cQ hk))) s1 (by omega)
 obtain ⟨c1,c2⟩:=bJe (l:=w.left) (i:=2 * k) (by omega)
 have he:=h.even
 have hl:=h.len
 refine ⟨fun w' hw'=>?_,by rw [pJ,dC]; exact a2⟩
 obtain ⟨u,hu,rfl⟩:=gK.1 hw'
 exact ⟨a1 u hu,by dsimp only; omega,fun x hx=>h.sub x (c2 x hx),by dsimp only; omega⟩
theorem aCw {w:mC} (hA:AOk A value) (h:OkW t m w) (ht:OkN t):∀ (k:Nat) (b:Bool),2 * k≤w.left.length→aKb t (m+1+nodesT value) (mF A s key value w k b).1∧(mF A s key value w k b).1.length≤k * 1000
 | 0,b,_=>⟨fun w hw=>(by cases hw),by simp [mF]⟩
 | k+1,b,hk=>by
   obtain ⟨a1,a2⟩:=aCw hA h ht k b (by omega)
   obtain ⟨c1,c2⟩:=aPa (s:=s) (key:=key) (b:=(mF A s key value w k b).2) hA h ht (k:=k) (by omega)
   rw [mF]
   refine ⟨fun w' hw'=>?_,by dsimp only; rw [List.length_append]; omega⟩
   rcases cR.1 hw' with h1 | h1
   · exact a1 w' h1
   · exact c1 w' h1
theorem aOz (hA:AOk A value) (ht:OkN t):∀ (ws:List mC) (b:Bool),aKb t m ws→aKb t (m+1+nodesT value) (nX A s key value ws b).1∧(nX A s key value ws b).1.length≤ws.length * (t.kids.length * 1000)
 | [],b,_=>⟨fun w hw=>(by cases hw),by simp [nX]⟩
 | w :: ws,b,h=>by
   have hw:=h w (by simp)
   obtain ⟨a1,a2⟩:=aCw (s:=s) (key:=key) hA hw ht (w.left.length / 2) b (by omega)
   obtain ⟨c1,c2⟩:=aOz hA ht ws (mF A s key value w (w.left.length / 2) b).2 (fun w' hw'=>h w' (by simp [hw']))
   have hl:=hw.len
   rw [nX]
   refine ⟨fun w' hw'=>?_,by
     dsimp only
     rw [List.length_append,bH,aDo]
     have:w.left.length / 2 * 1000≤t.kids.length * 1000:=cI _ (by omega)
     omega⟩
   rcases cR.1 hw' with h1 | h1
   · exact a1 w' h1
   · exact c1 w' h1
theorem O7 {ws:List mC} {b:Bool} (hA:AOk A value) (ht:OkN t) (h:aKb t m ws):aKb t (m+1+nodesT value) (nA A s key value ws b).1∧(nA A s key value ws b).1.length≤1000:=by
 rw [nA]
 split
 · exact ⟨fun w hw=>(by cases hw),by simp⟩
 · exact ⟨(aOz hA ht ws b h).1,by omega⟩
end
theorem wA {l:List LTerm} {k:Nat} (h:2 * k+1 < l.length):nodesL (l.take (2 * (k+1)))=nodesL (l.take (2 * k))+nodesT (l.getD (2 * k) default)+nodesT (l.getD (2 * k+1) default):=by
 rw [show 2 * (k+1)=2 * k+1+1 by omega,mZ h,mZ (by omega)]
theorem aKw {A:LTerm→LTerm→List LSub→Bool→MR} {s:eD} {p t:LTerm} {m:Nat} (hA:∀ q ∈ p.kids,AOk A q) (ht:OkN t) {ws:List mC} {b:Bool} (h:aKb t m ws) (h1:ws.length≤1000):∀ k,2 * k≤p.kids.length→aKb t (m+nodesL (p.kids.take (2 * k))) (nN A s p k (ws,b)).1∧(nN A s p k (ws,b)).1.length≤1000
 | 0,_=>⟨by rw [nN]; exact h.mono (by omega),h1⟩
 | k+1,hk=>by
   obtain ⟨a1,a2⟩:=aKw hA ht h h1 k (by omega)
   have e:=wA (l:=p.kids) (k:=k) (by omega)
   have hn:1≤nodesT (p.kids.getD (2 * k) default):=by rw [eI]; omega
   obtain ⟨c1,c2⟩:=O7 (s:=s) (key:=p.kids.getD (2 * k) default) (b:=(nN A s p k (ws,b)).2) (hA _ (cQ (d:=default) (k:=2 * k+1) (by omega))) ht a1
   rw [nN]
   exact ⟨c1.mono (by omega),c2⟩
theorem aSk {A:LTerm→LTerm→List LSub→Bool→MR} {s:eD} {p t:LTerm} {m:Nat} (hA:∀ q ∈ p.kids,AOk A q) (ht:OkN t) (he:t.kids.length % 2=0) {l:List LSub} {b:Bool} (h:xN m l) (h1:l.length≤1000):xN (m+nodesL p.kids+1) (jT A s p t l b).1∧(jT A s p t l b).1.length≤1000:=by
 have hw:aKb t m (l.map (mC.mk · t.kids)):=fun w hw=>by
   obtain ⟨u,hu,rfl⟩:=gK.1 hw
   exact ⟨h u hu,he,fun x hx=>hx,bQ _⟩
 obtain ⟨a1,a2⟩:=aKw (A:=A) (s:=s) (p:=p) (b:=b) hA ht hw (by rw [dC]; exact h1) (p.kids.length / 2) (by omega)
 have hn:=iL (l:=p.kids) (k:=2 * (p.kids.length / 2))
 rw [jT]
 refine aKk (fun u' hu'=>?_)
 obtain ⟨w,hw,h2⟩:=gZ.1 hu'
 have hw:=a1 w hw
 rw [zX] at h2
 split at h2
 · exact (P8 hw.u (W5 (fun x hx=>(ht.kid (hw.sub x hx)).1) (jF hw.len ht.1.kids))).mono (by omega) u' h2
 · split at h2
   · rw [bV.1 h2]; exact hw.u.mono (by omega)
   · cases h2
theorem qF {s:eD}:∀ (n:Nat) (p:LTerm),AOk (eH s n) p
 | 0,p=>fun t l b m _ _ _=>⟨fun u hu=>(by cases hu),by simp [eH]⟩
 | n + 1,p=>fun t l b m ht hl h1=>by
   have hA:∀ q ∈ p.kids,AOk (eH s n) q:=fun q _=>qF n q
   have e:=eI p
   have none:xN (m+nodesT p) (([],b):MR).1∧(([],b):MR).1.length≤1000:=⟨fun u hu=>(by cases hu),by simp⟩
   rw [eH]
   split
   · split
     · obtain ⟨a,c⟩:=yX (b:=b) hA (fun t' h=>ht.kid h) hl h1
       exact ⟨a.mono (by omega),c⟩
     · exact none
   split
   · split
     · obtain ⟨a,c⟩:=yX (b:=b) hA (fun t' h=>ht.kid (eL h)) hl h1 (ts:=t.kids.take p.kids.length)
       split
       · obtain ⟨a2,c2⟩:=aPb (s:=s) (p:=p.rest.getD 0 default) (t:=.mk 7 0 [] [] (t.kids.drop p.kids.length) []) (b:=(iS (eH s n) p.kids (t.kids.take p.kids.length) l b).2) a (W5 (fun x hx=>(ht.kid (jA hx)).1) (by rw [fW]; have:=ht.1.kids; omega))
         exact ⟨a2.mono (by omega),c2⟩
       · exact ⟨a.mono (by omega),c⟩
     · exact none
   split
   · split
     · rename_i h8
       obtain ⟨a,c⟩:=aSk (s:=s) (b:=b) hA ht (ht.even h8) hl h1
       exact ⟨a.mono (by omega),c⟩
     · exact none
   obtain ⟨a,c⟩:=aPb (s:=s) (p:=p) (b:=b) hl ht.1
   exact ⟨a.mono (by omega),c⟩
end Go.Proofs.YtdjcggcjlphdoaaGreatDoor
