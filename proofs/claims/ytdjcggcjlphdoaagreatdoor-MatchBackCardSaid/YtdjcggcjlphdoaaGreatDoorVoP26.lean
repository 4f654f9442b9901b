/-
  The abstract layer, part Cu: a statement of open order, its first part, and behind it a part whose order is open too, all orders looked at. It speaks of any program; no condition.
-/
import Derived.Test.YtdjcggcjlphdoaaGreatDoorVoP24
import Derived.Test.YtdjcggcjlphdoaaGreatDoorVoP22
set_option linter.unusedVariables false
set_option linter.unusedSimpArgs false
namespace Go.Vo
section
variable {P:Program} {Q:Exit→Act→World→Prop}
theorem aOo{ops:Array Oper}:∀(fuel:Nat) (l:Array Bool) (a:Act) (w:World),wpAny P .any ops Q fuel l a w→wpAny P .any ops Q (fuel+1) l a w
 |0,l,a,w,h=>⟨fun _=>h.2,fun i hi=>by rw[h.1]at hi;cases hi⟩
 |fuel+1,l,a,w,h=>⟨h.1,fun i hi=>wpOp_mono (fun a w q=>aOo fuel _ a w q) (h.2 i hi)⟩
theorem aGw{ops:Array Oper}{l:Array Bool}{a:Act}{w:World}{m:Nat}(h:wpAny P .any ops Q m l a w):∀n,wpAny P .any ops Q (n+m) l a w
 |0=>by rw[dM];exact h
 |n+1=>by rw[show n+1+m=(n+m)+1 by omega];exact aOo _ _ _ _ (aGw h n)
theorem aCb{l:Array Bool}{m i:Nat}{d:Bool}(h:i<l.size):(l++Array.replicate m false).getD i d=l.getD i d:=by
 have h2:i<l.size+m:=by omega
 simp[Array.getD,h,h2,Array.getElem_append_left]
theorem bRt{l:Array Bool}{m i:Nat}(h:i<l.size):(l++Array.replicate m false).setIfInBounds i true=l.setIfInBounds i true++Array.replicate m false:=by
 apply Array.ext_getElem?;intro j;rw[cL,aKq,aKq,cL];simp only[mD,kP,aRy];by_cases hij:i=j
 ·subst hij;rw[if_pos rfl,if_pos (by omega),if_pos h,if_pos rfl,if_pos h]
 ·rw[if_neg hij,if_neg hij]
def cEv(pre:Array Oper)(l:List Oper):Bool:=aYh pre&&(uO pre&&l.all fun o=>(List.range pre.size).all fun j=>(anyPre o).contains j)
def cGd(P:Program)(ops:Array Oper)(Q:Exit→Act→World→Prop)(k m:Nat):Exit→Act→World→Prop
 | .normal,a,w=>wpAny P .any ops Q m (Array.replicate k true++Array.replicate m false) a w
 |x,a,w=>Q x a w
theorem bRu{pre:Array Oper}{l:List Oper}(hc:cEv pre l=true):∀(fuel:Nat) (l0:Array Bool),l0.size=pre.size→∀(a:Act) (w:World),wpAny P .any pre (cGd P (pre++l.toArray) Q pre.size l.length) fuel l0 a w→wpAny P .any (pre++l.toArray) Q (fuel+l.length) (l0++Array.replicate l.length false) a w:=by
 simp only[cEv,aA]at hc;obtain⟨hd,hg,hl⟩:=hc;have hlt:=C4 hd;rw[bF]at hl;have hlw:∀o∈l,∀j,j<pre.size→j∈anyPre o:=fun o ho j hj=>by
  have:=hl o ho;rw[bF]at this;exact jW.1 (this j (fE.2 hj))
 have full:∀{l0:Array Bool},l0.size=pre.size→Region.ready .any pre l0=[]→l0=Array.replicate pre.size true:=fun{l0} hs hr=>by
  have:=M7 hlt hs hr;apply U7
  ·simp[hs]
  ·intro i h1 h2;have:=this i (by omega);simp[Array.getD,h1]at this;simpa using this
 intro fuel;induction fuel with
 |zero=>
  intro l0 hs a w h;rw[full hs h.1,dM];exact h.2
 |succ fuel ih=>
  intro l0 hs a w h;by_cases hr:Region.ready .any pre l0=[]
  ·rw[full hs hr];exact aGw (h.1 hr) _
  ·rw[show fuel+1+l.length=(fuel+l.length)+1 by omega]
   have get:∀{i:Nat},i<pre.size→(pre++l.toArray)[i]? = pre[i]? := fun hi=>dU hi;have rd:∀i,i<pre.size→(i∈Region.ready .any (pre++l.toArray) (l0++Array.replicate l.length false)↔i∈Region.ready .any pre l0):=by
    intro i hi;rw[mem_ready,mem_ready,get hi,aCb (by omega)];have ho:pre[i]? = some pre[i]:=by simp[hi]
    rw[ho];have h1:∀d∈pre[i].after,Region.binds .any d=true→(l0++Array.replicate l.length false).getD d.on false=l0.getD d.on false:=fun d hd hb=>aCb (by have:=hlt i _ ho d.on (iJ.2 ⟨d,hd,hb,rfl⟩);omega);constructor
    ·rintro⟨a,p,hp,hall⟩;cases hp;exact⟨a,_,rfl,fun d hd hb=>(h1 d hd hb).symm.trans (hall d hd hb)⟩
    ·rintro⟨a,p,hp,hall⟩;cases hp;exact⟨a,_,rfl,fun d hd hb=>(h1 d hd hb).trans (hall d hd hb)⟩
   obtain⟨k,hk⟩:=S3 _ hr;have hkl:k<pre.size:=by obtain⟨_,p,hp,_⟩:=mem_ready.1 hk;exact(aY.1 hp).1
   refine⟨fun hr'=>?_,fun i hi=>?_⟩
   ·have:=(rd k hkl).2 hk;rw[hr']at this;cases this
   ·by_cases hin:i<pre.size
    ·have hi':=(rd i hin).1 hi;have h2:=h.2 i hi';have hp:pre[i]? = some pre[i]:=by simp[hin]
     have K:∀a w,wpAny P .any pre (cGd P (pre++l.toArray) Q pre.size l.length) fuel (l0.setIfInBounds i true) a w→wpAny P .any (pre++l.toArray) Q (fuel+l.length) ((l0++Array.replicate l.length false).setIfInBounds i true) a w:=fun a w q=>by
      rw[bRt (by omega)];exact ih _ (by simp[hs]) a w q
     unfold wpOp at h2 ⊢;rw[get hin,hp];rw[hp]at h2;dsimp only at h2 ⊢;have hw':Region.wanted pre[i] (yielded (pre++l.toArray) a.tmps)=Region.wanted pre[i] (yielded pre a.tmps):=A3 (fun j b hj=>by
      simp only[uO,bF]at hg;have:=hg pre[i] (aRz.2 (gX hp));rw[hj]at this;simp only[decide_eq_true_eq]at this;exact⟨this,get this⟩) _
     rw[hw'];by_cases hw:Region.wanted pre[i] (yielded pre a.tmps)=true
     ·rw[if_pos hw]at h2 ⊢;have up:LetsOut (cGd P (pre++l.toArray) Q pre.size l.length)→LetsOut Q:=fun⟨a,w,q⟩=>⟨a,w,q⟩;rcases h2 with h2|⟨h2,h3⟩
      ·exact .inl (lF (fun x a w hx q=>by cases x<;>first|exact absurd rfl hx|exact q) up (wN K h2))
      ·exact .inr ⟨h2,up h3⟩
     ·rw[if_neg hw]at h2 ⊢;exact K _ _ h2
    ·exfalso;obtain⟨_,p,hp,hall⟩:=mem_ready.1 hi;have hpl:p∈l:=by
      rw[D7 (by omega)]at hp;have:=gX hp;simpa using this
     have hj:=hlw p hpl k hkl;obtain⟨d,hd1,hd2,hd3⟩:=iJ.1 hj;have h3:=hall d hd1 hd2;rw[hd3,aCb (by omega)]at h3;have h4:=(mem_ready.1 hk).1;have hkl0:k<l0.size:=by omega
     simp[Array.getD,hkl0]at h3 h4;rw[h3]at h4;cases h4
end
section
variable {P:Program} {G:Md}
def G7(P:Program)(G:Md)(ops:Array Oper)(K:List AV→List AObj→Prop):Nat→Array Bool→List AV→List AObj→Prop
 |0,L,env,h=>Region.ready .any ops L=[]∧K env h
 |f+1,L,env,h=>(Region.ready .any ops L=[]→K env h)∧∀i∈Region.ready .any ops L,∃o ao,ops[i]? = some o∧bY .off ops [o]=some [ao]∧dN P G none [ao] (G7 P G ops K f (L.setIfInBounds i true)) env h
theorem aOb{ops:Array Oper}{K:List AV→List AObj→Prop}:∀(f:Nat) (L:Array Bool) (env:List AV) (h:List AObj) (X:Ctx) (w:World) (a:Act) (Q:Exit→Act→World→Prop),G7 P G ops K f L env h→GH G X w h→EnvOK G.ds X w h env a →
 (∀a' w',mI G X w h K a' w'→Q .normal a' w')→(∀v a' w',mI G X w h (G.pan v) a' w'→Q (.panic [{v:=v,recovered:=false}]) a' w')→wpAny P .any ops Q f L a w
 |0,L,env,h,X,w,a,Q,e,g,r,hQ,hP=>⟨e.1,hQ a w ⟨env,h,X,e.2,g,r,.refl _ _ _⟩⟩
 |f + 1,L,env,h,X,w,a,Q,e,g,r,hQ,hP=>by
  refine⟨fun hr=>hQ a w ⟨env,h,X,e.1 hr,g,r,.refl _ _ _⟩,fun i hi=>?_⟩;obtain⟨o,ao,ho,hs,k⟩:=e.2 i hi;have W:=lX (rx:=.off) (dr:=none) (Q:=fun x a' w'=>match x with| .normal=>wpAny P .any ops Q f (L.setIfInBounds i true) a' w'|x=>Q x a' w') [o] [ao] hs env h X w a k g r
   (fun a' w' ⟨env2,h2,X2,k1,k2,k3,k4⟩=>aOb f _ env2 h2 X2 w' a' Q k1 k2 k3 (fun a3 w3 ⟨env3,h3,X3,q1,q2,q3,q4⟩=>hQ a3 w3 ⟨env3,h3,X3,q1,q2,q3,k4.trans q4⟩) (fun v a3 w3 ⟨env3,h3,X3,q1,q2,q3,q4⟩=>hP v a3 w3 ⟨env3,h3,X3,q1,q2,q3,k4.trans q4⟩))
   (fun _ v a' w' q=>hP v a' w' q)
  simp only[wpList]at W;unfold wpOp;rw[ho];dsimp only;split
  ·rename_i hw;rw[if_pos hw]at W;have up:LetsOut (fun x a' w'=>match x with| .normal=>wpAny P .any ops Q f (L.setIfInBounds i true) a' w'|x=>Q x a' w')→LetsOut Q:=fun⟨a,w,q⟩=>⟨a,w,q⟩;rcases W with W|⟨W,W2⟩
   ·exact .inl (lF (fun x a w hx q=>by cases x<;>first|exact absurd rfl hx|exact q) up W)
   ·exact .inr ⟨W,up W2⟩
  ·rename_i hw;rw[if_neg hw]at W;exact W
theorem cAk{N:DR}{rx:RX}(hm:P.follows .mixedOrders=true){id:Nat}{ops:Array Oper}(k:Nat){al:List gA}{Q:Exit→List AV→List AObj→Prop}{env:List AV}{h:List AObj}
 (hB:(uQ rx (ops.toList.take k).toArray&&cEv (ops.toList.take k).toArray (ops.toList.drop k))=true)
 (hl:bY rx (ops.toList.take k).toArray (fT (ops.toList.take k).toArray)=some al)
 (e:dN P G (some N) al (fun env h=>G7 P G ops (Q .normal) (ops.toList.drop k).length (Array.replicate (ops.toList.take k).toArray.size true++Array.replicate (ops.toList.drop k).length false) env h) env h):AW P G (.region id ops true) Q env h:=by
 rw[aA]at hB;have hops:ops=(ops.toList.take k).toArray++(ops.toList.drop k).toArray:=by
  apply oS;rw[D6];simp
 intro X w a g r;generalize (ops.toList.take k).toArray=pre at *
 generalize ops.toList.drop k=l at *
 subst hops;refine wp_region_any hm ?_;rw[show(pre++l.toArray).size=pre.size+l.length by simp];have hrep:Array.replicate (pre.size+l.length) false=Array.replicate pre.size false++Array.replicate l.length false:=by
  apply oS;simp[List.replicate_append_replicate]
 rw[hrep];refine bRu hB.2 pre.size (Array.replicate pre.size false) (by simp) a _ (zM hB.1 hl e g r ?_);rintro a' w' ⟨env2,h2,X2,k1,k2,k3,k4⟩;exact aOb _ _ env2 h2 X2 w' a' _ k1 k2 k3 (fun a3 w3 ⟨env3,h3,X3,q1,q2,q3,q4⟩=>⟨env3,h3,X3,q1,q2,q3,k4.trans q4⟩)
  (fun v a3 w3 ⟨env3,h3,X3,q1,q2,q3,q4⟩=>⟨env3,h3,X3,⟨v,rfl,q1⟩,q2,q3,k4.trans q4⟩)
theorem aOn{ops:Array Oper}{K:List AV→List AObj→Prop}{f:Nat}{L:Array Bool}{env:List AV}{h:List AObj}(rs:List Nat)(hr:Region.ready .any ops L=rs)(hne:rs ≠ [])
 (e:∀i∈rs,∃o ao,ops[i]? = some o∧bY .off ops [o]=some [ao]∧dN P G none [ao] (G7 P G ops K f (L.setIfInBounds i true)) env h):G7 P G ops K (f+1) L env h:=
 ⟨fun h0=>absurd (hr▸h0) hne,hr▸e⟩
theorem C8{ops:Array Oper}{K:List AV→List AObj→Prop}{L:Array Bool}{env:List AV}{h:List AObj}(hr:Region.ready .any ops L=[])(e:K env h):G7 P G ops K 0 L env h:=⟨hr,e⟩
def rdy(ops:Array Oper)(L:Array Bool)(is rs:List Nat):Bool:=decide (Region.ready .any ops (is.foldl (fun L i=>L.setIfInBounds i true) L)=rs)
theorem mL{ops:Array Oper}{L:Array Bool}{is rs:List Nat}(h:rdy ops L is rs=true):Region.ready .any ops (is.foldl (fun L i=>L.setIfInBounds i true) L)=rs:=of_decide_eq_true h
def cGh(ops:Array Oper)(L:Array Bool)(k:Nat):Bool:=
 rdy ops L [] [k,k+2]&&(rdy ops L [k] [k+1,k+2]&&(rdy ops L [k+2] [k,k+3]&&(rdy ops L [k,k+1] [k+2]&&(rdy ops L [k,k+2] [k+1,k+3]&&(rdy ops L [k+2,k] [k+1,k+3]&&(rdy ops L [k+2,k+3] [k] &&
 (rdy ops L [k,k+1,k+2] [k+3]&&(rdy ops L [k,k+2,k+1] [k+3]&&(rdy ops L [k,k+2,k+3] [k+1]&&(rdy ops L [k+2,k,k+1] [k+3]&&(rdy ops L [k+2,k,k+3] [k+1]&&(rdy ops L [k+2,k+3,k] [k+1] &&
 (rdy ops L [k,k+1,k+2,k+3] []&&(rdy ops L [k,k+2,k+1,k+3] []&&(rdy ops L [k,k+2,k+3,k+1] []&&(rdy ops L [k+2,k,k+1,k+3] []&&(rdy ops L [k+2,k,k+3,k+1] []&&rdy ops L [k+2,k+3,k,k+1] [])))))))))))))))))
theorem bAm{ops:Array Oper}{K:List AV→List AObj→Prop}{L:Array Bool}{env:List AV}{h:List AObj}(k:Nat){o0 o1 o2 o3:Oper}{a0 a1 a2 a3:gA}(hb:cGh ops L k=true)
 (g0:ops[k]? = some o0) (g1:ops[k+1]? = some o1) (g2:ops[k+2]? = some o2) (g3:ops[k+3]? = some o3)
 (s0:bY .off ops [o0]=some [a0]) (s1:bY .off ops [o1]=some [a1]) (s2:bY .off ops [o2]=some [a2]) (s3:bY .off ops [o3]=some [a3])
 (e:dN P G none [a0] (fun env h=>dN P G none [a1] (dN P G none [a2] (dN P G none [a3] K)) env h∧dN P G none [a2] (fun env h=>dN P G none [a1] (dN P G none [a3] K) env h∧dN P G none [a3] (dN P G none [a1] K) env h) env h) env h ∧
  dN P G none [a2] (fun env h=>dN P G none [a3] (dN P G none [a0] (dN P G none [a1] K)) env h∧dN P G none [a0] (fun env h=>dN P G none [a1] (dN P G none [a3] K) env h∧dN P G none [a3] (dN P G none [a1] K) env h) env h) env h):G7 P G ops K 4 L env h:=by
 simp only[cGh,aA]at hb;obtain⟨r1,r2,r3,r4,r5,r6,r7,r8,r9,r10,r11,r12,r13,f1,f2,f3,f4,f5,f6⟩:=hb;have r1:=mL r1;have r2:=mL r2;have r3:=mL r3;have r4:=mL r4;have r5:=mL r5;have r6:=mL r6;have r7:=mL r7;have r8:=mL r8;have r9:=mL r9;have r10:=mL r10;have r11:=mL r11;have r12:=mL r12;have r13:=mL r13;have f1:=mL f1;have f2:=mL f2;have f3:=mL f3;have f4:=mL f4;have f5:=mL f5;have f6:=mL f6;simp only[nX,List.foldl_nil]at r1 r2 r3 r4 r5 r6 r7 r8 r9 r10 r11 r12 r13 f1 f2 f3 f4 f5 f6;have one:∀{f:Nat} {L:Array Bool} {env:List AV} {h:List AObj} {i:Nat} {o:Oper} {a:gA},Region.ready .any ops L=[i]→ops[i]? = some o→bY .off ops [o]=some [a]→dN P G none [a] (G7 P G ops K f (L.setIfInBounds i true)) env h→G7 P G ops K (f+1) L env h:=
  fun hr ho hs k=>aOn _ hr (by simp) fun j hj=>by rw[aV]at hj;subst hj;exact⟨_,_,ho,hs,k⟩
 have two:∀{f:Nat} {L:Array Bool} {env:List AV} {h:List AObj} {i j:Nat} {o p:Oper} {a b:gA},Region.ready .any ops L=[i,j]→ops[i]? = some o→bY .off ops [o]=some [a]→ops[j]? = some p→bY .off ops [p]=some [b]→dN P G none [a] (G7 P G ops K f (L.setIfInBounds i true)) env h→dN P G none [b] (G7 P G ops K f (L.setIfInBounds j true)) env h→G7 P G ops K (f+1) L env h:=
  fun hr ho hs hp ht k k2=>aOn _ hr (by simp) fun x hx=>by
   rcases cH.1 hx with rfl|hx
   ·exact⟨_,_,ho,hs,k⟩
   ·rw[aV]at hx;subst hx;exact⟨_,_,hp,ht,k2⟩
 refine two r1 g0 s0 g2 s2 (fK ?_ e.1) (fK ?_ e.2)
 ·rintro env h ⟨q1,q2⟩;refine two r2 g1 s1 g2 s2 (fK (fun env h q=>one r4 g2 s2 (fK (fun env h q=>one r8 g3 s3 (fK (fun env h q=>C8 f1 q) q)) q)) q1) (fK ?_ q2);rintro env h ⟨q1,q2⟩;exact two r5 g1 s1 g3 s3 (fK (fun env h q=>one r9 g3 s3 (fK (fun env h q=>C8 f2 q) q)) q1) (fK (fun env h q=>one r10 g1 s1 (fK (fun env h q=>C8 f3 q) q)) q2)
 ·rintro env h ⟨q1,q2⟩;refine two r3 g0 s0 g3 s3 (fK ?_ q2) (fK (fun env h q=>one r7 g0 s0 (fK (fun env h q=>one r13 g1 s1 (fK (fun env h q=>C8 f6 q) q)) q)) q1);rintro env h ⟨q1,q2⟩;exact two r6 g1 s1 g3 s3 (fK (fun env h q=>one r11 g3 s3 (fK (fun env h q=>C8 f4 q) q)) q1) (fK (fun env h q=>one r12 g1 s1 (fK (fun env h q=>C8 f5 q) q)) q2)
end
section
variable {P:Program}
theorem aDn{G:Glob}{f:FuncId}{A A0:List AV}{h:List AObj}{sz:Nat}{cells cells':List AV}{r:AV}(id:Nat)(hG:oR G)(s:ACalls P G f A0 [.arr false sz cells] (fun r0 h1=>r0=r∧h1=[.arr false sz cells']))(hp:persL cells=true)(hp':persL cells'=true)(hr:pers r=true)
 (hid:h[id]? = some (.arr false sz cells)) (hA:A=renL (emb [id] h.length) A0):ACalls P G f A h (fun r1 h1=>r1=r∧h1=h.set id (.arr false sz cells')):=by
 refine(frame (is:=[id]) hG s (by simp) rfl (fun i o ho=>?_) hA).mono ?_
 ·cases i with
  |zero=>
   simp only[bT,aB]at ho;subst ho;simp only[eM,AObj.ren,renL_pers _ _ hp];exact hid
  |succ i=>simp at ho
 ·rintro r' h' ⟨r0,h1,⟨rfl,rfl⟩,_,rfl,rfl⟩;rw[yH _ _ hr];simp only[yQ,aK,aZ,mW,aQ,cB,dM,aT,bG,AObj.ren,renL_pers _ _ hp',List.append_nil];refine⟨?_,?_⟩<;>first|trivial|rfl
theorem aSn{G:Glob}{f:FuncId}{A A0:List AV}{h:List AObj}{c1 c1' c2 c2':List AV}{r:AV}(i j:Nat)(hij:i≠j)(hG:oR G)(s:ACalls P G f A0 [.box false c1,.box false c2] (fun r0 h1=>r0=r∧h1=[.box false c1',.box false c2']))(hp1:persL c1=true)(hp2:persL c2=true)(hp1':persL c1'=true)(hp2':persL c2'=true)(hr:pers r=true)
 (hi:h[i]? = some (.box false c1)) (hj:h[j]? = some (.box false c2)) (hA:A=renL (emb [i,j] h.length) A0):ACalls P G f A h (fun r1 h1=>r1=r∧h1=(h.set i (.box false c1')).set j (.box false c2')):=by
 refine(frame (is:=[i,j]) hG s (by simp[hij]) rfl (fun k o ho=>?_) hA).mono ?_
 ·match k with
  |0=>
   simp only[bT,aB]at ho;subst ho;simp only[eM,AObj.ren,renL_pers _ _ hp1];exact hi
  |1=>
   simp only[bZ,bT,aB]at ho;subst ho;simp only[dE,eM,AObj.ren,renL_pers _ _ hp2];exact hj
  |k+2=>simp at ho
 ·rintro r' h' ⟨r0,h1,⟨rfl,rfl⟩,_,rfl,rfl⟩;rw[yH _ _ hr];simp only[yQ,aK,aZ,mW,aQ,cB,dM,Nat.reduceAdd,aT,bG,AObj.ren,renL_pers _ _ hp1',renL_pers _ _ hp2',List.append_nil];refine⟨?_,?_⟩<;>first|trivial|rfl
theorem aZi{G:Md}{d:Option Nat}{os:List gA}{K:List AV→List AObj→Prop}{env:List AV}{h:List AObj}{f:FuncId}{A:List AV}{b k i:Nat}{cells:List AV}{x:AV}(hb:h[b]? = some (.box false cells))(hi:A[i]? = some (.ptr b 0))(hk:cells[k]? = some x)(hn:b∉eH dep h x)
 (s:tM P G none f A d os K env ((freeze (eH dep h x) h).set b (.box false (cells.set k (gZ dep h x))))):tM P G none f A d os K env h:=by
 have main:∀(X:Ctx) (w:World) (vs:Array Value),GH G X w h→A.length=vs.size→(∀(j:Nat) (a:AV) (v:Value),A[j]? = some a→vs[j]? = some v→RV X w h a v) →
  ∃X',GH G X' w ((freeze (eH dep h x) h).set b (.box false (cells.set k (gZ dep h x))))∧(∀(j:Nat) (a:AV) (v:Value),A[j]? = some a→vs[j]? = some v→RV X' w ((freeze (eH dep h x) h).set b (.box false (cells.set k (gZ dep h x)))) a v)∧Tr X w h X' w ((freeze (eH dep h x) h).set b (.box false (cells.set k (gZ dep h x)))):=by
  intro X w vs g hl hr;obtain⟨env',h',X',⟨rfl,rfl⟩,g',r',t⟩:=aCy (G:=G) (K:=fun e h'=>e=A∧h'=(freeze (eH dep h x) h).set b (.box false (cells.set k (gZ dep h x)))) hb hi hk hn ⟨rfl,rfl⟩ X w {tmps:=vs,defers:=G.ds} g ⟨rfl,hl,hr⟩;exact⟨X',g',r'.rel,t⟩
 rcases s with s|s
 ·refine .inl ⟨s.1,fun X w vs g hl hr=>?_⟩;obtain⟨X',g',hr',t⟩:=main X w vs g hl hr;refine(s.2 X' w vs g' hl hr').mono ?_;rintro e w' ⟨v,r,h',X2,h1,h2,h3,h4,t2⟩;exact⟨v,r,h',X2,h1,h2,h3,h4,t.trans t2⟩
 ·refine .inr ⟨s.1,fun X w vs g hl hr=>?_⟩;obtain⟨X',g',hr',t⟩:=main X w vs g hl hr;refine(s.2 X' w vs g' hl hr').mono ?_;rintro e w' ⟨v,h',X2,h1,h2,h3,t2⟩;exact⟨v,h',X2,h1,h2,h3,t.trans t2⟩
end
end Go.Vo
