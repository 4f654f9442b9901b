/-
  Functions of the chapter, as plain functions of what they are given; no condition.
-/
import Derived.Test.YtdjcggcjlphdoaaGreatDoorVdP54
import Derived.Test.YtdjcggcjlphdoaaGreatDoorVcP54
import Derived.Test.YtdjcggcjlphdoaaGreatDoorVoP64
import Derived.Test.YtdjcggcjlphdoaaGreatDoorVaP54
set_option maxRecDepth 100000
set_option linter.unusedSimpArgs false
set_option linter.unusedVariables false
set_option maxHeartbeats 4000000
namespace Go.Proofs.YtdjcggcjlphdoaaGreatDoor
open Go Go.Vo
open Nat (reduceAdd reduceSub reduceMul reduceLeDiff reduceLT reduceEqDiff)
open Int (reduceNeg)
def uN(w:kP):List AV:=[avu w.u,.sl (w.tk.map .b) w.tk.length]
def bDa(l:List kP):AV:=.sl (l.flatMap uN) l.length
theorem aPx(w:kP):(uN w).length=2:=rfl
theorem aRq(w:kP):persL (uN w)=true:=by rw[uN,persL,aJi,Bool.true_and,persL,aB];exact⟨zK,rfl⟩
theorem uT{l:List kP}:persL (l.flatMap uN)=true:=lT fun x _=>aRq x
theorem aBv{l:List kP}:(l.flatMap uN).length=l.length*2:=pW aPx l
theorem bHl{l:List kP}{k:Nat}(h:k<l.length):((l.flatMap uN).drop (k*2)).take 2=uN (l.getD k default):=by
 rw[sD aPx];simp[h,List.getD]
theorem bZx{l:List Bool}{k:Nat}(h:k<l.length):(l.map AV.b)[k]? = some (.b (l.getD k false)):=by
 rw[eL,bQ h,eY,bQ h];rfl
attribute [go_sem] bHl aBv uT aRq bZx
theorem bJb(l:List kP):pers (bDa l)=true:=uT
def bNd(s:dF)(n:Nat)(p:LTerm):Prop:=
 ∀(t:LTerm) (l:List LSub) (m:Nat),OkN t→fN s t=true→nodesT t≤1000000→tD m l→nP l→l.length≤1000→m+nodesT p≤1000000 →
  aFs Tryz.prog G0 103 [.agg [cD s],avw l,elT p,elT t] (avw (dX s n p t l false).1) (dX s n p t l false).2 wK
theorem F2:∀{ks:List LTerm} {tk:List Bool} {x:LTerm},x∈leftOf ks tk→x∈ks
 |a :: b::l,y::tk,x,h=>by
  rw[leftOf]at h;split at h
  ·exact fV _ (fV _ (F2 h))
  ·rcases dD.1 h with rfl|h
   ·simp
   ·rcases dD.1 h with rfl|h
    ·simp
    ·exact fV _ (fV _ (F2 h))
 | [],_,x,h=>by simp[leftOf]at h
 | [a],_,x,h=>by simp[leftOf]at h
 |a::b::l,[],x,h=>by simp[leftOf]at h
theorem aPo{t:LTerm}{m:Nat}{w:kP}(hu:OkU m w.u)(hl:t.kids.length=2*w.tk.length):OkW t m (jE t.kids w):=by
 have h1:=xT hl;have h2:=aVi (k:=w.tk.length) (tk:=w.tk);refine⟨hu,?_,fun x hx=>F2 hx,?_⟩
 ·show(leftOf t.kids w.tk).length % 2=0;omega
 ·show(leftOf t.kids w.tk).length≤_;omega
theorem bUm{i:Nat}{tk:List Bool}(hi:i<tk.length)(hx:tk.getD i false=false):cntF i tk+1≤cntF tk.length tk:=by
 have h1:=yH hi;rw[hx,if_neg (by simp)]at h1;have mono:∀j,i+1+j≤tk.length→cntF (i+1) tk≤cntF (i+1+j) tk:=by
  intro j;induction j with
  |zero=>intro _;exact bT _
  |succ j ih=>intro hj;have:=yH (k:=i+1+j) (tk:=tk) (by omega);have:=ih (by omega);rw[show i+1+(j+1)=i+1+j+1 by omega];omega
 have:=mono (tk.length-(i+1)) (by omega);rw[show i+1+(tk.length-(i+1))=tk.length by omega]at this;omega
section
variable {A:AF} {s:dF} {key value t:LTerm}
theorem aCz{m:Nat}{w:kP}{b:Bool}(hA:AOk A value)(hu:OkU m w.u)(hl:t.kids.length=2*w.tk.length)(ht:OkN t){i:Nat}(hi:i≤w.tk.length):(kT A s key value t.kids w i b).1.length≤w.tk.length*1000:=by
 have e:=J0 (A:=A) (s:=s) (key:=key) (value:=value) (b:=b) hl hi;have hw:=aPo hu hl;have h1:=xT hl;have mono:cntF i w.tk≤cntF w.tk.length w.tk:=by
  have m1:∀j,i+j≤w.tk.length→cntF i w.tk≤cntF (i+j) w.tk:=by
   intro j;induction j with
   |zero=>intro _;exact bT _
   |succ j ih=>intro hj;have:=yH (k:=i+j) (tk:=w.tk) (by omega);have:=ih (by omega);rw[show i+(j+1)=i+j+1 by omega];omega
  have:=m1 (w.tk.length-i) (by omega);rwa[show i+(w.tk.length-i)=w.tk.length by omega]at this
 have h2:=(Z7 (s:=s) (key:=key) hA hw ht (cntF i w.tk) b (by show 2*cntF i w.tk≤(leftOf t.kids w.tk).length;omega)).2;rw[← e]at h2;simp only[cZ]at h2;have:=aVi (k:=w.tk.length) (tk:=w.tk);have h3:cntF i w.tk*1000≤w.tk.length*1000:=by omega
 omega
theorem S9(hA:vO A){w:kP}{b:Bool}{i:Nat}(h:(kT A s key value t.kids w i b).2=true):∀j,(kT A s key value t.kids w (i+j) b).2=true
 |0=>h
 |j + 1=>by
  have ih:=S9 hA h j;rw[show i+(j+1)=i+j+1 by omega,kT];split
  ·exact ih
  ·show(xQ A s key value _ _ _).2=true;rw[ih];exact hA _ _ _
theorem aRy(hA:vO A){w:kP}{b:Bool}{i:Nat}(hi:i≤w.tk.length)(h:(kT A s key value t.kids w i b).2=true):(kT A s key value t.kids w w.tk.length b).2=true:=by
 have:=S9 hA h (w.tk.length-i);rwa[show i+(w.tk.length-i)=w.tk.length by omega]at this
theorem aZm{w:kP}{i:Nat}{b:Bool}(hl:t.kids.length=2*w.tk.length)(hi:i<w.tk.length)(hx:w.tk.getD i false=false){l0:List LSub}
 (h0:l0=match mD key w.u with|none=>kG s key (t.kids.getD (2*i) default) w.u|some a=>if a=t.kids.getD (2*i) default then [w.u]else []) :
 P3 A s key value t.kids w i b=((A value (t.kids.getD (2*i+1) default) l0 b).1.map fun v=>⟨v,w.tk.set i true⟩,(A value (t.kids.getD (2*i+1) default) l0 b).2):=by
 obtain⟨a1,a2,_⟩:=left_at hl hi hx;have hs:mO s key (jE t.kids w) (cntF i w.tk)=l0:=by
  rw[h0];cases hK:mD key w.u with
  |none=>rw[R4 (w:=jE t.kids w) hK];dsimp only[jE];rw[a1]
  |some a=>rw[R3 (w:=jE t.kids w) hK];simp only[jE,a1]
 rw[P3,xQ,hs];dsimp only[jE];rw[a2,List.map_map];rfl
end
theorem Y3{pre g:List AObj}{i n sz:Nat}{fz:Bool}{cells:List AV}(hi:g[i]? = some (.arr fz sz cells))(hl:cells.length=n*sz)(hp:persL cells=true) :
 gJ dep (pre++g) (.hs (i+pre.length) 0 n false)=.sl cells n∧Vo.freeze (eB dep (pre++g) (.hs (i+pre.length) 0 n false)) (pre++g)=pre++g.modify i AObj.fz:=by
 have hlt:=bH hi;have hg:(pre++g)[i+pre.length]? = some (.arr fz sz cells):=by
  rw[aN (by omega)];simpa using hi
 have hd:(cells.drop 0).take (n*sz)=cells:=by rw[bA,aS (by omega)]
 have he:cells.all aKw=true:=by
  rw[bF];intro a ha;obtain⟨j,hj⟩:=cU.1 ha;have:=iE hp j a hj;cases a<;>first|rfl|exact this
 refine⟨?_,?_⟩
 ·simp only[fS,pers,rQ,hg,hd,hp,if_true,aE,if_false];rw[if_pos (by omega)]
 ·rw[E6,hg];simp only[hsQ,he,if_true,Vo.freeze];apply oK;intro j;by_cases hj:j<pre.length
  ·rw[fW,aG hj,aG hj];have:¬i+pre.length=j:=by omega
   simp[this]
  ·rw[fW,aN (by omega),aN (by omega),fW];have:(i+pre.length=j)=(i=j-pre.length):=propext ⟨fun h=>by omega,fun h=>by omega⟩;simp only[this]
theorem wJ{g:List AObj}{x:AObj}:(g++[x]).modify g.length AObj.fz=g++[x.fz]:=by
 apply oK;intro j;rw[fW];rcases Nat.lt_trichotomy j g.length with h|h|h
 ·rw[aG h,aG h];have:¬g.length=j:=by omega
  simp[this]
 ·subst h;simp
 ·rw[iA (by simp;omega),iA (by simp;omega)];rfl
theorem aCb{tk:List Bool}{i:Nat}(h:i<tk.length):(tk.take i).map AV.b++.b true::(tk.drop (i+1)).map AV.b=(tk.set i true).map .b:=by
 rw[List.set_eq_take_append_cons_drop,if_pos h];simp
theorem bQr(s : dF)(n:Nat)(key value t:LTerm)(w:kP)(m:Nat)(hm:Small s)(hA:bNd s n value)(ht:OkN t)(hpl:∀x∈t.kids,fN s x=true)(hnk:∀x∈t.kids,nodesT x≤1000000)(htl:t.kids.length≤1000000)(hkk:OkT key)(hu:OkU m w.u)(ha:AscU w.u)(hl:t.kids.length=2*w.tk.length)(hmm:m+1+nodesT value≤1000000): aFs Tryz.prog G0 260 [.agg [cD s],.agg (uN w),elT key,elT value,elT t] (bDa (kT (dX s n) s key value t.kids w w.tk.length false).1) (kT (dX s n) s key value t.kids w w.tk.length false).2 wK:=by
 refine kY (rx:=true) (th:=fun i=>if i=16 then some ⟨none,[],false,false,true,[],[],1000⟩else if i=21 then some ⟨none,[],false,false,true,[],[],1000⟩else none) cI Tryz.func260 rfl (by kernel_rfl) (by kernel_rfl) (ac:=?_) ?_ g0 ?_;rotate_left
 ·simp only[strip,lA,eH,kZ,RX.off,ckF,ckX,zOf,exd,vOf,aD,aC,aY,aX,aF,Bool.and_true,Bool.and_false,aF,bP,bR,dI,fD,aW,bE,aJ,aH,dO,anyPre,Region.binds,Bool.not_true,Bool.not_false,aE,if_true,if_false,aP,aO,Bool.true_and,Bool.false_and,aT,aK,aD,aC,List.append_nil,aLl,wG,sS,rZ,cN,bY,bU,aF,aY,aX,cV,beq_self_eq_true,fI,Nat.reduceBEq,rA,pV,qW,jY,aHl,fC,gR,bP,dW,X9,X8,↓reduceIte,Nat.reduceEqDiff,Nat.reduceBEq,mR,nW,oP,splitK,wM,E0,aC,fC,gR,Bool.not_true,Bool.not_false,Bool.and_true,Bool.true_and,Bool.and_false,aY,aX];rfl
 ·simp -implicitDefEqProofs (disch:=omega) only[Tryz.f260,go_sem,List.replicate,simprocAttr,uN,avu,elT,aI];have c0:=aUy w.u key.text ha (by have:=hu.1;omega);refine bDw (rp 12 .k (.v (.b (mD key w.u).isNone)::.j::(rp 12 .k (rp 10 .j (rp 65 .k []))))) (.box false [cD s]::.box false (uN w)::.box false (tmC key)::.box false (tmC value)::.box false (tmC t)::.box false [.i .i64 (((mD key w.u).getD zT)).kind,.i .i64 (((mD key w.u).getD zT)).n,.s (((mD key w.u).getD zT)).text,.s (((mD key w.u).getD zT)).sort,.sl ((((mD key w.u).getD zT)).kids.flatMap aM) (((mD key w.u).getD zT)).kids.length,.sl ((((mD key w.u).getD zT)).rest.flatMap aM) (((mD key w.u).getD zT)).rest.length]::[]) ?_ ?_
  ·by_cases h6:key.kind=6
   ·have hko:mD key w.u=mOf w.u key.text:=if_pos h6;cases hO:mOf w.u key.text with
    |none=>
     rw[hO,sX,elT,aI]at c0;simp -implicitDefEqProofs (disch:=omega) only[zt h6,avu,hko,hO,uN,aP,jT,go_sem,simprocAttr];(repeat'(first|refine gT ?_ ?_|refine gF ?_ ?_|refine gC ?_ ?_|((refine bM (c0) ?_ ?_;(focus(simp -implicitDefEqProofs (disch:=omega) only[zt h6,avu,hko,hO,uN,aP,jT,zdB,go_sem,simprocAttr];done)));simp -implicitDefEqProofs (disch:=omega) only[zt h6,avu,hko,hO,uN,aP,jT,go_sem,simprocAttr])|refine aU (by omega) ?_|(intro hr;have hc:=hr;(try simp only[zdz]at hc);simp -implicitDefEqProofs (disch:=omega) only[hr,zt h6,avu,hko,hO,uN,aP,jT,go_sem,simprocAttr];(try clear hr))));all_goals rfl
    |some a=>
     rw[hO,sX,elT,aI]at c0;simp -implicitDefEqProofs (disch:=omega) only[zt h6,avu,hko,hO,uN,aO,eC,go_sem,simprocAttr];(repeat'(first|refine gT ?_ ?_|refine gF ?_ ?_|refine gC ?_ ?_|((refine bM (c0) ?_ ?_;(focus(simp -implicitDefEqProofs (disch:=omega) only[zt h6,avu,hko,hO,uN,aO,eC,zdB,go_sem,simprocAttr];done)));simp -implicitDefEqProofs (disch:=omega) only[zt h6,avu,hko,hO,uN,aO,eC,go_sem,simprocAttr])|refine aU (by omega) ?_|(intro hr;have hc:=hr;(try simp only[zdz]at hc);simp -implicitDefEqProofs (disch:=omega) only[hr,zt h6,avu,hko,hO,uN,aO,eC,go_sem,simprocAttr];(try clear hr))));all_goals rfl
   ·have hko:mD key w.u=some key:=if_neg h6;simp -implicitDefEqProofs (disch:=omega) only[zf h6,hko,uN,avu,aO,eC,go_sem,simprocAttr]
  intro j2;simp -implicitDefEqProofs (disch:=omega) only[uN,avu,go_sem,simprocAttr];have hBo:∀a,mD key w.u=some a→(mD key w.u).getD zT=a:=fun a h=>by rw[h];rfl
  generalize (mD key w.u).getD zT=B at *
  refine cO (fun(q:Nat×AV×List AObj)=>(rp 14 .k (.v (q.2.1)::.j::.j::.j::.j::.k::.j::.j::(rp 17 .k (.v (.i .i64 (q.1:Nat))::(rp 60 .j [.k])))))) (fun q=>(.box false [cD s]::.box false [.sl (w.u.flatMap prT) w.u.length,.sl (w.tk.map .b) w.tk.length]::.box false (tmC key)::.box false (tmC value)::.box false (tmC t)::.box false (tmC B)::q.2.2)) (fun q=>q.1≤w.tk.length∧(kT (dX s n) s key value t.kids w q.1 false).2=false∧gD 2 6 q.2.2 q.2.1 ((kT (dX s n) s key value t.kids w q.1 false).1.flatMap uN) (kT (dX s n) s key value t.kids w q.1 false).1.length) (fun q=>w.tk.length-q.1) ((0,.e0,[])) ⟨aR _,rfl,eX⟩ rfl (by simp[fO]) ?_;rintro⟨i,out,g⟩ j ⟨hi,hb,ho⟩;dsimp only at hi hb ho;by_cases hlt:i<w.tk.length
  ·have hii:(i:Int)<((w.tk.length:Nat):Int):=by omega
   have hit:2*i<t.kids.length:=by omega
   have hit':2*i+1<t.kids.length:=by omega
   have hm0:=cC (d:=default) hit;have hm1:=cC (d:=default) hit';have h2i:((2:Int)*(i:Int)).toNat=2*i:=by omega
   have h2i':((2:Int)*(i:Int)+1).toNat=2*i+1:=by omega
   have hNl:=aCz (A:=dX s n) (s:=s) (key:=key) (value:=value) (b:=false) (mQ n value) hu hl ht hi;have hst:=W1 (s:=s) (key:=key) (aPo hu hl) ht (k:=cntF i w.tk);cases hx:w.tk.getD i false with
   |true=>
    have e:kT (dX s n) s key value t.kids w (i+1) false=kT (dX s n) s key value t.kids w i false:=by rw[kT,if_pos hx]
    simp -implicitDefEqProofs (disch:=omega) only[zt hii,hx,go_sem,simprocAttr];repeat refine aU (by omega) ?_
    refine⟨(i+1,out,_),⟨by dsimp only;omega,by dsimp only;rw[e];exact hb,by dsimp only;rw[e];exact ho.more _⟩,by dsimp only;omega,rfl,?_⟩;simp
   |false =>
    have e:kT (dX s n) s key value t.kids w (i+1) false=((kT (dX s n) s key value t.kids w i false).1++(P3 (dX s n) s key value t.kids w i false).1,(P3 (dX s n) s key value t.kids w i false).2):=by
     rw[kT,if_neg (by rw[hx];simp),hb]
    have hend:=fun h=>aRy (A:=dX s n) (s:=s) (key:=key) (value:=value) (t:=t) (w:=w) (b:=false) (i:=i+1) (aPb n) (by omega) h;rw[e]at hend;have e1:=fun l0 h=>aZm (A:=dX s n) (s:=s) (key:=key) (value:=value) (t:=t) (w:=w) (i:=i) (b:=false) hl hlt hx (l0:=l0) h;generalize hN:kT (dX s n) s key value t.kids w i false=N at *
    obtain⟨NL,bN⟩:=N;dsimp only at ho e hNl hb hend;subst hb;cases hK:mD key w.u with
    |none=>
     have h6:key.kind=6:=by
      by_cases h:key.kind=6
      ·exact h
      ·rw[mD,if_neg h]at hK;cases hK
     have ck:=aAb s [w.u] key (t.kids.getD (2*i) default) m hm (by simp) (fun u h=>by rw[bJ.1 h];exact hu) (fun u h=>by rw[bJ.1 h];exact ha) (by omega) hkk (ht.kid hm0).1 (by omega) (by omega) (by omega);have hb0:[w.u].flatMap (gZ s key (t.kids.getD (2*i) default))=kG s key (t.kids.getD (2*i) default) w.u:=by rw[List.flatMap_cons,List.flatMap_nil,List.append_nil,gZ,if_pos h6]
     rw[hb0]at ck;simp only[hK];simp -implicitDefEqProofs (disch:=omega) only[zt hii,hx,h2i,aP,Bool.not_true,go_sem,simprocAttr];repeat refine aU (by omega) ?_
     refine aAi (fun fz=>.box false [cD s]::.box false [.sl (w.u.flatMap prT) w.u.length,.sl (w.tk.map .b) w.tk.length]::.box false (tmC key)::.box false (tmC value)::.box false (tmC t)::.box false (tmC B)::(g++[.box false [.i .i64 ((t.kids.getD (2*i) default)).kind,.i .i64 ((t.kids.getD (2*i) default)).n,.s ((t.kids.getD (2*i) default)).text,.s ((t.kids.getD (2*i) default)).sort,.sl (((t.kids.getD (2*i) default)).kids.flatMap aM) ((t.kids.getD (2*i) default)).kids.length,.sl (((t.kids.getD (2*i) default)).rest.flatMap aM) ((t.kids.getD (2*i) default)).rest.length],.arr fz 1 [.sl (w.u.flatMap prT) w.u.length]])) (aUw wK ck) (fun H=>rfl) ?_ rfl ?_ (fun h=>by cases h) ?_
     ·simp -implicitDefEqProofs (disch:=omega) only[avw,avu,elT,aI,cD,go_sem,simprocAttr]
     ·simp -implicitDefEqProofs (disch:=omega) only[go_sem,simprocAttr]
     intro fz0 _;simp -implicitDefEqProofs (disch:=omega) only[avw,go_sem,simprocAttr];obtain⟨ok0,oa0,ol0⟩:tD (m+1) (kG s key (t.kids.getD (2*i) default) w.u)∧nP (kG s key (t.kids.getD (2*i) default) w.u)∧(kG s key (t.kids.getD (2*i) default) w.u).length≤1000:=⟨aAm hu (ht.kid hm0).1,F4 ha,by have:=yN (s:=s) (v:=key) (t:=t.kids.getD (2*i) default) (u:=w.u);omega⟩;have hP:=e1 (kG s key (t.kids.getD (2*i) default) w.u) (by rw[hK]);have cA:=hA (t.kids.getD (2*i+1) default) (kG s key (t.kids.getD (2*i) default) w.u) (m+1) (ht.kid hm1) (hpl _ hm1) (hnk _ hm1) ok0 oa0 ol0 hmm;have hRl:=(mQ (s:=s) n value (t.kids.getD (2*i+1) default) (kG s key (t.kids.getD (2*i) default) w.u) false (m+1) (ht.kid hm1) ok0 ol0).2;rw[hP]at e hend;dsimp only at e hend;generalize hR:dX s n value (t.kids.getD (2*i+1) default) (kG s key (t.kids.getD (2*i) default) w.u) false=R at *
     refine aFb (rx:=.off) (N:=⟨0,[]⟩) cI 10 2 82 (.int .i64 0) _ rfl (by kernel_rfl) rfl rfl rfl rfl (al:=?_) (al2:=?_) ?_ ?_ (fun v e e' h k=>k) ?_;rotate_left 2
     ·simp only[strip,lA,eH,kZ,RX.off,ckF,ckX,zOf,exd,vOf,aD,aC,aY,aX,aF,Bool.and_true,Bool.and_false,aF,bP,bR,dI,fD,aW,bE,aJ,aH,dO,anyPre,Region.binds,Bool.not_true,Bool.not_false,aE,if_true,if_false,aP,aO,Bool.true_and,Bool.false_and,aT,aK,aD,aC,List.append_nil,aL,bK,aQ,bA,Nat.reduceAdd];rfl
     ·simp only[strip,lA,eH,kZ,RX.off,ckF,ckX,zOf,exd,vOf,aD,aC,aY,aX,aF,Bool.and_true,Bool.and_false,aF,bP,bR,dI,fD,aW,bE,aJ,aH,dO,anyPre,Region.binds,Bool.not_true,Bool.not_false,aE,if_true,if_false,aP,aO,Bool.true_and,Bool.false_and,aT,aK,aD,aC,List.append_nil,aL,bK,aQ,bA,Nat.reduceAdd];rfl
     simp -implicitDefEqProofs (disch:=omega) only[h2i',go_sem,simprocAttr];repeat refine aU (by omega) ?_
     refine aAi (fun _=>.box false [cD s]::.box false [.sl (w.u.flatMap prT) w.u.length,.sl (w.tk.map .b) w.tk.length]::.box false (tmC key)::.box false (tmC value)::.box false (tmC t)::.box false (tmC B)::(g++[.box false [.i .i64 ((t.kids.getD (2*i) default)).kind,.i .i64 ((t.kids.getD (2*i) default)).n,.s ((t.kids.getD (2*i) default)).text,.s ((t.kids.getD (2*i) default)).sort,.sl (((t.kids.getD (2*i) default)).kids.flatMap aM) ((t.kids.getD (2*i) default)).kids.length,.sl (((t.kids.getD (2*i) default)).rest.flatMap aM) ((t.kids.getD (2*i) default)).rest.length],.arr fz0 1 [.sl (w.u.flatMap prT) w.u.length]])) cA (fun H=>rfl) ?_ rfl ?_ (fun hb=>⟨hend hb,rfl⟩) ?_
     ·simp -implicitDefEqProofs (disch:=omega) only[avw,avu,elT,aI,cD,go_sem,simprocAttr]
     ·simp -implicitDefEqProofs (disch:=omega) only[go_sem,simprocAttr]
     intro fz hb1;simp -implicitDefEqProofs (disch:=omega) only[avw,go_sem,simprocAttr];refine cO (fun(q:Nat×AV×List AObj)=>(rp 14 .k (.v (q.2.1)::(rp 5 .k (.j::.j::(rp 60 .k (.v (.i .i64 (q.1:Nat))::(rp 16 .j [.k,.k])))))))) (fun q=>(.box false [cD s]::.box false [.sl (w.u.flatMap prT) w.u.length,.sl (w.tk.map .b) w.tk.length]::.box false (tmC key)::.box false (tmC value)::.box false (tmC t)::.box false (tmC B)::q.2.2)) (fun q=>q.1≤R.1.length∧gD 2 6 q.2.2 q.2.1 ((NL++(R.1.take q.1).map fun v=>(⟨v,w.tk.set i true⟩:kP)).flatMap uN) (NL++(R.1.take q.1).map fun v=>(⟨v,w.tk.set i true⟩:kP)).length) (fun q=>R.1.length-q.1) ((0,out,_)) ⟨aR _,by simpa using ho.more _⟩ rfl (by simp[fO]) ?_;rintro⟨c,out3,g3⟩ j4 ⟨hc5,ho3⟩;dsimp only at hc5 ho3;by_cases hct:c<R.1.length
     ·have hci:(c:Int)<((R.1.length:Nat):Int):=by omega
      have hX:NL++(R.1.take (c+1)).map (fun v=>(⟨v,w.tk.set i true⟩:kP))=(NL++(R.1.take c).map fun v=>(⟨v,w.tk.set i true⟩:kP))++[⟨R.1.getD c default,w.tk.set i true⟩]:=by
       rw[eZ (d:=default) hct,bO];simp only[cK,aK,aT]
      have hbig:(NL++(R.1.take c).map fun v=>(⟨v,w.tk.set i true⟩:kP)).length≤2000000000000:=by
       rw[List.length_append,cZ,bS];omega
      have hlX:NL.length+(List.take (c+1) R.1).length=(NL++(R.1.take c).map fun v=>(⟨v,w.tk.set i true⟩:kP)).length+1:=by
       simp only[List.length_append,cZ,bS];omega
      have cc:=bFj w.tk (by omega);simp -implicitDefEqProofs (disch:=omega) only[zt hci,avu,go_sem,simprocAttr];repeat refine aU (by omega) ?_
      refine bM cc ?_ ?_
      ·simp -implicitDefEqProofs (disch:=omega) only[go_sem,simprocAttr]
      simp -implicitDefEqProofs (disch:=omega) only[go_sem,simprocAttr];repeat refine aU (by omega) ?_
      rw[aCb hlt];refine aWa 21 rfl ?_;obtain⟨k1,k3⟩:=Y3 (pre:=[.box false [cD s],.box false [.sl (w.u.flatMap prT) w.u.length,.sl (w.tk.map .b) w.tk.length],.box false (tmC key),.box false (tmC value),.box false (tmC t),.box false (tmC B)]) (g:=g3++[.arr false 1 ((w.tk.set i true).map .b)]) (i:=g3.length) (n:=w.tk.length) (fz:=false) (sz:=1) (cells:=(w.tk.set i true).map .b) (by simp) (by simp) zK;rw[wJ]at k3;simp only[aH,aJ,bB,cH,cD,dU,Nat.reduceAdd]at k1 k3;rw[k1,k3];refine V3 (al:=?_) ?_ ?_;rotate_left
      ·simp only[strip,lA,eH,kZ,RX.off,ckF,ckX,zOf,exd,vOf,aD,aC,aY,aX,aF,Bool.and_true,Bool.and_false,aF,bP,bR,dI,fD,aW,bE,aJ,aH,dO,anyPre,Region.binds,Bool.not_true,Bool.not_false,aE,if_true,if_false,aP,aO,Bool.true_and,Bool.false_and,aT,aK,aD,aC,List.append_nil,aL,bK,aQ,bA,Nat.reduceAdd];rfl
      simp -implicitDefEqProofs (disch:=omega) only[List.set,mL,dV,eO,List.append_nil,go_sem,simprocAttr];refine eI (pre:=[.box false [cD s],.box false [.sl (w.u.flatMap prT) w.u.length,.sl (w.tk.map .b) w.tk.length],.box false (tmC key),.box false (tmC value),.box false (tmC t),.box false (tmC B)]) (g:=g3++[.arr true 1 ((w.tk.set i true).map .b)]) (more:=[.arr false 2 ([.sl ((R.1.getD c default).flatMap prT) (R.1.getD c default).length,.sl ((w.tk.set i true).map .b) w.tk.length])]) (news:=[.sl ((R.1.getD c default).flatMap prT) (R.1.getD c default).length,.sl ((w.tk.set i true).map .b) w.tk.length]) (m:=1) ((ho3).more _) rfl (by simp -implicitDefEqProofs (disch:=omega) only[go_sem,simprocAttr]) bBh aXp aYb bCr rfl (by decide) (by simp -implicitDefEqProofs (disch:=omega) only[go_sem,simprocAttr]) (by simp -implicitDefEqProofs (disch:=omega) only[go_sem,simprocAttr]) ⟨by omega,by omega⟩ ?_;intro out' g' ho' _;simp -implicitDefEqProofs (disch:=omega) only[go_sem,simprocAttr];refine⟨(c+1,out',g'),⟨by dsimp only;omega,?_⟩,by dsimp only;omega,rfl,by simp⟩;dsimp only;rw[hX,List.flatMap_append,hlX,List.flatMap_cons,List.flatMap_nil,List.append_nil,uN,List.length_set];exact ho'
     ·have hci:¬(c:Int)<((R.1.length:Nat):Int):=by omega
      rw[aS (by omega)]at ho3;simp -implicitDefEqProofs (disch:=omega) only[zf hci,go_sem,simprocAttr];refine⟨(i+1,out3,g3),⟨by dsimp only;omega,by dsimp only;rw[e];exact hb1,by dsimp only;rw[e];exact ho3⟩,by dsimp only;omega,rfl,?_⟩;simp
    |some a=>
     have haK:OkT a:=by
      rw[mD]at hK;split at hK
      ·exact aKc hu hK
      ·cases hK;exact hkk
     have c3:=aLe B (t.kids.getD (2*i) default) (hBo a hK▸haK) (ht.kid hm0).1;obtain rfl:=hBo a hK;simp only[hK];by_cases hc:B=t.kids.getD (2*i) default
     ·rw[zt hc]at c3
      simp -implicitDefEqProofs (disch:=omega) only[zt hii,hx,h2i,aO,Bool.not_false,go_sem,simprocAttr];repeat refine aU (by omega) ?_
      refine bM c3 ?_ ?_
      ·simp -implicitDefEqProofs (disch:=omega) only[elT,aI,go_sem,simprocAttr]
      simp -implicitDefEqProofs (disch:=omega) only[go_sem,simprocAttr];obtain⟨ok0,oa0,ol0⟩:tD (m+1) ([w.u])∧nP ([w.u])∧([w.u]).length≤1000:=⟨fun u h=>by rw[bJ.1 h];exact hu.mono (by omega),fun u h=>by rw[bJ.1 h];exact ha,by simp⟩;have hP:=e1 ([w.u]) (by rw[hK];simp only[if_pos hc]);have cA:=hA (t.kids.getD (2*i+1) default) ([w.u]) (m+1) (ht.kid hm1) (hpl _ hm1) (hnk _ hm1) ok0 oa0 ol0 hmm;have hRl:=(mQ (s:=s) n value (t.kids.getD (2*i+1) default) ([w.u]) false (m+1) (ht.kid hm1) ok0 ol0).2;rw[hP]at e hend;dsimp only at e hend;generalize hR:dX s n value (t.kids.getD (2*i+1) default) ([w.u]) false=R at *
      refine aFb (rx:=.off) (N:=⟨0,[]⟩) cI 10 2 82 (.int .i64 0) _ rfl (by kernel_rfl) rfl rfl rfl rfl (al:=?_) (al2:=?_) ?_ ?_ (fun v e e' h k=>k) ?_;rotate_left 2
      ·simp only[strip,lA,eH,kZ,RX.off,ckF,ckX,zOf,exd,vOf,aD,aC,aY,aX,aF,Bool.and_true,Bool.and_false,aF,bP,bR,dI,fD,aW,bE,aJ,aH,dO,anyPre,Region.binds,Bool.not_true,Bool.not_false,aE,if_true,if_false,aP,aO,Bool.true_and,Bool.false_and,aT,aK,aD,aC,List.append_nil,aL,bK,aQ,bA,Nat.reduceAdd];rfl
      ·simp only[strip,lA,eH,kZ,RX.off,ckF,ckX,zOf,exd,vOf,aD,aC,aY,aX,aF,Bool.and_true,Bool.and_false,aF,bP,bR,dI,fD,aW,bE,aJ,aH,dO,anyPre,Region.binds,Bool.not_true,Bool.not_false,aE,if_true,if_false,aP,aO,Bool.true_and,Bool.false_and,aT,aK,aD,aC,List.append_nil,aL,bK,aQ,bA,Nat.reduceAdd];rfl
      simp -implicitDefEqProofs (disch:=omega) only[h2i',go_sem,simprocAttr];repeat refine aU (by omega) ?_
      refine aAi (fun fz=>.box false [cD s]::.box false [.sl (w.u.flatMap prT) w.u.length,.sl (w.tk.map .b) w.tk.length]::.box false (tmC key)::.box false (tmC value)::.box false (tmC t)::.box false (tmC B)::(g++[.box false [.i .i64 ((t.kids.getD (2*i) default)).kind,.i .i64 ((t.kids.getD (2*i) default)).n,.s ((t.kids.getD (2*i) default)).text,.s ((t.kids.getD (2*i) default)).sort,.sl (((t.kids.getD (2*i) default)).kids.flatMap aM) ((t.kids.getD (2*i) default)).kids.length,.sl (((t.kids.getD (2*i) default)).rest.flatMap aM) ((t.kids.getD (2*i) default)).rest.length],.arr fz 1 [.sl (w.u.flatMap prT) w.u.length]])) cA (fun H=>rfl) ?_ rfl ?_ (fun hb=>⟨hend hb,rfl⟩) ?_
      ·simp -implicitDefEqProofs (disch:=omega) only[avw,avu,elT,aI,cD,go_sem,simprocAttr]
      ·simp -implicitDefEqProofs (disch:=omega) only[go_sem,simprocAttr]
      intro fz hb1;simp -implicitDefEqProofs (disch:=omega) only[avw,go_sem,simprocAttr];refine cO (fun(q:Nat×AV×List AObj)=>(rp 14 .k (.v (q.2.1)::(rp 5 .k (.j::.j::(rp 60 .k (.v (.i .i64 (q.1:Nat))::(rp 16 .j [.k,.k])))))))) (fun q=>(.box false [cD s]::.box false [.sl (w.u.flatMap prT) w.u.length,.sl (w.tk.map .b) w.tk.length]::.box false (tmC key)::.box false (tmC value)::.box false (tmC t)::.box false (tmC B)::q.2.2)) (fun q=>q.1≤R.1.length∧gD 2 6 q.2.2 q.2.1 ((NL++(R.1.take q.1).map fun v=>(⟨v,w.tk.set i true⟩:kP)).flatMap uN) (NL++(R.1.take q.1).map fun v=>(⟨v,w.tk.set i true⟩:kP)).length) (fun q=>R.1.length-q.1) ((0,out,_)) ⟨aR _,by simpa using ho.more _⟩ rfl (by simp[fO]) ?_;rintro⟨c,out3,g3⟩ j4 ⟨hc5,ho3⟩;dsimp only at hc5 ho3;by_cases hct:c<R.1.length
      ·have hci:(c:Int)<((R.1.length:Nat):Int):=by omega
       have hX:NL++(R.1.take (c+1)).map (fun v=>(⟨v,w.tk.set i true⟩:kP))=(NL++(R.1.take c).map fun v=>(⟨v,w.tk.set i true⟩:kP))++[⟨R.1.getD c default,w.tk.set i true⟩]:=by
        rw[eZ (d:=default) hct,bO];simp only[cK,aK,aT]
       have hbig:(NL++(R.1.take c).map fun v=>(⟨v,w.tk.set i true⟩:kP)).length≤2000000000000:=by
        rw[List.length_append,cZ,bS];omega
       have hlX:NL.length+(List.take (c+1) R.1).length=(NL++(R.1.take c).map fun v=>(⟨v,w.tk.set i true⟩:kP)).length+1:=by
        simp only[List.length_append,cZ,bS];omega
       have cc:=bFj w.tk (by omega);simp -implicitDefEqProofs (disch:=omega) only[zt hci,avu,go_sem,simprocAttr];repeat refine aU (by omega) ?_
       refine bM cc ?_ ?_
       ·simp -implicitDefEqProofs (disch:=omega) only[go_sem,simprocAttr]
       simp -implicitDefEqProofs (disch:=omega) only[go_sem,simprocAttr];repeat refine aU (by omega) ?_
       rw[aCb hlt];refine aWa 21 rfl ?_;obtain⟨k1,k3⟩:=Y3 (pre:=[.box false [cD s],.box false [.sl (w.u.flatMap prT) w.u.length,.sl (w.tk.map .b) w.tk.length],.box false (tmC key),.box false (tmC value),.box false (tmC t),.box false (tmC B)]) (g:=g3++[.arr false 1 ((w.tk.set i true).map .b)]) (i:=g3.length) (n:=w.tk.length) (fz:=false) (sz:=1) (cells:=(w.tk.set i true).map .b) (by simp) (by simp) zK;rw[wJ]at k3;simp only[aH,aJ,bB,cH,cD,dU,Nat.reduceAdd]at k1 k3;rw[k1,k3];refine V3 (al:=?_) ?_ ?_;rotate_left
       ·simp only[strip,lA,eH,kZ,RX.off,ckF,ckX,zOf,exd,vOf,aD,aC,aY,aX,aF,Bool.and_true,Bool.and_false,aF,bP,bR,dI,fD,aW,bE,aJ,aH,dO,anyPre,Region.binds,Bool.not_true,Bool.not_false,aE,if_true,if_false,aP,aO,Bool.true_and,Bool.false_and,aT,aK,aD,aC,List.append_nil,aL,bK,aQ,bA,Nat.reduceAdd];rfl
       simp -implicitDefEqProofs (disch:=omega) only[List.set,mL,dV,eO,List.append_nil,go_sem,simprocAttr];refine eI (pre:=[.box false [cD s],.box false [.sl (w.u.flatMap prT) w.u.length,.sl (w.tk.map .b) w.tk.length],.box false (tmC key),.box false (tmC value),.box false (tmC t),.box false (tmC B)]) (g:=g3++[.arr true 1 ((w.tk.set i true).map .b)]) (more:=[.arr false 2 ([.sl ((R.1.getD c default).flatMap prT) (R.1.getD c default).length,.sl ((w.tk.set i true).map .b) w.tk.length])]) (news:=[.sl ((R.1.getD c default).flatMap prT) (R.1.getD c default).length,.sl ((w.tk.set i true).map .b) w.tk.length]) (m:=1) ((ho3).more _) rfl (by simp -implicitDefEqProofs (disch:=omega) only[go_sem,simprocAttr]) bBh aXp aYb bCr rfl (by decide) (by simp -implicitDefEqProofs (disch:=omega) only[go_sem,simprocAttr]) (by simp -implicitDefEqProofs (disch:=omega) only[go_sem,simprocAttr]) ⟨by omega,by omega⟩ ?_;intro out' g' ho' _;simp -implicitDefEqProofs (disch:=omega) only[go_sem,simprocAttr];refine⟨(c+1,out',g'),⟨by dsimp only;omega,?_⟩,by dsimp only;omega,rfl,by simp⟩;dsimp only;rw[hX,List.flatMap_append,hlX,List.flatMap_cons,List.flatMap_nil,List.append_nil,uN,List.length_set];exact ho'
      ·have hci:¬(c:Int)<((R.1.length:Nat):Int):=by omega
       rw[aS (by omega)]at ho3;simp -implicitDefEqProofs (disch:=omega) only[zf hci,go_sem,simprocAttr];refine⟨(i+1,out3,g3),⟨by dsimp only;omega,by dsimp only;rw[e];exact hb1,by dsimp only;rw[e];exact ho3⟩,by dsimp only;omega,rfl,?_⟩;simp
     ·rw[zf hc]at c3;have hP:=e1 [] (by rw[hK];simp only[if_neg hc]);rw[hP,aMj n]at e;dsimp only at e;rw[aT,List.append_nil]at e;simp -implicitDefEqProofs (disch:=omega) only[zt hii,hx,h2i,aO,Bool.not_false,go_sem,simprocAttr];repeat refine aU (by omega) ?_
      refine bM c3 ?_ ?_
      ·simp -implicitDefEqProofs (disch:=omega) only[elT,aI,go_sem,simprocAttr]
      simp -implicitDefEqProofs (disch:=omega) only[go_sem,simprocAttr];refine⟨(i+1,out,_),⟨by dsimp only;omega,by dsimp only;rw[e],by dsimp only;rw[e];exact ho.more _⟩,by dsimp only;omega,rfl,?_⟩;simp
  ·have hii:¬(i:Int)<((w.tk.length:Nat):Int):=by omega
   obtain rfl:i=w.tk.length:=by omega
   have hf:=bFd (pre:=[.box false [cD s],.box false [.sl (w.u.flatMap prT) w.u.length,.sl (w.tk.map .b) w.tk.length],.box false (tmC key),.box false (tmC value),.box false (tmC t),.box false (tmC B)]) ho uT;simp -implicitDefEqProofs (disch:=omega) only[zf hii,go_sem,simprocAttr];exact⟨hb,hf⟩
section
variable (A:AF) (s:dF)
def oR(ks:List LTerm)(key value:LTerm)(ws:List kP)(b:Bool):List kP×Bool:=if 1000<(jM A s key value ks ws b).1.length then([],true)else jM A s key value ks ws b
def oE(ks:List LTerm)(p:LTerm):Nat→List kP×Bool→List kP×Bool
 |0,r=>r
 |k+1,r=>oR A s ks (p.kids.getD (2*k) default) (p.kids.getD (2*k+1) default) (oE ks p k r).1 (oE ks p k r).2
end
structure OkH(t:LTerm)(m:Nat)(w:kP):Prop where
 u:OkU m w.u
 asc:AscU w.u
 len:t.kids.length=2*w.tk.length
theorem OkH.mono{t:LTerm}{m m':Nat}{w:kP}(h:OkH t m w)(hm:m≤m'):OkH t m' w:=⟨h.u.mono hm,h.asc,h.len⟩
section
variable {A:AF} {s:dF} {key value t:LTerm} {m:Nat}
theorem T0:∀{ws:List kP} {b:Bool} {k:Nat},k<ws.length →
 jM A s key value t.kids (ws.take (k+1)) b=((jM A s key value t.kids (ws.take k) b).1++(kT A s key value t.kids (ws.getD k default) (ws.getD k default).tk.length (jM A s key value t.kids (ws.take k) b).2).1,(kT A s key value t.kids (ws.getD k default) (ws.getD k default).tk.length (jM A s key value t.kids (ws.take k) b).2).2)
 |w::ws,b,0,_=>by simp[jM]
 |w::ws,b,k+1,h=>by
  rw[aL,jM,T0 (by simpa using h),aL,jM,cK];rfl
 | [],_,_,h=>by simp at h
theorem aDc:∀{ws vs:List kP} {b:Bool},jM A s key value t.kids (ws++vs) b=((jM A s key value t.kids ws b).1++(jM A s key value t.kids vs (jM A s key value t.kids ws b).2).1,(jM A s key value t.kids vs (jM A s key value t.kids ws b).2).2)
 | [],vs,b=>by simp[jM]
 |w::ws,vs,b=>by rw[aH,jM,aDc,jM,cK]
theorem aRz(hA:vO A){ws:List kP}{b:Bool}(k:Nat):((jM A s key value t.kids (ws.take k) b).2=true→(jM A s key value t.kids ws b).2=true)∧(jM A s key value t.kids (ws.take k) b).1.length≤(jM A s key value t.kids ws b).1.length:=by
 have e:=aDc (A:=A) (s:=s) (key:=key) (value:=value) (t:=t) (ws:=ws.take k) (vs:=ws.drop k) (b:=b);rw[eQ]at e;rw[e];refine⟨fun h=>?_,by dsimp only;rw[List.length_append];omega⟩;dsimp only;rw[h];exact aGr hA _
theorem aSa(hA:vO A){ws:List kP}{b:Bool}(k:Nat)(h:(jM A s key value t.kids (ws.take k) b).2=true∨1000<(jM A s key value t.kids (ws.take k) b).1.length):(oR A s t.kids key value ws b).2=true:=by
 obtain⟨h1,h2⟩:=aRz (s:=s) (key:=key) (value:=value) (t:=t) (ws:=ws) (b:=b) hA k;rw[oR];split
 ·rfl
 ·rcases h with h|h
  ·exact h1 h
  ·omega
theorem aZl(hA:vO A){ws:List kP}:(oR A s t.kids key value ws true).2=true:=by
 rw[oR];split
 ·rfl
 ·exact aGr hA _
theorem S8(hA:vO A){p:LTerm}{r:List kP×Bool}{k:Nat}(h:(oE A s t.kids p k r).2=true):∀j,(oE A s t.kids p (k+j) r).2=true
 |0=>h
 |j+1=>by
  rw[show k+(j+1)=k+j+1 by omega,oE,S8 hA h j];exact aZl hA
theorem aSc(hA:AOk A value)(hB:aPh A)(ht:OkN t){w:kP}{i:Nat}{b:Bool}(hw:OkH t m w)(hi:i<w.tk.length)(hx:w.tk.getD i false=false):(∀x∈(P3 A s key value t.kids w i b).1,OkH t (m+1+nodesT value) x):=by
 obtain⟨a1,a2,_⟩:=left_at hw.len hi hx;have hk:=bUm hi hx;have hl:=xT hw.len;have hO:=(aUk (s:=s) (key:=key) (k:=cntF i w.tk) (b:=b) hA (aPo hw.u hw.len) ht (by show 2*cntF i w.tk+1<(leftOf t.kids w.tk).length;omega)).1;have hC:=aLz (s:=s) (key:=key) (value:=value) (k:=cntF i w.tk) (b:=b) hB (w:=jE t.kids w) hw.asc;intro x hx;rw[P3]at hx;obtain⟨v,hv,rfl⟩:=dP.1 hx;exact⟨(hO v hv).u,hC v hv,by dsimp only;rw[List.length_set];exact hw.len⟩
theorem J1(hA:AOk A value)(hB:aPh A)(ht:OkN t){w:kP}{b:Bool}(hw:OkH t m w):∀i,i≤w.tk.length→(∀x∈(kT A s key value t.kids w i b).1,OkH t (m+1+nodesT value) x)
 |0,_=>fun x hx=>by cases hx
 |i + 1,hi=>by
  rw[kT];cases hx:w.tk.getD i false with
  |true=>rw[if_pos rfl];exact J1 hA hB ht hw i (by omega)
  |false=>
   rw[if_neg (by simp)];intro x hx2;rcases cJ.1 hx2 with h|h
   ·exact J1 hA hB ht hw i (by omega) x h
   ·exact aSc hA hB ht hw (by omega) hx x h
theorem aDb(hA:AOk A value)(hB:aPh A)(ht:OkN t):∀{ws:List kP} {b:Bool},(∀w∈ws,OkH t m w)→(∀x∈(jM A s key value t.kids ws b).1,OkH t (m+1+nodesT value) x)
 | [],b,h=>fun x hx=>by cases hx
 |w::ws,b,h=>by
  rw[jM];intro x hx;rcases cJ.1 hx with h1|h1
  ·exact J1 hA hB ht (h w (by simp)) _ (bT _) x h1
  ·exact aDb hA hB ht (fun v hv=>h v (by simp[hv])) x h1
theorem aRx(hA:AOk A value)(hB:aPh A)(ht:OkN t){ws:List kP}{b:Bool}(h:∀w∈ws,OkH t m w):(∀x∈(oR A s t.kids key value ws b).1,OkH t (m+1+nodesT value) x)∧(oR A s t.kids key value ws b).1.length≤1000:=by
 rw[oR];split
 ·exact⟨fun x hx=>(by cases hx),by simp⟩
 ·exact⟨aDb hA hB ht h,by omega⟩
theorem aNn{ws:List kP}{b:Bool}(h:∀w∈ws,OkH t m w):((oR A s t.kids key value ws b).1.map (jE t.kids),(oR A s t.kids key value ws b).2)=nJ A s key value (ws.map (jE t.kids)) b:=by
 have e:=aDa (A:=A) (s:=s) (key:=key) (value:=value) (ks:=t.kids) (ws:=ws) (b:=b) (fun w hw=>(h w hw).len);have e1:(jM A s key value t.kids ws b).1.length=(lE A s key value (ws.map (jE t.kids)) b).1.length:=by rw[← e];simp
 rw[oR,nJ,← e1];split
 ·rfl
 ·exact e
theorem aJn(hB:aPh A)(ht:OkN t){p:LTerm}(hA:∀q∈p.kids,AOk A q){r:List kP×Bool}(h:∀w∈r.1,OkH t m w)(hl:r.1.length≤1000):∀k,2*k≤p.kids.length→(∀x∈(oE A s t.kids p k r).1,OkH t (m+nodesL (p.kids.take (2*k))) x)∧(oE A s t.kids p k r).1.length≤1000∧((oE A s t.kids p k r).1.map (jE t.kids),(oE A s t.kids p k r).2)=lX A s p k (r.1.map (jE t.kids),r.2)
 |0,_=>⟨fun x hx=>(h x hx).mono (by omega),hl,rfl⟩
 |k+1,hk=>by
  obtain⟨a1,a2,a3⟩:=aJn hB ht hA h hl k (by omega);have e:=uX (l:=p.kids) (k:=k) (by omega);have hn:1≤nodesT (p.kids.getD (2*k) default):=by rw[gA];omega
  have hv:=hA _ (cC (d:=default) (k:=2*k+1) (l:=p.kids) (by omega));obtain⟨b1,b2⟩:=aRx (s:=s) (key:=p.kids.getD (2*k) default) (b:=(oE A s t.kids p k r).2) hv hB ht a1;rw[oE,lX,← a3];exact⟨fun x hx=>(b1 x hx).mono (by omega),b2,aNn a1⟩
end
theorem bYy{P:Program}{G:Glob}{f:FuncId}{A:List AV}{r:AV}(c:Ctr P G f A r):Ctr P G f A .u:=
 ⟨c.1,c.2.1,fun F w vs a b d e=>(c.2.2 F w vs a b d e).mono (fun e w' ⟨v,F',bs,h1,h2,h3,h4,h5,h6,h7,h8⟩=>⟨v,F',[],h1,h2,h3,h4,h5,⟨rfl,.u v⟩,eM,by simp⟩)⟩
theorem aUx(l:List kP): aFs Tryz.prog G0 261 [bDa l] (bDa l) (decide (1000<l.length)) wK:=by
 refine kY (rx:=false) (th:=fun _=>none) cI Tryz.func261 rfl (by kernel_rfl) (by kernel_rfl) (ac:=?_) ?_ g0 ?_;rotate_left
 ·simp only[strip,lA,eH,kZ,RX.off,ckF,ckX,zOf,exd,vOf,aD,aC,aY,aX,aF,Bool.and_true,Bool.and_false,aF,bP,bR,dI,fD,aW,bE,aJ,aH,dO,anyPre,Region.binds,Bool.not_true,Bool.not_false,aE,if_true,if_false,aP,aO,Bool.true_and,Bool.false_and,aT,aK,aD,aC,List.append_nil];rfl
 ·simp -implicitDefEqProofs (disch:=omega) only[Tryz.f261,go_sem,List.replicate,simprocAttr,bDa];by_cases h:(1000:Int)<((l.length:Nat):Int)
  ·have h':1000<l.length:=by omega
   simp -implicitDefEqProofs (disch:=omega) only[zt h,go_sem,simprocAttr];(repeat'(first|refine gT ?_ ?_|refine gF ?_ ?_|refine gC ?_ ?_|refine aU (by omega) ?_|(intro hr;have hc:=hr;(try simp only[zdz]at hc);simp -implicitDefEqProofs (disch:=omega) only[hr,zt h,go_sem,simprocAttr];(try clear hr))));simp -implicitDefEqProofs only[Tryz.underlying138,go_sem];exact zt h'
  ·have h':¬1000<l.length:=by omega
   simp -implicitDefEqProofs (disch:=omega) only[zf h,go_sem,simprocAttr];(repeat'(first|refine gT ?_ ?_|refine gF ?_ ?_|refine gC ?_ ?_|refine aU (by omega) ?_|(intro hr;have hc:=hr;(try simp only[zdz]at hc);simp -implicitDefEqProofs (disch:=omega) only[hr,zf h,go_sem,simprocAttr];(try clear hr))));exact⟨zf h',.inl ⟨rfl,bJb l⟩⟩
theorem bRi(l:List kP):aFs Tryz.prog G0 261 [bDa l] .u (decide (1000<l.length)) wK:=⟨fun h=>bYy ((aUx l).1 h),(aUx l).2⟩
theorem R7{t:LTerm}{so:Str}(h:qA t so=true):t.rest=[]∨∃r,t.rest=[r]∧r.kind=6:=by
 simp only[qA,cM,aB,decide_eq_true_eq]at h;rcases h with h|⟨⟨⟨⟨h1,h2⟩,_⟩,_⟩,_⟩
 ·exact .inl (List.eq_nil_of_length_eq_zero h)
 ·match hr:t.rest with
  | [r]=>rw[hr]at h2;exact .inr ⟨r,rfl,h2⟩
  | []=>rw[hr]at h1;cases h1
  |_::_::_=>rw[hr]at h1;simp at h1
theorem bIh{p:LTerm}(h:OkN p)(hk:p.kind=7∨p.kind=8):p.rest=[]∨∃r,p.rest=[r]∧r.kind=6:=by
 have e:=(nF.1 h.2).1;rw[dQ]at e;rcases hk with hk|hk
 ·simp only[hk,(by decide:¬(7:Int)=1),(by decide:¬(7:Int)=2),(by decide:¬(7:Int)=3),(by decide:¬(7:Int)=4),(by decide:¬(7:Int)=5),(by decide:¬(7:Int)=6),if_false,if_true,aB]at e;exact R7 e.1
 ·simp only[hk,(by decide:¬(8:Int)=1),(by decide:¬(8:Int)=2),(by decide:¬(8:Int)=3),(by decide:¬(8:Int)=4),(by decide:¬(8:Int)=5),(by decide:¬(8:Int)=6),(by decide:¬(8:Int)=7),if_false,if_true,aB]at e;exact R7 e.1.1
theorem aDp:∀{ks:List LTerm} {tk:List Bool} {e:Nat},ks.length=2*tk.length→e<tk.length →
 leftOf (ks.take (2*(e+1))) (tk.take (e+1))=leftOf (ks.take (2*e)) (tk.take e)++(if tk.getD e false=true then []else [ks.getD (2*e) default,ks.getD (2*e+1) default])
 |a::b::ks,x::tk,0,hl,he=>by
  simp only[aL,bK,Nat.mul_zero,dU,aXg,gG,eU];cases x<;>simp[leftOf]
 |a::b::ks,x::tk,e+1,hl,he=>by
  have ih:=aDp (ks:=ks) (tk:=tk) (e:=e) (by simp at hl;omega) (by simpa using he);have e1:2*(e+1+1)=2*(e+1)+1+1:=by omega
  have e2:2*(e+1)=2*e+1+1:=by omega
  rw[e1,aL,aL,aL,leftOf,ih];rw[e2,aL,aL,aL,leftOf];simp only[eU];split<;>simp
 | [a],x::tk,_,hl,_=>by simp at hl;omega
 | [],x::tk,_,hl,_=>by simp at hl
 |_,[],_,_,he=>by simp at he
theorem aTb{ks:List LTerm}{tk:List Bool}(hl:ks.length=2*tk.length):leftOf (ks.take (2*tk.length)) (tk.take tk.length)=leftOf ks tk:=by
 rw[← hl,fR,fR]
theorem J9:∀{ks:List LTerm} {tk:List Bool},(leftOf ks tk).length≤ks.length
 |a::b::l,x::tk=>by
  have:=J9 (ks:=l) (tk:=tk);rw[leftOf];split
  ·simp only[bB];omega
  ·simp only[bB];omega
 | [],_=>by simp[leftOf]
 | [a],_=>by simp[leftOf]
 |a::b::l,[]=>by simp[leftOf]
theorem bEi{s:dF}{p:LTerm}{ks:List LTerm}:∀{l:List kP},(l.flatMap fun w=>sY s p (jE ks w)).length≤l.length
 | []=>by simp
 |w::l=>by
  have h1:=Y0 (s:=s) (p:=p) (w:=jE ks w);have h2:=bEi (s:=s) (p:=p) (ks:=ks) (l:=l);rw[List.flatMap_cons,List.length_append,bB];omega
theorem aUo{l:List AV}(h:persL l=true):l.all aKw=true:=by
 rw[bF];intro a ha;obtain⟨j,hj⟩:=cU.1 ha;have:=iE h j a hj;cases a<;>first|rfl|exact this
theorem bOr{z:List AV}:List.replicate 2 z=[z,z]:=rfl
theorem bJd{M:Nat}:persL (List.replicate M (AV.b false))=true:=by
 induction M with
 |zero=>rfl
 |succ M ih=>rw[gE,persL,ih];rfl
attribute [go_sem] bJd
@[simp] theorem cEj{A:AF}{s:dF}{ks:List LTerm}{p:LTerm}{r:List kP×Bool}:oE A s ks p 0 r=r:=rfl
theorem bOg(s : dF)(n:Nat)(p t:LTerm)(l:List LSub)(m:Nat)(hm:Small s)(hA:∀q∈p.kids,bNd s n q)(hp:OkN p)(hp8:p.kind=8)(hpl1:p.kids.length≤1000000)(ht:OkN t)(ht8:t.kind=8)(hpl:∀x∈t.kids,fN s x=true)(hnk:∀x∈t.kids,nodesT x≤1000000)(htl:t.kids.length≤1000000)(hu:tD m l)(ha:nP l)(hl:l.length≤1000)(hmm:m+nodesT p≤1000000): aFs Tryz.prog G0 225 [.agg [cD s],avw l,elT p,elT t] (avw (lK (dX s n) s p t l false).1) (lK (dX s n) s p t l false).2 wK:=by
 refine kY (rx:=true) (th:=fun i=>if i=5 then some ⟨none,[],false,false,true,[],[],1000⟩else if i=7 then some ⟨none,[],false,false,true,[],[],1000⟩else if i=14 then some ⟨none,[],false,false,true,[],[],1000⟩else if i=17 then some ⟨none,[],false,false,true,[],[],1000⟩else if i=27 then some ⟨none,[],false,false,true,[],[],1000⟩else if i=31 then some ⟨none,[],false,false,true,[],[],1000⟩else none) cI Tryz.func225 rfl (by kernel_rfl) (by kernel_rfl) (ac:=?_) ?_ g0 ?_;rotate_left
 ·simp only[strip,lA,eH,kZ,RX.off,ckF,ckX,zOf,exd,vOf,aD,aC,aY,aX,aF,Bool.and_true,Bool.and_false,aF,bP,bR,dI,fD,aW,bE,aJ,aH,dO,anyPre,Region.binds,Bool.not_true,Bool.not_false,aE,if_true,if_false,aP,aO,Bool.true_and,Bool.false_and,aT,aK,aD,aC,List.append_nil,aLl,wG,sS,rZ,cN,bY,bU,aF,aY,aX,cV,beq_self_eq_true,fI,Nat.reduceBEq,rA,pV,qW,jY,aHl,fC,gR,bP,dW,X9,X8,↓reduceIte,Nat.reduceEqDiff,Nat.reduceBEq,mR,nW,oP,splitK,wM,E0,aC,fC,gR,Bool.not_true,Bool.not_false,Bool.and_true,Bool.true_and,Bool.and_false,aY,aX];rfl
 ·simp -implicitDefEqProofs (disch:=omega) only[Tryz.f225,go_sem,List.replicate,simprocAttr,avw,elT,aI];have hte:t.kids.length=2*(t.kids.length / 2):=by have:=ht.even ht8;omega
  have hdw:IntKind.i64.wrap (((t.kids.length:Nat):Int).tdiv 2)=((t.kids.length / 2:Nat):Int):=by
   rw[show((t.kids.length:Nat):Int).tdiv 2=((t.kids.length / 2:Nat):Int)from rfl,wrap64 (by omega) (by omega)]
  generalize hM:t.kids.length / 2=M at *
  have hMl:M≤1000000:=by omega
  refine cO (fun(q:Nat×AV×List AObj)=>(rp 9 .k (.v (q.2.1)::.k::.j::(rp 16 .k (.v (.i .i64 (q.1:Nat))::(rp 14 .j (rp 110 .k []))))))) (fun q=>(.box false [cD s]::.box false (tmC p)::.box false (tmC t)::q.2.2)) (fun q=>q.1≤l.length∧gD 2 3 q.2.2 q.2.1 (((l.take q.1).map fun u=>(⟨u,List.replicate M false⟩:kP)).flatMap uN) ((l.take q.1).map fun u=>(⟨u,List.replicate M false⟩:kP)).length) (fun q=>l.length-q.1) ((0,.e0,[])) ⟨aR _,eX⟩ rfl (by simp[fO]) ?_;rintro⟨k,out,g⟩ j ⟨hk,ho⟩;dsimp only at hk ho;by_cases hlt:k<l.length
  ·have hki:(k:Int)<((l.length:Nat):Int):=by omega
   simp -implicitDefEqProofs (disch:=omega) only[zt hki,go_sem,simprocAttr];repeat refine aU (by omega) ?_
   apply aAq 7 38 (by simp only[strip,lA,eH,kZ,RX.off,ckF,ckX,zOf,exd,vOf,aD,aC,aY,aX,aF,Bool.and_true,Bool.and_false,aF,bP,bR,dI,fD,aW,bE,aJ,aH,dO,anyPre,Region.binds,Bool.not_true,Bool.not_false,aE,if_true,if_false,aP,aO,Bool.true_and,Bool.false_and,aT,aK,aD,aC,List.append_nil,aL,bK,aQ,bA,Nat.reduceAdd];rfl) (by simp only[strip,lA,eH,kZ,RX.off,ckF,ckX,zOf,exd,vOf,aD,aC,aY,aX,aF,Bool.and_true,Bool.and_false,aF,bP,bR,dI,fD,aW,bE,aJ,aH,dO,anyPre,Region.binds,Bool.not_true,Bool.not_false,aE,if_true,if_false,aP,aO,Bool.true_and,Bool.false_and,aT,aK,aD,aC,List.append_nil,aL,bK,aQ,bA,Nat.reduceAdd];rfl)
   ·intro K hK;simp -implicitDefEqProofs (disch:=omega) only[avu,hdw,go_sem,simprocAttr];refine⟨by omega,?_⟩;exact hK
   obtain⟨k1,k3⟩:=Y3 (pre:=[.box false [cD s],.box false (tmC p),.box false (tmC t)]) (g:=g++[.arr false 1 (List.replicate M (.b false))]) (i:=g.length) (n:=M) (fz:=false) (sz:=1) (cells:=List.replicate M (.b false)) (by simp) (by simp) bJd;rw[wJ]at k3;simp only[aH,aJ,bB,cH,cD,dU,Nat.reduceAdd]at k1 k3;simp -implicitDefEqProofs only[eU,gG,nE,sK];rw[k1,k3];have hX:(l.take (k+1)).map (fun u=>(⟨u,List.replicate M false⟩:kP))=(l.take k).map (fun u=>(⟨u,List.replicate M false⟩:kP))++[⟨l.getD k default,List.replicate M false⟩]:=by
    rw[eZ (d:=default) hlt,bO];rfl
   have hbig:((l.take k).map fun u=>(⟨u,List.replicate M false⟩:kP)).length≤1000:=by rw[cZ,bS];omega
   have hlX:(l.take (k+1)).length=((l.take k).map fun u=>(⟨u,List.replicate M false⟩:kP)).length+1:=by simp only[cZ,bS];omega
   simp -implicitDefEqProofs (disch:=omega) only[mL,dV,eO,List.append_nil,bJd,go_sem,simprocAttr];refine eI (pre:=[.box false [cD s],.box false (tmC p),.box false (tmC t)]) (g:=g++[.arr true 1 (List.replicate M (.b false))]) (more:=[.arr false 2 ([.sl ((l.getD k default).flatMap prT) (l.getD k default).length,.sl (List.replicate M (.b false)) M])]) (news:=[.sl ((l.getD k default).flatMap prT) (l.getD k default).length,.sl (List.replicate M (.b false)) M]) (m:=1) ((ho).more _) rfl (by simp -implicitDefEqProofs (disch:=omega) only[go_sem,simprocAttr]) bBh aXp aYb bCr rfl (by decide) (by simp -implicitDefEqProofs (disch:=omega) only[go_sem,simprocAttr]) (by simp -implicitDefEqProofs (disch:=omega) only[go_sem,simprocAttr]) ⟨by omega,by omega⟩ ?_;intro out' g' ho' _;simp -implicitDefEqProofs (disch:=omega) only[go_sem,simprocAttr];refine⟨(k+1,out',g'),⟨by dsimp only;omega,?_⟩,by dsimp only;omega,rfl,by simp⟩;dsimp only;rw[hX,List.flatMap_append,hlX,List.flatMap_cons,List.flatMap_nil,List.append_nil,uN,List.length_replicate,List.map_replicate];exact ho'
  ·have hki : ¬(k:Int)<((l.length:Nat):Int):=by omega
   rw[aS (by omega)]at ho;simp -implicitDefEqProofs (disch:=omega) only[zf hki,go_sem,simprocAttr];apply aAq 0 9 (by simp only[strip,lA,eH,kZ,RX.off,ckF,ckX,zOf,exd,vOf,aD,aC,aY,aX,aF,Bool.and_true,Bool.and_false,aF,bP,bR,dI,fD,aW,bE,aJ,aH,dO,anyPre,Region.binds,Bool.not_true,Bool.not_false,aE,if_true,if_false,aP,aO,Bool.true_and,Bool.false_and,aT,aK,aD,aC,List.append_nil,aL,bK,aQ,bA,Nat.reduceAdd];rfl) (by simp only[strip,lA,eH,kZ,RX.off,ckF,ckX,zOf,exd,vOf,aD,aC,aY,aX,aF,Bool.and_true,Bool.and_false,aF,bP,bR,dI,fD,aW,bE,aJ,aH,dO,anyPre,Region.binds,Bool.not_true,Bool.not_false,aE,if_true,if_false,aP,aO,Bool.true_and,Bool.false_and,aT,aK,aD,aC,List.append_nil,aL,bK,aQ,bA,Nat.reduceAdd];rfl)
   ·intro K hK;exact hK
   obtain⟨k1,g',k2,k3⟩:=jX (pre:=[.box false [cD s],.box false (tmC p),.box false (tmC t)]) ho uT;simp only[aH,aJ,cD]at k1 k3;simp -implicitDefEqProofs only[aGv,eU,gG,nE,sK];rw[k1,k3];have hW0:∀w∈l.map (fun u=>(⟨u,List.replicate M false⟩:kP)),OkH t m w:=by
    intro w hw;obtain⟨u,hu',rfl⟩:=dP.1 hw;exact⟨hu u hu',ha u hu',by dsimp only;rw[List.length_replicate];exact hte⟩
   have hpe:=hp.even hp8;have hno:=gA p;have htab:=fun k hk=>aJn (A:=dX s n) (s:=s) (p:=p) (t:=t) (r:=(l.map (fun u=>(⟨u,List.replicate M false⟩:kP)),false)) (m:=m) (zW n) ht (fun q _=>mQ n q) hW0 (by rw[cZ];exact hl) k hk;have hmono:=fun k=>S8 (A:=dX s n) (s:=s) (t:=t) (p:=p) (r:=(l.map (fun u=>(⟨u,List.replicate M false⟩:kP)),false)) (aPb n) (k:=k);have hTe:lK (dX s n) s p t l false=pH (oE (dX s n) s t.kids p (p.kids.length / 2) (l.map (fun u=>(⟨u,List.replicate M false⟩:kP)),false)).2 ((oE (dX s n) s t.kids p (p.kids.length / 2) (l.map (fun u=>(⟨u,List.replicate M false⟩:kP)),false)).1.flatMap fun w=>sY s p (jE t.kids w)):=by
    have e:=(htab (p.kids.length / 2) (by omega)).2.2;have e0:(l.map (fun u=>(⟨u,List.replicate M false⟩:kP))).map (jE t.kids)=l.map (jV.mk · t.kids):=by
     rw[List.map_map];refine iY fun u _=>?_;show jE t.kids ⟨u,List.replicate M false⟩=_;rw[jE,aKe hte]
    rw[lK,← e0,← e];dsimp only;rw[List.flatMap_map]
   have hpan:(oE (dX s n) s t.kids p (p.kids.length / 2) (l.map (fun u=>(⟨u,List.replicate M false⟩:kP)),false)).2=true→(lK (dX s n) s p t l false).2=true:=fun h=>by rw[hTe,h];exact aBt
   have hW0l:(l.map (fun u=>(⟨u,List.replicate M false⟩:kP))).length=l.length:=cZ ..;generalize l.map (fun u=>(⟨u,List.replicate M false⟩:kP))=W0 at *
   generalize hTb:lK (dX s n) s p t l false=TB at *
   simp -implicitDefEqProofs (disch:=omega) only[go_sem,simprocAttr];refine cO (fun(q:Nat×List AObj)=>(rp 9 .k (.v (.sl ((oE (dX s n) s t.kids p q.1 (W0,false)).1.flatMap uN) (oE (dX s n) s t.kids p q.1 (W0,false)).1.length)::.k::.k::.v (.i .i64 (2*q.1:Nat))::.j::.k::.j::(rp 27 .k (rp 34 .j (rp 76 .k [])))))) (fun q=>(.box false [cD s]::.box false (tmC p)::.box false (tmC t)::q.2)) (fun q=>2*q.1≤p.kids.length∧(oE (dX s n) s t.kids p q.1 (W0,false)).2=false) (fun q=>p.kids.length-2*q.1) ((0,g')) ⟨aR _,rfl⟩ rfl (by simp[fO]) ?_;rintro⟨i,g2⟩ j2 ⟨hi,hb⟩;dsimp only at hi hb;by_cases hit:2*i<p.kids.length
   ·have hii:((2*i:Nat):Int)<((p.kids.length:Nat):Int):=by omega
    have hii':2*i+1<p.kids.length:=by omega
    obtain⟨hb1,hb2,hb3⟩:=htab i hi;have hn2:=uX (l:=p.kids) (k:=i) hii';have hn3:=iC (l:=p.kids) (k:=2*(i+1));have hn4:1≤nodesT (p.kids.getD (2*i) default):=by rw[gA];omega
    have hsucc:oE (dX s n) s t.kids p (i+1) (W0,false)=oR (dX s n) s t.kids (p.kids.getD (2*i) default) (p.kids.getD (2*i+1) default) (oE (dX s n) s t.kids p i (W0,false)).1 false:=by rw[oE,hb]
    have hpan2:(oR (dX s n) s t.kids (p.kids.getD (2*i) default) (p.kids.getD (2*i+1) default) (oE (dX s n) s t.kids p i (W0,false)).1 false).2=true→TB.2=true:=fun h=>hpan (by
     have:=hmono (i+1) (by rw[hsucc];exact h) (p.kids.length / 2-(i+1));rwa[show i+1+(p.kids.length / 2-(i+1))=p.kids.length / 2 by omega]at this)
    have hkO:=(hp.kid (cC (d:=default) hit)).1;have hvA:=hA _ (cC (d:=default) hii');generalize (oE (dX s n) s t.kids p i (W0,false)).1=W at *
    simp -implicitDefEqProofs (disch:=omega) only[zt hii,go_sem,simprocAttr];refine cO (fun(q:Nat×AV×List AObj)=>(rp 13 .k (.v (q.2.1)::.k::.j::(rp 36 .k (.v (.i .i64 (q.1:Nat))::(rp 23 .j (rp 77 .k []))))))) (fun q=>(.box false [cD s]::.box false (tmC p)::.box false (tmC t)::q.2.2)) (fun q=>q.1≤W.length∧(jM (dX s n) s (p.kids.getD (2*i) default) (p.kids.getD (2*i+1) default) t.kids (W.take q.1) false).2=false∧(jM (dX s n) s (p.kids.getD (2*i) default) (p.kids.getD (2*i+1) default) t.kids (W.take q.1) false).1.length≤1000∧gD 2 3 q.2.2 q.2.1 ((jM (dX s n) s (p.kids.getD (2*i) default) (p.kids.getD (2*i+1) default) t.kids (W.take q.1) false).1.flatMap uN) (jM (dX s n) s (p.kids.getD (2*i) default) (p.kids.getD (2*i+1) default) t.kids (W.take q.1) false).1.length) (fun q=>W.length-q.1) ((0,.e0,g2)) ⟨aR _,rfl,aR _,eX⟩ rfl (by simp[fO]) ?_;rintro⟨c,out3,g3⟩ j4 ⟨hc,hcb,hcl,ho3⟩;dsimp only at hc hcb hcl ho3;by_cases hct:c<W.length
    ·have hci:(c:Int)<((W.length:Nat):Int):=by omega
     have hw:=hb1 _ (cC (d:=default) hct);have ce:=bQr s n (p.kids.getD (2*i) default) (p.kids.getD (2*i+1) default) t (W.getD c default) (m+nodesL (p.kids.take (2*i))) hm hvA ht hpl hnk htl hkO hw.u hw.asc hw.len (by omega);have hE:=T0 (A:=dX s n) (s:=s) (key:=p.kids.getD (2*i) default) (value:=p.kids.getD (2*i+1) default) (t:=t) (b:=false) hct;have hpn:=aSa (A:=dX s n) (s:=s) (key:=p.kids.getD (2*i) default) (value:=p.kids.getD (2*i+1) default) (t:=t) (ws:=W) (b:=false) (aPb n) (c+1);have hNl:=aCz (A:=dX s n) (s:=s) (key:=p.kids.getD (2*i) default) (value:=p.kids.getD (2*i+1) default) (t:=t) (b:=false) (mQ n _) hw.u hw.len ht (bT (W.getD c default).tk.length);have hwl:=hw.len;rw[hcb]at hE;rw[hE]at hpn;dsimp only at hpn;generalize hN:kT (dX s n) s (p.kids.getD (2*i) default) (p.kids.getD (2*i+1) default) t.kids (W.getD c default) (W.getD c default).tk.length false=N at *
     generalize hEc:jM (dX s n) s (p.kids.getD (2*i) default) (p.kids.getD (2*i+1) default) t.kids (W.take c) false=E at *
     simp -implicitDefEqProofs (disch:=omega) only[zt hci,uN,avu,go_sem,simprocAttr];repeat refine aU (by omega) ?_
     refine aWb (rx:=.off) (N:=⟨0,[]⟩) cI 15 0 56 13 _ (by kernel_rfl) rfl rfl rfl rfl rfl (al:=?_) (al2:=?_) ?_ ?_ (fun v e e' h k=>k) ?_;rotate_left 2
     ·simp only[strip,lA,eH,kZ,RX.off,ckF,ckX,zOf,exd,vOf,aD,aC,aY,aX,aF,Bool.and_true,Bool.and_false,aF,bP,bR,dI,fD,aW,bE,aJ,aH,dO,anyPre,Region.binds,Bool.not_true,Bool.not_false,aE,if_true,if_false,aP,aO,Bool.true_and,Bool.false_and,aT,aK,aD,aC,List.append_nil,aL,bK,aQ,bA,Nat.reduceAdd,aL,bK];rfl
     ·simp only[strip,lA,eH,kZ,RX.off,ckF,ckX,zOf,exd,vOf,aD,aC,aY,aX,aF,Bool.and_true,Bool.and_false,aF,bP,bR,dI,fD,aW,bE,aJ,aH,dO,anyPre,Region.binds,Bool.not_true,Bool.not_false,aE,if_true,if_false,aP,aO,Bool.true_and,Bool.false_and,aT,aK,aD,aC,List.append_nil,aL,bK,aQ,bA,Nat.reduceAdd,aQ,bA];rfl
     simp -implicitDefEqProofs (disch:=omega) only[go_sem,simprocAttr];repeat refine aU (by omega) ?_
     refine vY ce ?_ (fun hb'=>⟨hpan2 (hpn (.inl hb')),rfl⟩) (fun hb'=>?_)
     ·simp -implicitDefEqProofs (disch:=omega) only[elT,aI,uN,avu,cD,go_sem,simprocAttr]
     rw[show ∀H,mat (bDa N.1) H=(bDa N.1,H)from fun H=>rfl];simp -implicitDefEqProofs (disch:=omega) only[bDa,go_sem,simprocAttr];have ho4:=ho3.more [.box false [.sl ((W.getD c default).u.flatMap prT) (W.getD c default).u.length,.sl ((W.getD c default).tk.map .b) (W.getD c default).tk.length]];refine eI (more:=[]) (pre:=[.box false [.box (eP s) 0],.box false (tmC p),.box false (tmC t)]) (news:=N.1.flatMap uN) (m:=N.1.length) ho4 rfl (by simp) bBh aXp aYb bCr rfl (by decide) (by simp -implicitDefEqProofs (disch:=omega) only[go_sem,simprocAttr]) (by simp -implicitDefEqProofs (disch:=omega) only[go_sem,simprocAttr]) ⟨by omega,by omega⟩ ?_;intro out' g' ho' hkeep;have hcE:(jM (dX s n) s (p.kids.getD (2*i) default) (p.kids.getD (2*i+1) default) t.kids (W.take (c+1)) false).1.length=E.1.length+N.1.length:=by rw[hE,List.length_append]
     rw[← List.flatMap_append,← List.length_append]at ho';have cl:=bRi (E.1++N.1);obtain⟨k1,_,_,_⟩:=jX (pre:=[.box false [cD s],.box false (tmC p),.box false (tmC t)]) ho' uT;simp only[aH,aJ,cD]at k1;simp -implicitDefEqProofs (disch:=omega) only[go_sem,simprocAttr];refine vY cl ?_ (fun hm=>⟨hpan2 (hpn (.inr (by simpa using hm))),rfl⟩) (fun hm=>?_)
     ·rw[aK,aT,k1];rfl
     rw[show ∀H,mat .u H=(.u,H)from fun H=>rfl,gB,if_pos (show flat .u=true from rfl)];have hle:(E.1++N.1).length≤1000:=by simpa using hm
     simp -implicitDefEqProofs (disch:=omega) only[go_sem,simprocAttr];refine⟨(c+1,out',g'),⟨by dsimp only;omega,by dsimp only;rw[hE];exact hb',by dsimp only;rw[hE];exact hle,?_⟩,by dsimp only;omega,rfl,by simp⟩;dsimp only;rw[hE];exact ho'
    ·have hci:¬(c:Int)<((W.length:Nat):Int):=by omega
     simp -implicitDefEqProofs (disch:=omega) only[zf hci,go_sem,simprocAttr];rw[aS (by omega)]at ho3 hcb hcl;have hpE:oR (dX s n) s t.kids (p.kids.getD (2*i) default) (p.kids.getD (2*i+1) default) W false=jM (dX s n) s (p.kids.getD (2*i) default) (p.kids.getD (2*i+1) default) t.kids W false:=by rw[oR,if_neg (by omega)]
     rw[hpE]at hsucc;apply aAq 0 13 (by simp only[strip,lA,eH,kZ,RX.off,ckF,ckX,zOf,exd,vOf,aD,aC,aY,aX,aF,Bool.and_true,Bool.and_false,aF,bP,bR,dI,fD,aW,bE,aJ,aH,dO,anyPre,Region.binds,Bool.not_true,Bool.not_false,aE,if_true,if_false,aP,aO,Bool.true_and,Bool.false_and,aT,aK,aD,aC,List.append_nil,aL,bK,aQ,bA,Nat.reduceAdd];rfl) (by simp only[strip,lA,eH,kZ,RX.off,ckF,ckX,zOf,exd,vOf,aD,aC,aY,aX,aF,Bool.and_true,Bool.and_false,aF,bP,bR,dI,fD,aW,bE,aJ,aH,dO,anyPre,Region.binds,Bool.not_true,Bool.not_false,aE,if_true,if_false,aP,aO,Bool.true_and,Bool.false_and,aT,aK,aD,aC,List.append_nil,aL,bK,aQ,bA,Nat.reduceAdd];rfl)
     ·intro K hK;exact hK
     obtain⟨k1,g5,k2,k3⟩:=jX (pre:=[.box false [cD s],.box false (tmC p),.box false (tmC t)]) ho3 uT;simp only[aH,aJ,cD]at k1 k3;simp -implicitDefEqProofs only[aGv,eU,gG,nE,sK];rw[k1,k3];simp -implicitDefEqProofs (disch:=omega) only[go_sem,simprocAttr];refine⟨(i+1,g5),⟨by dsimp only;omega,by dsimp only;rw[hsucc];exact hcb⟩,by dsimp only;omega,rfl,?_⟩;dsimp only;rw[hsucc];exact⟨rfl,rfl⟩
   ·have hii:¬((2*i:Nat):Int)<((p.kids.length:Nat):Int):=by omega
    obtain rfl:i=p.kids.length / 2:=by omega
    obtain⟨hb1,hb2,hb3⟩:=htab _ hi;simp -implicitDefEqProofs (disch:=omega) only[zf hii,go_sem,simprocAttr];rw[hb]at hTe;generalize (oE (dX s n) s t.kids p (p.kids.length / 2) (W0,false)).1=W at *
    refine cO (fun(q:Nat×AV×List AObj)=>(rp 16 .k (.v (q.2.1)::.k::.j::.j::.j::.j::.k::.j::.j::.j::(rp 53 .k (.v (.i .i64 (q.1:Nat))::(rp 71 .j [.k,.k])))))) (fun q=>(.box false [cD s]::.box false (tmC p)::.box false (tmC t)::q.2.2)) (fun q=>q.1≤W.length∧gD 1 3 q.2.2 q.2.1 (((W.take q.1).flatMap fun w=>sY s p (jE t.kids w)).map avu) ((W.take q.1).flatMap fun w=>sY s p (jE t.kids w)).length) (fun q=>W.length-q.1) ((0,.e0,g2)) ⟨aR _,eX⟩ rfl (by simp[fO]) ?_;rintro⟨c,out3,g3⟩ j4 ⟨hc,ho3⟩;dsimp only at hc ho3;by_cases hct:c<W.length
    ·have hci:(c:Int)<((W.length:Nat):Int):=by omega
     have hw:=hb1 _ (cC (d:=default) hct);have hwl:=hw.len;have hsc:=lW (f:=fun w=>sY s p (jE t.kids w)) (d:=default) hct;simp -implicitDefEqProofs (disch:=omega) only[zt hci,uN,avu,go_sem,simprocAttr];repeat refine aU (by omega) ?_
     generalize W.getD c default=w at *
     refine cO (fun(q:Nat×AV×List AObj)=>(rp 20 .k (.j::.j::(rp 65 .k (.v (.i .i64 (q.1:Nat))::(rp 25 .j (rp 40 .k []))))))) (fun q=>(.box false [cD s]::.box false (tmC p)::.box false (tmC t)::(g3++.box false [.sl (w.u.flatMap prT) w.u.length,.sl (w.tk.map .b) w.tk.length]::.box false [.i .i64 8,.i .i64 0,.s [],.s [],q.2.1,.e0]::q.2.2))) (fun q=>q.1≤w.tk.length∧gD 6 (g3.length+5) q.2.2 q.2.1 ((leftOf (t.kids.take (2*q.1)) (w.tk.take q.1)).flatMap aM) (leftOf (t.kids.take (2*q.1)) (w.tk.take q.1)).length) (fun q=>w.tk.length-q.1) ((0,.e0,[])) ⟨aR _,eX⟩ rfl (by simp[fO]) ?_;rintro⟨e,ks,gm⟩ j5 ⟨he,hok⟩;dsimp only at he hok;by_cases het:e<w.tk.length
     ·have hei:(e:Int)<((w.tk.length:Nat):Int):=by omega
      have hls:=aDp hwl het;have h2e:((2:Int)*(e:Int)).toNat=2*e:=by omega
      have h2e':((2:Int)*(e:Int)+1).toNat=2*e+1:=by omega
      cases hx:w.tk.getD e false with
      |true=>
       rw[hx,if_pos rfl,List.append_nil]at hls;simp -implicitDefEqProofs (disch:=omega) only[zt hei,hx,go_sem,simprocAttr];repeat refine aU (by omega) ?_
       refine⟨(e+1,ks,gm),⟨by dsimp only;omega,by dsimp only;rw[hls];exact hok⟩,by dsimp only;omega,rfl,by simp⟩
      |false=>
       rw[hx,if_neg (by simp)]at hls;simp -implicitDefEqProofs (disch:=omega) only[zt hei,hx,go_sem,simprocAttr];repeat refine aU (by omega) ?_
       refine bCy (rx:=⟨true,false,true,[],[]⟩) (N:=⟨g3.length+5,[]⟩) cI 18 (by kernel_rfl) (al:=?_) (al2:=?_) ?_ ?_ ?_;rotate_left 2
       ·simp only[strip,lA,eH,kZ,RX.off,ckF,ckX,zOf,exd,vOf,aD,aC,aY,aX,aF,Bool.and_true,Bool.and_false,aF,bP,bR,dI,fD,aW,bE,aJ,aH,dO,anyPre,Region.binds,Bool.not_true,Bool.not_false,aE,if_true,if_false,aP,aO,Bool.true_and,Bool.false_and,aT,aK,aD,aC,List.append_nil,aL,bK,aQ,bA,Nat.reduceAdd,aLl,wG,sS,rZ,cN,bY,bU,cV,beq_self_eq_true,fI,Nat.reduceBEq,rA,pV,qW,jY,aHl,fC,gR,dW,wM,E0];rfl
       ·simp only[strip,lA,eH,kZ,RX.off,ckF,ckX,zOf,exd,vOf,aD,aC,aY,aX,aF,Bool.and_true,Bool.and_false,aF,bP,bR,dI,fD,aW,bE,aJ,aH,dO,anyPre,Region.binds,Bool.not_true,Bool.not_false,aE,if_true,if_false,aP,aO,Bool.true_and,Bool.false_and,aT,aK,aD,aC,List.append_nil,aL,bK,aQ,bA,Nat.reduceAdd,aQ,bA];rfl
       have hnr:vW ⟨g3.length+5,[]⟩ ks:=by
        rcases hok with⟨rfl,_,_⟩|⟨i0,rfl,_,_⟩
        ·trivial
        ·show g3.length+5≤i0+(g3.length+5);omega
       have hkl:=J9 (ks:=t.kids.take (2*e)) (tk:=w.tk.take e);rw[bS]at hkl;have n1:(g3.length+1+1+1+1<g3.length+5)=True:=eq_true (by omega);simp -implicitDefEqProofs (disch:=omega) only[h2e,h2e',bOr,n1,dV,eO,List.append_nil,go_sem,simprocAttr];repeat refine aU (by omega) ?_
       refine aU hnr ?_;refine eI (pre:=[.box false [.box (eP s) 0],.box false (tmC p),.box false (tmC t)]++(g3++[.box false [.sl (w.u.flatMap prT) w.u.length,.sl (w.tk.map .b) w.tk.length],.box false [.i .i64 8,.i .i64 0,.s [],.s [],ks,.e0]])) (g:=gm) (more:=[.arr false 6 ([.i .i64 ((t.kids.getD (2*e) default)).kind,.i .i64 ((t.kids.getD (2*e) default)).n,.s ((t.kids.getD (2*e) default)).text,.s ((t.kids.getD (2*e) default)).sort,.sl (((t.kids.getD (2*e) default)).kids.flatMap aM) ((t.kids.getD (2*e) default)).kids.length,.sl (((t.kids.getD (2*e) default)).rest.flatMap aM) ((t.kids.getD (2*e) default)).rest.length]++[.i .i64 ((t.kids.getD (2*e+1) default)).kind,.i .i64 ((t.kids.getD (2*e+1) default)).n,.s ((t.kids.getD (2*e+1) default)).text,.s ((t.kids.getD (2*e+1) default)).sort,.sl (((t.kids.getD (2*e+1) default)).kids.flatMap aM) ((t.kids.getD (2*e+1) default)).kids.length,.sl (((t.kids.getD (2*e+1) default)).rest.flatMap aM) ((t.kids.getD (2*e+1) default)).rest.length])]) (news:=[.i .i64 ((t.kids.getD (2*e) default)).kind,.i .i64 ((t.kids.getD (2*e) default)).n,.s ((t.kids.getD (2*e) default)).text,.s ((t.kids.getD (2*e) default)).sort,.sl (((t.kids.getD (2*e) default)).kids.flatMap aM) ((t.kids.getD (2*e) default)).kids.length,.sl (((t.kids.getD (2*e) default)).rest.flatMap aM) ((t.kids.getD (2*e) default)).rest.length]++[.i .i64 ((t.kids.getD (2*e+1) default)).kind,.i .i64 ((t.kids.getD (2*e+1) default)).n,.s ((t.kids.getD (2*e+1) default)).text,.s ((t.kids.getD (2*e+1) default)).sort,.sl (((t.kids.getD (2*e+1) default)).kids.flatMap aM) ((t.kids.getD (2*e+1) default)).kids.length,.sl (((t.kids.getD (2*e+1) default)).rest.flatMap aM) ((t.kids.getD (2*e+1) default)).rest.length]) (m:=2) hok (by simp) ?_ bQt bNm bOk bUs rfl (by decide) ?_ ?_ ⟨by omega,by omega⟩ ?_
       ·simp only[aH,aJ,cK]
       ·simp -implicitDefEqProofs (disch:=omega) only[go_sem,simprocAttr]
       ·simp -implicitDefEqProofs (disch:=omega) only[go_sem,simprocAttr]
       intro out' g' ho' _;rcases ho' with⟨_,_,h3⟩|⟨i1,rfl,hi1,hl1⟩
       ·omega
       simp -implicitDefEqProofs (disch:=omega) only[go_sem,simprocAttr];have hlen:(leftOf (t.kids.take (2*(e+1))) (w.tk.take (e+1))).length=(leftOf (t.kids.take (2*e)) (w.tk.take e)).length+2:=by rw[hls,List.length_append];rfl
       have hcel:(leftOf (t.kids.take (2*(e+1))) (w.tk.take (e+1))).flatMap aM=(leftOf (t.kids.take (2*e)) (w.tk.take e)).flatMap aM++([.i .i64 ((t.kids.getD (2*e) default)).kind,.i .i64 ((t.kids.getD (2*e) default)).n,.s ((t.kids.getD (2*e) default)).text,.s ((t.kids.getD (2*e) default)).sort,.sl (((t.kids.getD (2*e) default)).kids.flatMap aM) ((t.kids.getD (2*e) default)).kids.length,.sl (((t.kids.getD (2*e) default)).rest.flatMap aM) ((t.kids.getD (2*e) default)).rest.length]++[.i .i64 ((t.kids.getD (2*e+1) default)).kind,.i .i64 ((t.kids.getD (2*e+1) default)).n,.s ((t.kids.getD (2*e+1) default)).text,.s ((t.kids.getD (2*e+1) default)).sort,.sl (((t.kids.getD (2*e+1) default)).kids.flatMap aM) ((t.kids.getD (2*e+1) default)).kids.length,.sl (((t.kids.getD (2*e+1) default)).rest.flatMap aM) ((t.kids.getD (2*e+1) default)).rest.length]):=by
        rw[hls,List.flatMap_append,List.flatMap_cons,List.flatMap_cons,List.flatMap_nil,List.append_nil,aI,aI];rfl
       refine⟨(e+1,.hs (i1+(g3.length+5)) 0 ((leftOf (t.kids.take (2*e)) (w.tk.take e)).length+2) false,g'),⟨by dsimp only;omega,.inr ⟨i1,by dsimp only;rw[hlen],?_,?_⟩⟩,by dsimp only;omega,rfl,?_⟩
       ·dsimp only;rw[hcel];exact hi1
       ·dsimp only;rw[hcel,hlen];exact hl1
       ·simp
     ·have hei:¬(e:Int)<((w.tk.length:Nat):Int):=by omega
      obtain rfl:e=w.tk.length:=by omega
      rw[aTb hwl]at hok;have hfl:=bEi (s:=s) (p:=p) (ks:=t.kids) (l:=W.take c);rw[bS]at hfl;have hWl:W.length≤1000:=hb2;generalize hLe:leftOf t.kids w.tk=L at *
      rcases bIh hp (.inr hp8)with hr|⟨r,hr,hr6⟩
      ·have hrl:p.rest.length=0:=by rw[hr];rfl
       have hri:decide (((p.rest.length:Nat):Int)=0)=true:=zt (by omega);have hr0:decide ((0:Int)<((p.rest.length:Nat):Int))=false:=zf (by omega);have hEnd:sY s p (jE t.kids w)=if L.length=0 then [w.u]else []:=by rw[sY,if_neg (by omega),jE,hLe]
       by_cases hL:L.length=0
       ·rw[if_pos hL]at hEnd
        have hLi:((L.length:Nat):Int)=0:=by omega
        rcases hok with⟨rfl,hk2,hk3⟩|⟨i0,rfl,hk2,hk3⟩
        ·simp -implicitDefEqProofs (disch:=omega) only[hri,zf hei,zt hLi,go_sem,simprocAttr];refine eI (pre:=[.box false [.box (eP s) 0],.box false (tmC p),.box false (tmC t)]) (g:=g3++(.box false [.sl (w.u.flatMap prT) w.u.length,.sl (w.tk.map .b) w.tk.length]::.box false [.i .i64 8,.i .i64 0,.s [],.s [],.e0,.e0]::gm)) (more:=[.arr false 1 [.sl (w.u.flatMap prT) (List.length w.u)]]) (news:=[.sl (w.u.flatMap prT) (List.length w.u)]) (m:=1) (ho3.more _) rfl ?_ bBg aXo aYa bCq rfl (by decide) ?_ ?_ ⟨by omega,by omega⟩ ?_
         ·simp only[aH,aJ,cK]
         ·simp -implicitDefEqProofs (disch:=omega) only[go_sem,simprocAttr]
         ·simp -implicitDefEqProofs (disch:=omega) only[go_sem,simprocAttr]
         intro out' g' ho' _;simp -implicitDefEqProofs (disch:=omega) only[go_sem,simprocAttr];refine V3 (al:=?_) ?_ ?_;rotate_left
         ·simp only[strip,lA,eH,kZ,RX.off,ckF,ckX,zOf,exd,vOf,aD,aC,aY,aX,aF,Bool.and_true,Bool.and_false,aF,bP,bR,dI,fD,aW,bE,aJ,aH,dO,anyPre,Region.binds,Bool.not_true,Bool.not_false,aE,if_true,if_false,aP,aO,Bool.true_and,Bool.false_and,aT,aK,aD,aC,List.append_nil,aL,bK,aQ,bA,Nat.reduceAdd];rfl
         simp -implicitDefEqProofs (disch:=omega) only[go_sem,simprocAttr];refine cO (fun(q:Unit)=>(rp 16 .k (.v (out')::(rp 6 .k (.j::.j::.j::(rp 105 .k (.v (.i .i64 0)::(rp 18 .j [.k,.k,.k])))))))) (fun q=>(.box false [.box (eP s) 0]::.box false (tmC p)::.box false (tmC t)::g')) (fun q=>True) (fun q=>0) (()) trivial rfl (by simp[fO]) ?_;rintro⟨⟩ j7 -
         simp -implicitDefEqProofs (disch:=omega) only[hr0,go_sem,simprocAttr];refine⟨(c+1,out',g'),⟨by dsimp only;omega,?_⟩,by dsimp only;omega,rfl,by simp⟩;dsimp only;rw[hsc,hEnd,bO,List.length_append];exact ho'
        ·have hgi:(.box false [.box (eP s) 0]::.box false (tmC p)::.box false (tmC t)::(g3++.box false [.sl (w.u.flatMap prT) w.u.length,.sl (w.tk.map .b) w.tk.length]::.box false [.i .i64 8,.i .i64 0,.s [],.s [],(.hs (i0+(g3.length+5)) 0 L.length false),.e0]::gm))[i0+(g3.length+5)]? = some (.arr false 6 (L.flatMap aM)):=by
          rw[show .box false [.box (eP s) 0]::.box false (tmC p)::.box false (tmC t)::(g3++.box false [.sl (w.u.flatMap prT) w.u.length,.sl (w.tk.map .b) w.tk.length]::.box false [.i .i64 8,.i .i64 0,.s [],.s [],(.hs (i0+(g3.length+5)) 0 L.length false),.e0]::gm)=([.box false [.box (eP s) 0],.box false (tmC p),.box false (tmC t)]++(g3++[.box false [.sl (w.u.flatMap prT) w.u.length,.sl (w.tk.map .b) w.tk.length],.box false [.i .i64 8,.i .i64 0,.s [],.s [],(.hs (i0+(g3.length+5)) 0 L.length false),.e0]]):List AObj)++gm by simp,aN (by simp only[List.length_append,bB,cH];omega),List.length_append,List.length_append];simp only[bB,cH,dU,Nat.reduceAdd];rw[show i0+(g3.length+5)-(3+(g3.length+2))=i0 by omega];exact hk2
         simp -implicitDefEqProofs (disch:=omega) only[hri,zf hei,zt hLi,hgi,go_sem,simprocAttr];refine eI (pre:=[.box false [.box (eP s) 0],.box false (tmC p),.box false (tmC t)]) (g:=g3++(.box false [.sl (w.u.flatMap prT) w.u.length,.sl (w.tk.map .b) w.tk.length]::.box false [.i .i64 8,.i .i64 0,.s [],.s [],(.hs (i0+(g3.length+5)) 0 L.length false),.e0]::gm)) (more:=[.arr false 1 [.sl (w.u.flatMap prT) (List.length w.u)]]) (news:=[.sl (w.u.flatMap prT) (List.length w.u)]) (m:=1) (ho3.more _) rfl ?_ bBg aXo aYa bCq rfl (by decide) ?_ ?_ ⟨by omega,by omega⟩ ?_
         ·simp only[aH,aJ,cK]
         ·simp -implicitDefEqProofs (disch:=omega) only[go_sem,simprocAttr]
         ·simp -implicitDefEqProofs (disch:=omega) only[go_sem,simprocAttr]
         intro out' g' ho' _;simp -implicitDefEqProofs (disch:=omega) only[go_sem,simprocAttr];refine V3 (al:=?_) ?_ ?_;rotate_left
         ·simp only[strip,lA,eH,kZ,RX.off,ckF,ckX,zOf,exd,vOf,aD,aC,aY,aX,aF,Bool.and_true,Bool.and_false,aF,bP,bR,dI,fD,aW,bE,aJ,aH,dO,anyPre,Region.binds,Bool.not_true,Bool.not_false,aE,if_true,if_false,aP,aO,Bool.true_and,Bool.false_and,aT,aK,aD,aC,List.append_nil,aL,bK,aQ,bA,Nat.reduceAdd];rfl
         simp -implicitDefEqProofs (disch:=omega) only[go_sem,simprocAttr];refine cO (fun(q:Unit)=>(rp 16 .k (.v (out')::(rp 6 .k (.j::.j::.j::(rp 105 .k (.v (.i .i64 0)::(rp 18 .j [.k,.k,.k])))))))) (fun q=>(.box false [.box (eP s) 0]::.box false (tmC p)::.box false (tmC t)::g')) (fun q=>True) (fun q=>0) (()) trivial rfl (by simp[fO]) ?_;rintro⟨⟩ j7 -
         simp -implicitDefEqProofs (disch:=omega) only[hr0,go_sem,simprocAttr];refine⟨(c+1,out',g'),⟨by dsimp only;omega,?_⟩,by dsimp only;omega,rfl,by simp⟩;dsimp only;rw[hsc,hEnd,bO,List.length_append];exact ho'
       ·rw[if_neg hL]at hEnd
        have hLi:¬((L.length:Nat):Int)=0:=by omega
        rcases hok with⟨rfl,hk2,hk3⟩|⟨i0,rfl,hk2,hk3⟩
        ·omega
        ·have hgi:(.box false [.box (eP s) 0]::.box false (tmC p)::.box false (tmC t)::(g3++.box false [.sl (w.u.flatMap prT) w.u.length,.sl (w.tk.map .b) w.tk.length]::.box false [.i .i64 8,.i .i64 0,.s [],.s [],(.hs (i0+(g3.length+5)) 0 L.length false),.e0]::gm))[i0+(g3.length+5)]? = some (.arr false 6 (L.flatMap aM)):=by
          rw[show .box false [.box (eP s) 0]::.box false (tmC p)::.box false (tmC t)::(g3++.box false [.sl (w.u.flatMap prT) w.u.length,.sl (w.tk.map .b) w.tk.length]::.box false [.i .i64 8,.i .i64 0,.s [],.s [],(.hs (i0+(g3.length+5)) 0 L.length false),.e0]::gm)=([.box false [.box (eP s) 0],.box false (tmC p),.box false (tmC t)]++(g3++[.box false [.sl (w.u.flatMap prT) w.u.length,.sl (w.tk.map .b) w.tk.length],.box false [.i .i64 8,.i .i64 0,.s [],.s [],(.hs (i0+(g3.length+5)) 0 L.length false),.e0]]):List AObj)++gm by simp,aN (by simp only[List.length_append,bB,cH];omega),List.length_append,List.length_append];simp only[bB,cH,dU,Nat.reduceAdd];rw[show i0+(g3.length+5)-(3+(g3.length+2))=i0 by omega];exact hk2
         simp -implicitDefEqProofs (disch:=omega) only[hri,zf hei,zf hLi,hgi,go_sem,simprocAttr];refine V3 (al:=?_) ?_ ?_;rotate_left
         ·simp only[strip,lA,eH,kZ,RX.off,ckF,ckX,zOf,exd,vOf,aD,aC,aY,aX,aF,Bool.and_true,Bool.and_false,aF,bP,bR,dI,fD,aW,bE,aJ,aH,dO,anyPre,Region.binds,Bool.not_true,Bool.not_false,aE,if_true,if_false,aP,aO,Bool.true_and,Bool.false_and,aT,aK,aD,aC,List.append_nil,aL,bK,aQ,bA,Nat.reduceAdd];rfl
         simp -implicitDefEqProofs (disch:=omega) only[go_sem,simprocAttr];refine cO (fun(q:Unit)=>(rp 16 .k (.v (out3)::(rp 6 .k (.j::.j::.j::(rp 105 .k (.v (.i .i64 0)::(rp 18 .j [.k,.k,.k])))))))) (fun q=>(.box false [.box (eP s) 0]::.box false (tmC p)::.box false (tmC t)::(g3++.box false [.sl (w.u.flatMap prT) w.u.length,.sl (w.tk.map .b) w.tk.length]::.box false [.i .i64 8,.i .i64 0,.s [],.s [],(.hs (i0+(g3.length+5)) 0 L.length false),.e0]::gm))) (fun q=>True) (fun q=>0) (()) trivial rfl (by simp[fO]) ?_;rintro⟨⟩ j7 -
         simp -implicitDefEqProofs (disch:=omega) only[hr0,go_sem,simprocAttr];refine⟨(c+1,out3,(g3++.box false [.sl (w.u.flatMap prT) w.u.length,.sl (w.tk.map .b) w.tk.length]::.box false [.i .i64 8,.i .i64 0,.s [],.s [],(.hs (i0+(g3.length+5)) 0 L.length false),.e0]::gm)),⟨by dsimp only;omega,?_⟩,by dsimp only;omega,rfl,by simp⟩;dsimp only;rw[hsc,hEnd,List.append_nil];exact ho3.more _
      ·have hrl:p.rest.length=1:=by rw[hr];rfl
       have hri:decide (((p.rest.length:Nat):Int)=0)=false:=zf (by omega);have hn9:=iC (l:=p.kids) (k:=2*(p.kids.length / 2));have hrk:(p.rest.getD 0 default).kind=6:=by rw[hr];exact hr6
       have hro:OkT (p.rest.getD 0 default):=hp.1.rst _ (cC (by omega));have hlo:OkT (.mk 8 0 [] [] L []):=J5 (fun x hx=>(ht.kid (F2 (hLe▸hx))).1) (by rw[← hLe];exact hZ J9 ht.1.kids);have hEnd:sY s p (jE t.kids w)=if(xV s (p.rest.getD 0 default) (.mk 8 0 [] [] L []) w.u).2=true then [(xV s (p.rest.getD 0 default) (.mk 8 0 [] [] L []) w.u).1]else []:=by
        rw[sY,if_pos (by omega),← aDq,gZ,if_pos hrk,jE,hLe]
       have cb:=bFm s w.u (p.rest.getD 0 default) (.mk 8 0 [] [] L []) hm hw.asc (hw.u.mono (by omega)) hro hlo;generalize xV s (p.rest.getD 0 default) (.mk 8 0 [] [] L []) w.u=F at *
       obtain⟨v,fl⟩:=F;dsimp only at hEnd cb;simp -implicitDefEqProofs (disch:=omega) only[hri,zf hei,go_sem,simprocAttr];refine bMk (aPt (b:=g3.length+4) (k:=4) (i:=19) (cells:=[.i .i64 8,.i .i64 0,.s [],.s [],ks,.e0]) (x:=ks) ?_ rfl rfl ?_ ?_)
       ·simp -implicitDefEqProofs (disch:=omega) only[go_sem,simprocAttr]
       ·rcases hok with⟨rfl,_,_⟩|⟨i0,rfl,hk2,_⟩
        ·rw[uR rfl];simp
        ·have hgi:(.box false [.box (eP s) 0]::.box false (tmC p)::.box false (tmC t)::(g3++.box false [.sl (w.u.flatMap prT) w.u.length,.sl (w.tk.map .b) w.tk.length]::.box false [.i .i64 8,.i .i64 0,.s [],.s [],(.hs (i0+(g3.length+5)) 0 L.length false),.e0]::gm))[i0+(g3.length+5)]? = some (.arr false 6 (L.flatMap aM)):=by
          rw[show .box false [.box (eP s) 0]::.box false (tmC p)::.box false (tmC t)::(g3++.box false [.sl (w.u.flatMap prT) w.u.length,.sl (w.tk.map .b) w.tk.length]::.box false [.i .i64 8,.i .i64 0,.s [],.s [],(.hs (i0+(g3.length+5)) 0 L.length false),.e0]::gm)=([.box false [.box (eP s) 0],.box false (tmC p),.box false (tmC t)]++(g3++[.box false [.sl (w.u.flatMap prT) w.u.length,.sl (w.tk.map .b) w.tk.length],.box false [.i .i64 8,.i .i64 0,.s [],.s [],(.hs (i0+(g3.length+5)) 0 L.length false),.e0]]):List AObj)++gm by simp,aN (by simp only[List.length_append,bB,cH];omega),List.length_append,List.length_append];simp only[bB,cH,dU,Nat.reduceAdd];rw[show i0+(g3.length+5)-(3+(g3.length+2))=i0 by omega];exact hk2
         have hall:(L.flatMap aM).all aKw=true:=aUo eW;simp -implicitDefEqProofs (disch:=omega) only[E6,hsQ,hgi,hall,bJ,go_sem,simprocAttr];omega
       obtain⟨k1,g4,_,k3⟩:=jX (pre:=[.box false [.box (eP s) 0],.box false (tmC p),.box false (tmC t)]++(g3++[.box false [.sl (w.u.flatMap prT) w.u.length,.sl (w.tk.map .b) w.tk.length],.box false [.i .i64 8,.i .i64 0,.s [],.s [],ks,.e0]])) (g:=gm) (by simpa using hok) eW;simp only[aH,aJ,cK]at k1 k3;rw[k1,k3];simp -implicitDefEqProofs (disch:=omega) only[go_sem,simprocAttr];refine V3 (al:=?_) ?_ ?_;rotate_left
       ·simp only[strip,lA,eH,kZ,RX.off,ckF,ckX,zOf,exd,vOf,aD,aC,aY,aX,aF,Bool.and_true,Bool.and_false,aF,bP,bR,dI,fD,aW,bE,aJ,aH,dO,anyPre,Region.binds,Bool.not_true,Bool.not_false,aE,if_true,if_false,aP,aO,Bool.true_and,Bool.false_and,aT,aK,aD,aC,List.append_nil,aL,bK,aQ,bA,Nat.reduceAdd];rfl
       simp -implicitDefEqProofs (disch:=omega) only[go_sem,simprocAttr];refine cO (fun(q:Nat×AV×List AObj)=>(rp 16 .k (.v (q.2.1)::(rp 6 .k (.j::.j::.j::(rp 105 .k (.v (.i .i64 (q.1:Nat))::(rp 18 .j [.k,.k,.k])))))))) (fun q=>(.box false [.box (eP s) 0]::.box false (tmC p)::.box false (tmC t)::q.2.2)) (fun q=>(q.1=0∧q.2.1=out3∧q.2.2=g3++.box false [.sl (w.u.flatMap prT) w.u.length,.sl (w.tk.map .b) w.tk.length]::.box false [.i .i64 8,.i .i64 0,.s [],.s [],.sl (L.flatMap aM) L.length,.e0]::g4)∨(q.1=1∧gD 1 3 q.2.2 q.2.1 (((W.take (c+1)).flatMap fun w=>sY s p (jE t.kids w)).map avu) ((W.take (c+1)).flatMap fun w=>sY s p (jE t.kids w)).length)) (fun q=>1-q.1) ((0,out3,_)) (.inl ⟨rfl,rfl,rfl⟩) rfl (by simp[fO]) ?_;rintro⟨x,out4,g6⟩ j7 hq;dsimp only at hq;rcases hq with⟨rfl,rfl,rfl⟩|⟨rfl,ho6⟩
       ·have hr1:decide ((0:Int)<((p.rest.length:Nat):Int))=true:=zt (by omega);simp -implicitDefEqProofs (disch:=omega) only[hr1,go_sem,simprocAttr];repeat refine aU (by omega) ?_
        refine bM cb ?_ ?_
        ·simp -implicitDefEqProofs (disch:=omega) only[elT,aI,avu,cD,avt,List.flatMap_nil,cH,go_sem,simprocAttr];trace_state
        cases fl with
        |true=>
         simp -implicitDefEqProofs (disch:=omega) only[avu,go_sem,simprocAttr];rw[if_pos rfl]at hEnd;refine eI (pre:=[.box false [.box (eP s) 0],.box false (tmC p),.box false (tmC t)]) (g:=g3++(.box false [.sl (w.u.flatMap prT) w.u.length,.sl (w.tk.map .b) w.tk.length]::.box false [.i .i64 8,.i .i64 0,.s [],.s [],.sl (L.flatMap aM) L.length,.e0]::g4)) (more:=[.box false (tmC ((p.rest.getD 0 default))),.arr false 1 [.sl (v.flatMap prT) (List.length v)]]) (news:=[.sl (v.flatMap prT) (List.length v)]) (m:=1) (ho3.more _) rfl ?_ bBg aXo aYa bCq rfl (by decide) ?_ ?_ ⟨by omega,by omega⟩ ?_
         ·simp only[aH,aJ,cK]
         ·simp -implicitDefEqProofs (disch:=omega) only[go_sem,simprocAttr]
         ·simp -implicitDefEqProofs (disch:=omega) only[go_sem,simprocAttr]
         intro out' g' ho' _;simp -implicitDefEqProofs (disch:=omega) only[go_sem,simprocAttr];refine⟨(1,out',g'),.inr ⟨rfl,?_⟩,by dsimp only;omega,rfl,by simp⟩;dsimp only;rw[hsc,hEnd,bO,List.length_append];exact ho'
        |false=>
         simp -implicitDefEqProofs (disch:=omega) only[avu,go_sem,simprocAttr];rw[if_neg (by simp)]at hEnd;refine⟨(1,out4,_),.inr ⟨rfl,?_⟩,by dsimp only;omega,rfl,by simp⟩;dsimp only;rw[hsc,hEnd,List.append_nil];exact ho3.more _
       ·have hr1:decide (((1:Nat):Int)<((p.rest.length:Nat):Int))=false:=zf (by omega);have hr2:decide ((1:Int)<((p.rest.length:Nat):Int))=false:=hr1;simp -implicitDefEqProofs (disch:=omega) only[hr1,hr2,go_sem,simprocAttr];refine⟨(c+1,out4,g6),⟨by dsimp only;omega,by dsimp only;exact ho6⟩,by dsimp only;omega,rfl,by simp⟩
    ·have hci:¬(c:Int)<((W.length:Nat):Int):=by omega
     rw[aS (by omega)]at ho3;simp -implicitDefEqProofs (disch:=omega) only[zf hci,go_sem,simprocAttr];rw[pH]at hTe;have cl:=bFl (W.flatMap fun w=>sY s p (jE t.kids w));obtain⟨k1,_,_,_⟩:=jX (pre:=[.box false [cD s],.box false (tmC p),.box false (tmC t)]) ho3 iW;simp only[aH,aJ,cD]at k1;refine vY cl ?_ (fun hm=>⟨by rw[hTe,if_pos (of_decide_eq_true hm)],rfl⟩) (fun hm=>?_)
     ·rw[aK,aT,k1];rfl
     generalize gB (avw (W.flatMap fun w=>sY s p (jE t.kids w))) _ _=H;rw[show ∀H,mat (avw (W.flatMap fun w=>sY s p (jE t.kids w))) H=(avw (W.flatMap fun w=>sY s p (jE t.kids w)),H)from fun H=>rfl];simp -implicitDefEqProofs (disch:=omega) only[go_sem,simprocAttr];rw[hTe,if_neg (of_decide_eq_false hm)];exact⟨rfl,.inl ⟨rfl,gS _⟩⟩
end Go.Proofs.YtdjcggcjlphdoaaGreatDoor
