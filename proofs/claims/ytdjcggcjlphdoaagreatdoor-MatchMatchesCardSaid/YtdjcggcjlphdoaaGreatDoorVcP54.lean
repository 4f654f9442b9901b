/-
  Functions of the chapter, as plain functions of what they are given; no condition.
-/
import Derived.Test.YtdjcggcjlphdoaaGreatDoorVcP53
set_option maxRecDepth 100000
set_option linter.unusedSimpArgs false
set_option linter.unusedVariables false
set_option maxHeartbeats 4000000
namespace Go.Proofs.YtdjcggcjlphdoaaGreatDoor
open Go Go.Vo
open Nat (reduceAdd reduceSub reduceMul reduceLeDiff reduceLT reduceEqDiff)
open Int (reduceNeg)
def pM(w:jV):List AV:=[avu w.u,avt w.left]
def aPl(l:List jV):AV:=.sl (l.flatMap pM) l.length
theorem aPp(w:jV):(pM w).length=2:=rfl
theorem aRp(w:jV):persL (pM w)=true:=by rw[pM,persL,aJi,Bool.true_and,persL,aB];exact⟨eW,rfl⟩
theorem uS{l:List jV}:persL (l.flatMap pM)=true:=lT fun x _=>aRp x
theorem aBn{l:List jV}:(l.flatMap pM).length=l.length*2:=pW aPp l
theorem bHc{l:List jV}{k:Nat}(h:k<l.length):((l.flatMap pM).drop (k*2)).take 2=pM (l.getD k default):=by
 rw[sD aPp];simp[h,List.getD]
attribute [go_sem] bHc aBn uS aRp
theorem aGo(l:List jV):pers (aPl l)=true:=uS
theorem aZf{l:List LSub}{k:Nat}:pers (.sl (l.map avu) k)=true:=iW
abbrev WR:=List jV×Bool
abbrev MKW(s:dF)(r:WR):AV→List AObj→Prop:=fun v h'=>gJ dep h' v=aPl r.1∧∃z,Vo.freeze (eB dep h' v) h'=[.box false [.sl (s.sorts.map .s) s.sorts.length,.sl (s.below.flatMap bZ) s.below.length,.sl (s.ops.flatMap bG) s.ops.length,.sl (s.funs.flatMap bG) s.funs.length,.sl (s.values.map .s) s.values.length,.b (r.2)]]++z
section
variable {A:LTerm→LTerm→List LSub→Bool→MR} {s:dF} {key value:LTerm}
theorem aEl:∀{ws:List jV} {b:Bool} {k:Nat},k<ws.length →
 lE A s key value (ws.take (k+1)) b=((lE A s key value (ws.take k) b).1++(mC A s key value (ws.getD k default) ((ws.getD k default).left.length / 2) (lE A s key value (ws.take k) b).2).1,(mC A s key value (ws.getD k default) ((ws.getD k default).left.length / 2) (lE A s key value (ws.take k) b).2).2)
 |w::ws,b,0,_=>by simp[lE]
 |w::ws,b,k+1,h=>by
  rw[aL,lE,aEl (by simpa using h),aL,lE,cK];rfl
 | [],_,_,h=>by simp at h
end
def mD(key:LTerm)(u:LSub):Option LTerm:=if key.kind=6 then mOf u key.text else some key
theorem R4{s:dF}{key:LTerm}{w:jV}{k:Nat}(h:mD key w.u=none):mO s key w k=kG s key (w.left.getD (2*k) default) w.u:=by
 rw[mO,show(if key.kind=6 then mOf w.u key.text else some key)=none from h]
theorem R3{s:dF}{key a:LTerm}{w:jV}{k:Nat}(h:mD key w.u=some a):mO s key w k=if a=w.left.getD (2*k) default then [w.u]else []:=by
 rw[mO,show(if key.kind=6 then mOf w.u key.text else some key)=some a from h]
theorem cAz(s:dF)(n:Nat)(b:Bool)(ps ts:List LTerm)(l:List LSub)(m:Nat)(hA:∀p∈ps,bGv s n p)(ht:∀t∈ts,OkN t∧fN s t=true∧nodesT t≤1000000)(hlen:ps.length≤ts.length)(hp1:ps.length≤1000000)(hu:tD m l)(hl:l.length≤1000)(hmm:m+nodesL ps≤1000000) :
 ACalls Tryz.prog G0 105 [.ptr 0 0,avt ps,avt ts,avw l] [.box false [.sl (s.sorts.map .s) s.sorts.length,.sl (s.below.flatMap bZ) s.below.length,.sl (s.ops.flatMap bG) s.ops.length,.sl (s.funs.flatMap bG) s.funs.length,.sl (s.values.map .s) s.values.length,.b (b)]] (fun r h'=>r=avw (jH (dX s n) ps ts l b).1∧h'=[.box false [.sl (s.sorts.map .s) s.sorts.length,.sl (s.below.flatMap bZ) s.below.length,.sl (s.ops.flatMap bG) s.ops.length,.sl (s.funs.flatMap bG) s.funs.length,.sl (s.values.map .s) s.values.length,.b ((jH (dX s n) ps ts l b).2)]]):=
 jI g0 (cDv s n b ps ts l m hA ht hlen hp1 hu hl hmm) (gS _) (by rw[fJ,wH];rfl) (bT _)
theorem aHh{P:Program}{G:Glob}{f:FuncId}{A:List AV}{h:List AObj}{K:AV→List AObj→Prop}{a:AV}(j:Nat)(hj:A[j]? = some a)(s:ACalls P G f (A.set j (gJ dep h a)) (Vo.freeze (eB dep h a) h) K):ACalls P G f A h K:=by
 refine⟨s.1,fun X w vs g hl hr=>?_⟩;have hjv:j<vs.size:=hl▸bH hj;have hv:vs[j]? = some vs[j]:=bV hjv;obtain⟨X',g',r',t⟩:=nQ g (hr j a vs[j] hj hv);refine(s.2 X' w vs g' (by rw[List.length_set];exact hl) (fun k b v hb hk=>?_)).mono ?_
 ·by_cases hkj:j=k
  ·subst hkj;rw[gV (bH hj)]at hb;rw[hv]at hk;cases hb;cases hk;exact r'
  ·rw[dH hkj]at hb;exact(hr k b v hb hk).mono t.ext
 ·rintro e w' ⟨v,r,h',X2,h1,h2,h3,h4,t2⟩;exact⟨v,r,h',X2,h1,h2,h3,h4,t.trans t2⟩
theorem aTn{N:DR}{h t:List AObj}{x y:AObj}{ids:List Nat}(hn:¬N.old 0)(e:Vo.freeze ids h=x::t):mN N h (y::t):=fun i o hi ho=>by
 have h1:=lV ids h i;rw[e,ho]at h1;cases i with
 |zero=>exact absurd hi hn
 |succ i=>
  refine⟨if i+1∈ids then o.fz else o,?_,?_⟩
  ·rw[bU]at h1 ⊢;rw[h1];rfl
  ·split
   ·cases o<;>rfl
   ·rfl
theorem aLo{s:dF}{b b':Bool}{N:DR}{f:FuncId}{A A0:List AV}{a r:AV}{d:Option Nat}{os:List fK}{K:List AV→List AObj→Prop}{env:List AV}{h t:List AObj}(j:Nat)(hj:A[j]? = some a)(c:ACalls Tryz.prog G0 f A0 [.box false [.sl (s.sorts.map .s) s.sorts.length,.sl (s.below.flatMap bZ) s.below.length,.sl (s.ops.flatMap bG) s.ops.length,.sl (s.funs.flatMap bG) s.funs.length,.sl (s.values.map .s) s.values.length,.b (b)]] (fun r0 h1=>r0=r∧h1=[.box false [.sl (s.sorts.map .s) s.sorts.length,.sl (s.below.flatMap bZ) s.below.length,.sl (s.ops.flatMap bG) s.ops.length,.sl (s.funs.flatMap bG) s.funs.length,.sl (s.values.map .s) s.values.length,.b (b')]]))(hr:pers r=true)
 (he:Vo.freeze (eB dep h a) h=.box false [.sl (s.sorts.map .s) s.sorts.length,.sl (s.below.flatMap bZ) s.below.length,.sl (s.ops.flatMap bG) s.ops.length,.sl (s.funs.flatMap bG) s.funs.length,.sl (s.values.map .s) s.values.length,.b (b)]::t) (hA:A.set j (gJ dep h a)=renL (emb [0] (.box false [.sl (s.sorts.map .s) s.sorts.length,.sl (s.below.flatMap bZ) s.below.length,.sl (s.ops.flatMap bG) s.ops.length,.sl (s.funs.flatMap bG) s.funs.length,.sl (s.values.map .s) s.values.length,.b (b)]::t).length) A0) (hn:¬N.old 0) (k:dE Tryz.prog (pl G0) (some N) os K (hJ env d r) (.box false [.sl (s.sorts.map .s) s.sorts.length,.sl (s.below.flatMap bZ) s.below.length,.sl (s.ops.flatMap bG) s.ops.length,.sl (s.funs.flatMap bG) s.funs.length,.sl (s.values.map .s) s.values.length,.b (b')]::t)):bNk Tryz.prog (pl G0) N f A d os K env h:=by
 refine⟨r,.box false [.sl (s.sorts.map .s) s.sorts.length,.sl (s.below.flatMap bZ) s.below.length,.sl (s.ops.flatMap bG) s.ops.length,.sl (s.funs.flatMap bG) s.funs.length,.sl (s.values.map .s) s.values.length,.b (b')]::t,aHh j hj ?_,aTn hn he,k⟩;rw[he];exact(rF 0 g0 c uU uU hr rfl hA)
theorem aSp{s:dF}{r:WR}{g:List AObj}{x y:AObj}{out:AV}(ho:gD 2 3 g out (r.1.flatMap pM) r.1.length):MKW s r out (.box false [.sl (s.sorts.map .s) s.sorts.length,.sl (s.below.flatMap bZ) s.below.length,.sl (s.ops.flatMap bG) s.ops.length,.sl (s.funs.flatMap bG) s.funs.length,.sl (s.values.map .s) s.values.length,.b (r.2)]::x::y::g):=by
 obtain⟨k1,g',_,k3⟩:=jX (pre:=[.box false [.sl (s.sorts.map .s) s.sorts.length,.sl (s.below.flatMap bZ) s.below.length,.sl (s.ops.flatMap bG) s.ops.length,.sl (s.funs.flatMap bG) s.funs.length,.sl (s.values.map .s) s.values.length,.b (r.2)],x,y]) ho uS;exact⟨k1,x::y::g',k3⟩
theorem bDw{P:Program}{G:Md}{c:AV}{a b:kV}{R:List AV→List AObj→Prop}{Q:Exit→List AV→List AObj→Prop}{env:List AV}{h:List AObj}(ps:List bDr)(hp:List AObj)
 (first:Q0 P G c a b (zD (fun e' h'=>h'=hp∧fO ps env e') Q) env h) (rest:∀j:Nat→AV,R (xP j 0 ps env) hp):Q0 P G c a b (zD R Q) env h:=by
 have mono:∀x e h',zD (fun e' h'=>h'=hp∧fO ps env e') Q x e h'→zD R Q x e h':=fun x e h' k=>by
  cases x;case normal=>
   obtain⟨rfl,hf⟩:=k;have he:xP (fun n=>e.getD n .u) 0 ps env=e:=aSq _ env e 0 _ (fun m v hv=>by simp[List.getD,hv]) hf;have r:=rest (fun n=>e.getD n .u);rw[he]at r;exact r
  all_goals exact k
 unfold Q0 sZ at *
 cases c<;>first|exact⟨fun e=>nC mono (first.1 e),fun e=>nC mono (first.2 e)⟩|exact first
theorem eZ{α:Type}{l:List α}{k:Nat}{d:α}(h:k<l.length):l.take (k+1)=l.take k++[l.getD k d]:=by
 rw[List.take_add_one,bQ h,eY,bQ h];rfl
theorem bQs(s:dF)(n:Nat)(b:Bool)(key value t:LTerm)(ws:List jV)(m:Nat)(hm:Small s)(hs:OkS s)(hv:fM s=true)(hA:bGv s n value)(ht:OkN t)(hpl:∀x∈t.kids,fN s x=true)(hnk:∀x∈t.kids,nodesT x≤1000000)(htl:t.kids.length≤1000000)(hkk:OkT key)(hws:aIk t m ws)(hl:ws.length≤1000)(hmm:m+1+nodesT value≤1000000): ACalls Tryz.prog G0 177 [.ptr 0 0,elT key,elT value,aPl ws] [.box false [.sl (s.sorts.map .s) s.sorts.length,.sl (s.below.flatMap bZ) s.below.length,.sl (s.ops.flatMap bG) s.ops.length,.sl (s.funs.flatMap bG) s.funs.length,.sl (s.values.map .s) s.values.length,.b (b)]] (MKW s (nJ (dX s n) s key value ws b)):=by
 refine jD (rx:=true) (th:=fun i=>if i=14 then some ⟨none,[],false,false,true,[],[],9⟩else if i=17 then some ⟨none,[0],false,false,false,[],[76],0⟩else none) cI Tryz.func177 ?_
 ·simp -implicitDefEqProofs (disch:=omega) only[Tryz.f177,go_sem,List.replicate,simprocAttr,aPl];refine cO (fun(q:Nat×AV×List AObj)=>(rp 9 .k (.v (q.2.1)::.k::(rp 5 .j (.k::.j::.k::.k::.v (.i .i64 (q.1:Nat))::(rp 72 .j (rp 7 .k []))))))) (fun q=>(.box false [.sl (s.sorts.map .s) s.sorts.length,.sl (s.below.flatMap bZ) s.below.length,.sl (s.ops.flatMap bG) s.ops.length,.sl (s.funs.flatMap bG) s.funs.length,.sl (s.values.map .s) s.values.length,.b ((lE (dX s n) s key value (ws.take q.1) b).2)]::.box false (tmC key)::.box false (tmC value)::q.2.2)) (fun q=>q.1≤ws.length∧gD 2 3 q.2.2 q.2.1 ((lE (dX s n) s key value (ws.take q.1) b).1.flatMap pM) (lE (dX s n) s key value (ws.take q.1) b).1.length) (fun q=>ws.length-q.1) ((0,.e0,[])) ⟨aR _,eX⟩ rfl (by simp[fO]) ?_;rintro⟨k,out,g⟩ j ⟨hk,ho⟩;dsimp only at hk ho;by_cases hlt:k<ws.length
  ·have hki:(k:Int)<((ws.length:Nat):Int):=by omega
   have hw:=hws _ (cC (d:=default) hlt);have hu1:=hw.u.1;have hle:=hw.len;have hev:=hw.even;have e:=aEl (A:=dX s n) (s:=s) (key:=key) (value:=value) (b:=b) hlt;have hLl:(lE (dX s n) s key value (ws.take k) b).1.length≤1000*(1000000*1000):=
    hZ (aHs (s:=s) (key:=key) (mQ n value) ht (ws.take k) b (fun w h=>hws w (dS h))).2 (Nat.mul_le_mul (by rw[bS];omega) (Nat.mul_le_mul htl (bT _)))
   generalize lE (dX s n) s key value (ws.take k) b=L at *
   obtain⟨L,bL⟩:=L;dsimp only at ho e hLl ⊢;have c0:=bFq (ws.getD k default).u key.text (by omega);generalize hW:ws.getD k default=w at *
   refine zh (zA2 (zt hki) (zA2 @pM.eq_1 hW)) ?_;refine⟨by omega,by omega,?_⟩;refine bDw (rp 13 .k (.v (.b (mD key w.u).isSome)::(rp 14 .k (rp 8 .j (rp 64 .k []))))) (.box false [.sl (s.sorts.map .s) s.sorts.length,.sl (s.below.flatMap bZ) s.below.length,.sl (s.ops.flatMap bG) s.ops.length,.sl (s.funs.flatMap bG) s.funs.length,.sl (s.values.map .s) s.values.length,.b (bL)]::.box false (tmC key)::.box false (tmC value)::(g++[.box false (pM w),.box false [.i .i64 (((mD key w.u).getD zT)).kind,.i .i64 (((mD key w.u).getD zT)).n,.s (((mD key w.u).getD zT)).text,.s (((mD key w.u).getD zT)).sort,.sl ((((mD key w.u).getD zT)).kids.flatMap aM) (((mD key w.u).getD zT)).kids.length,.sl ((((mD key w.u).getD zT)).rest.flatMap aM) (((mD key w.u).getD zT)).rest.length]])) ?_ ?_
   ·by_cases h6:key.kind=6
    ·have hko:mD key w.u=mOf w.u key.text:=if_pos h6;cases hO:mOf w.u key.text with
     |none=>
      rw[hO,sX,elT,aI]at c0;simp -implicitDefEqProofs (disch:=omega) only[zt h6,avu,hko,hO,pM,gP,jT,go_sem,simprocAttr];(repeat'(first|refine gT ?_ ?_|refine gF ?_ ?_|refine gC ?_ ?_|((refine bM (c0) ?_ ?_;(focus(simp -implicitDefEqProofs (disch:=omega) only[zt h6,avu,hko,hO,pM,gP,jT,zdB,go_sem,simprocAttr];done)));simp -implicitDefEqProofs (disch:=omega) only[zt h6,avu,hko,hO,pM,gP,jT,go_sem,simprocAttr])|refine aU (by omega) ?_|(intro hr;have hc:=hr;(try simp only[zdz]at hc);simp -implicitDefEqProofs (disch:=omega) only[hr,zt h6,avu,hko,hO,pM,gP,jT,go_sem,simprocAttr];(try clear hr))));all_goals rfl
     |some a=>
      rw[hO,sX,elT,aI]at c0;simp -implicitDefEqProofs (disch:=omega) only[zt h6,avu,hko,hO,pM,fY,eC,go_sem,simprocAttr];(repeat'(first|refine gT ?_ ?_|refine gF ?_ ?_|refine gC ?_ ?_|((refine bM (c0) ?_ ?_;(focus(simp -implicitDefEqProofs (disch:=omega) only[zt h6,avu,hko,hO,pM,fY,eC,zdB,go_sem,simprocAttr];done)));simp -implicitDefEqProofs (disch:=omega) only[zt h6,avu,hko,hO,pM,fY,eC,go_sem,simprocAttr])|refine aU (by omega) ?_|(intro hr;have hc:=hr;(try simp only[zdz]at hc);simp -implicitDefEqProofs (disch:=omega) only[hr,zt h6,avu,hko,hO,pM,fY,eC,go_sem,simprocAttr];(try clear hr))));all_goals rfl
    ·have hko:mD key w.u=some key:=if_neg h6;simp -implicitDefEqProofs (disch:=omega) only[zf h6,hko,pM,avu,fY,eC,go_sem,simprocAttr]
   intro j2;refine zg ?_;refine cO (fun(q:Nat×AV×List AObj)=>(rp 9 .k (.v (q.2.1)::.k::.k::.k::.k::.v (.i .i64 (2*q.1:Nat))::.j::.k::.j::(rp 18 .k (rp 56 .j (rp 8 .k [])))))) (fun q=>(.box false [.sl (s.sorts.map .s) s.sorts.length,.sl (s.below.flatMap bZ) s.below.length,.sl (s.ops.flatMap bG) s.ops.length,.sl (s.funs.flatMap bG) s.funs.length,.sl (s.values.map .s) s.values.length,.b ((mC (dX s n) s key value w q.1 bL).2)]::.box false (tmC key)::.box false (tmC value)::q.2.2)) (fun q=>2*q.1≤w.left.length∧gD 2 3 q.2.2 q.2.1 ((L++(mC (dX s n) s key value w q.1 bL).1).flatMap pM) (L++(mC (dX s n) s key value w q.1 bL).1).length∧q.2.2[g.length]? = some (.box false (pM w))∧q.2.2[g.length+1]? = some (.box false [.i .i64 (((mD key w.u).getD zT)).kind,.i .i64 (((mD key w.u).getD zT)).n,.s (((mD key w.u).getD zT)).text,.s (((mD key w.u).getD zT)).sort,.sl ((((mD key w.u).getD zT)).kids.flatMap aM) (((mD key w.u).getD zT)).kids.length,.sl ((((mD key w.u).getD zT)).rest.flatMap aM) (((mD key w.u).getD zT)).rest.length])) (fun q=>w.left.length-2*q.1) ((0,out,g++[.box false (pM w),.box false [.i .i64 (((mD key w.u).getD zT)).kind,.i .i64 (((mD key w.u).getD zT)).n,.s (((mD key w.u).getD zT)).text,.s (((mD key w.u).getD zT)).sort,.sl ((((mD key w.u).getD zT)).kids.flatMap aM) (((mD key w.u).getD zT)).kids.length,.sl ((((mD key w.u).getD zT)).rest.flatMap aM) (((mD key w.u).getD zT)).rest.length]])) ⟨aR _,by dsimp only[mC];rw[List.append_nil];exact ho.more _,by simp,by simp⟩ rfl (by simp[fO]) ?_;rintro⟨i,out2,g2⟩ j3 ⟨hi,ho2,hw2,ha2⟩;dsimp only at hi ho2 hw2 ha2;by_cases hit:2*i<w.left.length
   ·have hii:((2*i:Nat):Int)<((w.left.length:Nat):Int):=by omega
    have hii':2*i+1<w.left.length:=by omega
    have hll:w.left.length≤1000000:=by omega
    have hNl:=(Z7 (s:=s) (key:=key) (mQ (s:=s) n value) hw ht i bL hi).2;have hm0:=hw.sub _ (cC (d:=default) hit);have hm1:=hw.sub _ (cC (d:=default) hii');have hgl:=bH hw2;have hwx:∀x:List AObj,(g2++x)[g.length]? = some (.box false (pM w)):=fun x=>by rw[aG hgl];exact hw2
    have hgl2:=bH ha2;have hst:=W1 (s:=s) (key:=key) hw ht hit;have hsucc:mC (dX s n) s key value w (i+1) bL=((mC (dX s n) s key value w i bL).1++(dX s n value (w.left.getD (2*i+1) default) (mO s key w i) (mC (dX s n) s key value w i bL).2).1.map fun u=>⟨u,T6 w.left (2*i)⟩,(dX s n value (w.left.getD (2*i+1) default) (mO s key w i) (mC (dX s n) s key value w i bL).2).2):=rfl;generalize hN:mC (dX s n) s key value w i bL=N at *
    obtain⟨NL,bN⟩:=N;dsimp only at hsucc ho2 hNl;have cA:=hA (w.left.getD (2*i+1) default) (mO s key w i) bN (m+1) (ht.kid hm1) (hpl _ hm1) (hnk _ hm1) hst.1 (by omega) hmm;have hRl:=(mQ (s:=s) n value (w.left.getD (2*i+1) default) (mO s key w i) bN (m+1) (ht.kid hm1) hst.1 (by omega)).2;generalize hR:dX s n value (w.left.getD (2*i+1) default) (mO s key w i) bN=R at *
    have haK:∀a,mD key w.u=some a→OkT a:=fun a h=>by
     rw[mD]at h;split at h
     ·exact aKc hw.u h
     ·cases h;exact hkk
    cases hK:mD key w.u;have cb:=bKc s bN key (w.left.getD (2*i) default) w.u m hm hs hw.u (by omega) (ht.kid hm0).1 (aQm hv (hpl _ hm0));rw[R4 hK]at cA;simp -implicitDefEqProofs (disch:=omega) only[zt hii,hw2,ha2,pM,hK,gP,Bool.not_false,go_sem,simprocAttr];(repeat'(first|refine gT ?_ ?_|refine gF ?_ ?_|refine gC ?_ ?_|refine aU (by omega) ?_|(intro hr;have hc:=hr;(try simp only[zdz]at hc);simp -implicitDefEqProofs (disch:=omega) only[hr,zt hii,hw2,ha2,pM,hK,gP,Bool.not_false,avu,go_sem,simprocAttr];(try clear hr))));refine aLn cb (gS _) (by simp only[elT,avu,renL,ren,aI,avt,renL_pers _ _ jG,renL_pers _ _ eW,mY]) ?_;refine zh (zA2 hw2 (zA2 ha2 (zA2 @pM.eq_1 @avu.eq_1))) ?_;repeat refine aU (by omega) ?_
    refine aLo 3 rfl cA (gS _) (t:=.box false (tmC key)::.box false (tmC value)::g2) (by rw[tO,if_pos (gS _)];rfl) (by simp only[List.set,fS,aZf,elT,avw,renL,ren,aI,avt,renL_pers _ _ eW,renL_pers _ _ iW,mY,if_true]) (by simp[DR.old]) ?_;refine zh @avw.eq_1 ?_;rotate_left;rename_i a;rw[R3 hK]at cA;have c3:=U6 a (w.left.getD (2*i) default) (haK a hK) (ht.kid hm0).1;simp only[hK,eC]at ha2;simp -implicitDefEqProofs (disch:=omega) only[zt hii,hw2,ha2,pM,hK,fY,Bool.not_true,avu,go_sem,simprocAttr];(repeat'(first|refine gT ?_ ?_|refine gF ?_ ?_|refine gC ?_ ?_|((refine bM (c3) ?_ ?_;(focus(simp -implicitDefEqProofs (disch:=omega) only[zt hii,hw2,ha2,hwx,pM,hK,fY,Bool.not_true,avu,zdB,go_sem,simprocAttr];done)));simp -implicitDefEqProofs (disch:=omega) only[zt hii,hw2,ha2,hwx,pM,hK,fY,Bool.not_true,avu,go_sem,simprocAttr])|refine aU (by omega) ?_|(intro hr;have hc:=hr;(try simp only[zdz]at hc);simp -implicitDefEqProofs (disch:=omega) only[hr,zt hii,hw2,ha2,hwx,pM,hK,fY,Bool.not_true,avu,go_sem,simprocAttr];(try clear hr))));rw[if_pos hc]at cA;repeat refine aU (by omega) ?_
    have KO:=jX (pre:=.box false [.sl (s.sorts.map .s) s.sorts.length,.sl (s.below.flatMap bZ) s.below.length,.sl (s.ops.flatMap bG) s.ops.length,.sl (s.funs.flatMap bG) s.funs.length,.sl (s.values.map .s) s.values.length,.b (bN)]::.box false (tmC key)::.box false (tmC value)::g2) (g:=[.arr false 1 [avu w.u]]) (sz:=1) (n:=1) (out:=.hs (0+(g2.length+1+1+1)) 0 1 false) (cells:=[avu w.u]) (.inr ⟨0,rfl,rfl,rfl⟩) (by rw[persL,aJi];rfl);simp only[dU,aH,avu]at KO;obtain⟨k1,g',k2,k3⟩:=KO;refine aLo 3 rfl cA (gS _) (t:=.box false (tmC key)::.box false (tmC value)::(g2++g')) k3 (by simp only[List.set];rw[show gJ dep _ (.hs (g2.length+1+1+1) 0 1 false)=_ from k1];simp only[elT,avw,avu,renL,ren,aI,avt,renL_pers _ _ eW,renL_pers _ _ jG,mY,aK,aT,bB,cH]) (by simp[DR.old]) ?_;refine zh @avw.eq_1 ?_;have ho2:=ho2.more g';have hw2:(g2++g')[g.length]? = some (.box false (pM w)):=by rw[aG (bH hw2)];exact hw2
    have ha2:(g2++g')[g.length+1]? = some (.box false (tmC a)):=by rw[aG (bH ha2)];exact ha2
    generalize g2++g'=g2 at *
    rotate_left;rw[if_neg hc]at cA;repeat refine aU (by omega) ?_
    refine aLo 3 rfl cA (gS _) (t:=.box false (tmC key)::.box false (tmC value)::g2) (by rw[uR rfl];rfl) (by simp only[List.set,fS,elT,avw,renL,ren,aI,avt,renL_pers _ _ eW,mY,aT,cH];rfl) (by simp[DR.old]) ?_;refine zh @avw.eq_1 ?_;all_goals
     refine cO (fun(q:Nat×AV×List AObj)=>(rp 9 .k (.v (q.2.1)::(rp 7 .k (.j::(rp 60 .k (.v (.i .i64 (q.1:Nat))::(rp 13 .j (rp 8 .k []))))))))) (fun q=>(.box false [.sl (s.sorts.map .s) s.sorts.length,.sl (s.below.flatMap bZ) s.below.length,.sl (s.ops.flatMap bG) s.ops.length,.sl (s.funs.flatMap bG) s.funs.length,.sl (s.values.map .s) s.values.length,.b (R.2)]::.box false (tmC key)::.box false (tmC value)::q.2.2)) (fun q=>q.1≤R.1.length∧gD 2 3 q.2.2 q.2.1 ((L++(NL++(R.1.take q.1).map (jV.mk · (T6 w.left (2*i))))).flatMap pM) (L++(NL++(R.1.take q.1).map (jV.mk · (T6 w.left (2*i))))).length∧q.2.2[g.length]? = some (.box false (pM w))∧q.2.2[g.length+1]? = some (.box false [.i .i64 (((mD key w.u).getD zT)).kind,.i .i64 (((mD key w.u).getD zT)).n,.s (((mD key w.u).getD zT)).text,.s (((mD key w.u).getD zT)).sort,.sl ((((mD key w.u).getD zT)).kids.flatMap aM) (((mD key w.u).getD zT)).kids.length,.sl ((((mD key w.u).getD zT)).rest.flatMap aM) (((mD key w.u).getD zT)).rest.length])) (fun q=>R.1.length-q.1) ((0,out2,g2)) ⟨aR _,by simpa using ho2,hw2,by simpa only[hK,eC,jT]using ha2⟩ rfl (by simp[fO]) ?_
     rintro⟨c,out3,g3⟩ j4 ⟨hc5,ho3,hw3,ha3⟩
     dsimp only at hc5 ho3 hw3 ha3
     by_cases hct:c<R.1.length
     ·have hci:(c:Int)<((R.1.length:Nat):Int):=by omega
      have hX:L++(NL++(R.1.take (c+1)).map (jV.mk · (T6 w.left (2*i))))=(L++(NL++(R.1.take c).map (jV.mk · (T6 w.left (2*i)))))++[⟨R.1.getD c default,T6 w.left (2*i)⟩]:=by
       rw[eZ (d:=default) hct,bO];simp only[cK,aK,aT]
      have hbig:(L++(NL++(R.1.take c).map (jV.mk · (T6 w.left (2*i))))).length≤2000000000000:=by
       rw[List.length_append,List.length_append,cZ,bS];omega
      have hlX:L.length+(NL.length+(List.take (c+1) R.1).length)=(L++(NL++(R.1.take c).map (jV.mk · (T6 w.left (2*i))))).length+1:=by
       simp only[List.length_append,cZ,bS];omega
      have cw:=bSb w.left (2*i) hll (by omega);refine zh (zA2 (zt hci) (zA2 hw3 (zA2 @pM.eq_1 @avu.eq_1))) ?_;(refine zy1 (zA2 (zt hci) (zA2 hw3 (zA2 @pM.eq_1 (zA2 @avu.eq_1 (zA2 @mL (zA2 @dV.{0} (zA2 @eO.{0} @List.append_nil.{0}))))))) cw ?_;repeat' first|exact trivial|refine zJ ?_ ?_|refine zH fun hc=>?_);refine eI (pre:=[_,_,_]) (news:=[.sl ((R.1.getD c default).flatMap prT) (R.1.getD c default).length,avt (T6 w.left (2*i))]) (m:=1) ho3 rfl rfl bQu bNn bOl bUt rfl (by decide) (by simp -implicitDefEqProofs (disch:=omega) only[go_sem,simprocAttr]) (by simp -implicitDefEqProofs (disch:=omega) only[go_sem,simprocAttr]) ⟨by omega,by omega⟩ ?_;intro out' g' ho' hkeep;refine zg ?_;refine⟨(c+1,out',g'),⟨by dsimp only;omega,?_,?_,?_⟩,by dsimp only;omega,rfl,by simp⟩
      ·dsimp only;rw[hX,List.flatMap_append,hlX];exact ho'
      ·exact hkeep _ _ hw3 (fun c h=>by cases h)
      ·exact hkeep _ _ ha3 (fun c h=>by cases h)
     ·have hci:¬(c:Int)<((R.1.length:Nat):Int):=by omega
      refine zh (zf hci) ?_;rw[aS (by omega)]at ho3;refine⟨(i+1,out3,g3),⟨by dsimp only;omega,?_,hw3,?_⟩,by dsimp only;omega,?_,?_⟩
      ·dsimp only;rw[hsucc,← List.length_append];exact ho3
      ·rw[hK]at ha3;exact ha3
      ·dsimp only;rw[hsucc]
      ·refine⟨rfl,?_⟩;dsimp only;congr 1
   ·have hii:¬((2*i:Nat):Int)<((w.left.length:Nat):Int):=by omega
    obtain rfl:i=w.left.length / 2:=by omega
    refine zh (zA2 (zf hii) (zA2 hw2 (zA2 @pM.eq_1 @avu.eq_1))) ?_;refine⟨(k+1,out2,g2),⟨by dsimp only;omega,?_⟩,by dsimp only;omega,?_,?_⟩
    ·dsimp only;rw[e];exact ho2
    ·dsimp only;rw[e]
    ·exact⟨rfl,rfl⟩
  ·have hki:¬(k:Int)<((ws.length:Nat):Int):=by omega
   rw[aS (by omega)]at ho;rw[aS (by omega)];by_cases hmany:1000<(lE (dX s n) s key value ws b).1.length
   ·have e:nJ (dX s n) s key value ws b=([],true):=if_pos hmany;have hmi:(1000:Int)<(((lE (dX s n) s key value ws b).1.length:Nat):Int):=by omega
    rw[e];rcases ho with⟨rfl,h2,h3⟩|⟨i,rfl,hi,hl2⟩
    ·omega
    refine zh (zA2 (zf hki) (zA2 hi (zt hmi))) ?_;exact aSp eX
   ·have e:nJ (dX s n) s key value ws b=lE (dX s n) s key value ws b:=if_neg hmany;have hmi:¬(1000:Int)<(((lE (dX s n) s key value ws b).1.length:Nat):Int):=by omega
    have hm:=aSp (s:=s) (r:=lE (dX s n) s key value ws b) (x:=.box false (tmC key)) (y:=.box false (tmC value)) ho;rw[e];rcases ho with⟨rfl,h2,h3⟩|⟨i,rfl,hi,hl2⟩
    ·refine zh (zA2 (zf hki) (zf (by omega:¬(1000:Int)<0))) ?_;exact hm
    ·refine zh (zA2 (zf hki) (zA2 hi (zf hmi))) ?_;exact hm
theorem bPu(s:dF)(n:Nat)(b:Bool)(key value t:LTerm)(ws:List jV)(m:Nat)(hm:Small s)(hs:OkS s)(hv:fM s=true)(hA:bGv s n value)(ht:OkN t)(hpl:∀x∈t.kids,fN s x=true)(hnk:∀x∈t.kids,nodesT x≤1000000)(htl:t.kids.length≤1000000)(hkk:OkT key)(hws:aIk t m ws)(hl:ws.length≤1000)(hmm:m+1+nodesT value≤1000000) :
 ACalls Tryz.prog G0 177 [.ptr 0 0,elT key,elT value,aPl ws] [.box false [.sl (s.sorts.map .s) s.sorts.length,.sl (s.below.flatMap bZ) s.below.length,.sl (s.ops.flatMap bG) s.ops.length,.sl (s.funs.flatMap bG) s.funs.length,.sl (s.values.map .s) s.values.length,.b (b)]] (fun r h'=>r=aPl (nJ (dX s n) s key value ws b).1∧h'=[.box false [.sl (s.sorts.map .s) s.sorts.length,.sl (s.below.flatMap bZ) s.below.length,.sl (s.ops.flatMap bG) s.ops.length,.sl (s.funs.flatMap bG) s.funs.length,.sl (s.values.map .s) s.values.length,.b ((nJ (dX s n) s key value ws b).2)]]):=
 jI g0 (bQs s n b key value t ws m hm hs hv hA ht hpl hnk htl hkk hws hl hmm) (aGo _) (by rw[fJ,wH];rfl) (bT _)
theorem aYd{t:LTerm}{m:Nat}{l:List LSub}(hu:tD m l)(he:t.kids.length % 2=0):aIk t m (l.map (jV.mk · t.kids)):=fun w hw=>by
 obtain⟨u,hu',rfl⟩:=dP.1 hw;exact⟨hu u hu',he,fun x hx=>hx,bT _⟩
theorem Y0{s:dF}{p:LTerm}{w:jV}:(sY s p w).length≤1:=by
 rw[sY];split
 ·exact yN
 ·split<;>simp
theorem F3{s:dF}{p:LTerm}:∀{l:List jV},(l.flatMap (sY s p)).length≤l.length
 | []=>by simp
 |u::l=>by
  have h1:=Y0 (s:=s) (p:=p) (w:=u);have h2:=F3 (s:=s) (p:=p) (l:=l);rw[List.flatMap_cons,List.length_append,bB];omega
def aBb(g g':List AObj):Prop:=∀(i:Nat) (o:AObj),g[i]? = some o→(∀c:List AV,o ≠ .arr false 1 c)→g'[i]? = some o
theorem aBb.more{g g':List AObj}(h:aBb g g')(x:List AObj):aBb g (g'++x):=fun i o hi hn=>by
 have:=h i o hi hn;rw[aG (bH this)];exact this
theorem aBb.trans{g g1 g2:List AObj}(h:aBb g g1)(h2:aBb g1 g2):aBb g g2:=fun i o hi hn=>h2 i o (h i o hi hn) hn
theorem bHv{h:List AObj}{l:List LTerm}:gJ dep h (.agg [.i .i64 8,.i .i64 0,.s [],.s [],.sl (l.flatMap aM) l.length,.e0])=elT (.mk 8 0 [] [] l []):=by
 rw[elT,aI,fS];simp[pers,persL,avt,eW,rQ];exact⟨rfl,rfl,rfl,rfl,by rw[gJ,if_pos (show pers (AV.sl _ _)=true from eW)];rfl,rfl⟩
theorem bOi(s : dF)(n:Nat)(b:Bool)(p t:LTerm)(l:List LSub)(m:Nat)(hm:Small s)(hs:OkS s)(hv:fM s=true)(hA:∀q∈p.kids,bGv s n q)(hp:OkN p)(hp8:p.kind=8)(hpl1:p.kids.length≤1000000)(ht:OkN t)(ht8:t.kind=8)(hpl:∀x∈t.kids,fN s x=true)(hnk:∀x∈t.kids,nodesT x≤1000000)(htl:t.kids.length≤1000000)(hu:tD m l)(hl:l.length≤1000)(hmm:m+nodesT p≤1000000): ACalls Tryz.prog G0 107 [.ptr 0 0,elT p,elT t,avw l] [.box false [.sl (s.sorts.map .s) s.sorts.length,.sl (s.below.flatMap bZ) s.below.length,.sl (s.ops.flatMap bG) s.ops.length,.sl (s.funs.flatMap bG) s.funs.length,.sl (s.values.map .s) s.values.length,.b (b)]] (MK s (lK (dX s n) s p t l b)):=by
 refine jD (rx:=true) (th:=fun i=>if i=10 then some ⟨none,[],false,false,true,[],[],13⟩else if i=16 then some ⟨none,[0],false,false,true,[],[72],12⟩else none) cI Tryz.func107 ?_
 ·simp -implicitDefEqProofs (disch:=omega) only[Tryz.f107,go_sem,List.replicate,simprocAttr,avw];refine cO (fun(q:Nat×AV×List AObj)=>(rp 9 .k (.v (q.2.1)::.k::.j::(rp 6 .k (.v (.i .i64 (q.1:Nat))::(rp 11 .j (rp 57 .k []))))))) (fun q=>(.box false [.sl (s.sorts.map .s) s.sorts.length,.sl (s.below.flatMap bZ) s.below.length,.sl (s.ops.flatMap bG) s.ops.length,.sl (s.funs.flatMap bG) s.funs.length,.sl (s.values.map .s) s.values.length,.b (b)]::.box false (tmC p)::.box false (tmC t)::q.2.2)) (fun q=>q.1≤l.length∧gD 2 3 q.2.2 q.2.1 (((l.take q.1).map (jV.mk · t.kids)).flatMap pM) ((l.take q.1).map (jV.mk · t.kids)).length) (fun q=>l.length-q.1) ((0,.e0,[])) ⟨aR _,eX⟩ rfl (by simp[fO]) ?_;rintro⟨k,out,g⟩ j ⟨hk,ho⟩;dsimp only at hk ho;by_cases hlt:k<l.length
  ·have hki:(k:Int)<((l.length:Nat):Int):=by omega
   have hX:(l.take (k+1)).map (jV.mk · t.kids)=(l.take k).map (jV.mk · t.kids)++[⟨l.getD k default,t.kids⟩]:=by
    rw[eZ (d:=default) hlt,bO];rfl
   have hbig:((l.take k).map (jV.mk · t.kids)).length≤1000:=by rw[cZ,bS];omega
   have hlX:(l.take (k+1)).length=((l.take k).map (jV.mk · t.kids)).length+1:=by simp only[cZ,bS];omega
   refine zh (zA2 (zt hki) (zA2 @avu.eq_1 (zA2 @mL (zA2 @dV.{0} (zA2 @eO.{0} @List.append_nil.{0}))))) ?_;(refine zx0 (zA2 (zt hki) (zA2 @avu.eq_1 (zA2 @mL (zA2 @dV.{0} (zA2 @eO.{0} @List.append_nil.{0}))))) ?_;repeat' first|exact trivial|refine zJ ?_ ?_|refine zH fun hc=>?_);refine eI (pre:=[_,_,_]) (news:=[.sl ((l.getD k default).flatMap prT) (l.getD k default).length,avt t.kids]) (m:=1) ho rfl rfl bQu bNn bOl bUt rfl (by decide) (by simp -implicitDefEqProofs (disch:=omega) only[go_sem,simprocAttr]) (by simp -implicitDefEqProofs (disch:=omega) only[go_sem,simprocAttr]) ⟨by omega,by omega⟩ ?_;intro out' g' ho' _;refine zg ?_;refine⟨(k+1,out',g'),⟨by dsimp only;omega,?_⟩,by dsimp only;omega,rfl,by simp⟩;dsimp only;rw[hX,List.flatMap_append,hlX];exact ho'
  ·have hki:¬(k:Int)<((l.length:Nat):Int):=by omega
   rw[aS (by omega)]at ho;refine zh (zf hki) ?_;have hws:=aYd hu (ht.even ht8);have hpe:=hp.even hp8;have hno:=gA p;have htab:=fun k hk=>aGb (A:=dX s n) (s:=s) (p:=p) (b:=b) (fun q _=>mQ n q) ht hws (by rw[cZ];exact hl) k hk;refine cO (fun(q:Nat×AV×List AObj)=>(rp 9 .k (.v (q.2.1)::.k::.k::.v (.i .i64 (2*q.1:Nat))::(rp 17 .k (rp 21 .j (rp 36 .k [])))))) (fun q=>(.box false [.sl (s.sorts.map .s) s.sorts.length,.sl (s.below.flatMap bZ) s.below.length,.sl (s.ops.flatMap bG) s.ops.length,.sl (s.funs.flatMap bG) s.funs.length,.sl (s.values.map .s) s.values.length,.b ((lX (dX s n) s p q.1 (l.map (jV.mk · t.kids),b)).2)]::.box false (tmC p)::.box false (tmC t)::q.2.2)) (fun q=>2*q.1≤p.kids.length∧(gD 2 3 q.2.2 q.2.1 ((lX (dX s n) s p q.1 (l.map (jV.mk · t.kids),b)).1.flatMap pM) (lX (dX s n) s p q.1 (l.map (jV.mk · t.kids),b)).1.length∨q.2.1=aPl (lX (dX s n) s p q.1 (l.map (jV.mk · t.kids),b)).1)) (fun q=>p.kids.length-2*q.1) ((0,out,g)) ⟨aR _,.inl ho⟩ rfl (by simp[fO]) ?_;rintro⟨i,out2,g2⟩ j2 ⟨hi,ho2⟩;dsimp only at hi ho2;by_cases hit:2*i<p.kids.length
   ·have hii:((2*i:Nat):Int)<((p.kids.length:Nat):Int):=by omega
    have hii':2*i+1<p.kids.length:=by omega
    obtain⟨hb1,hb2⟩:=htab i hi;have hn2:=uX (l:=p.kids) (k:=i) hii';have hn3:=iC (l:=p.kids) (k:=2*(i+1));have hn4:1≤nodesT (p.kids.getD (2*i) default):=by rw[gA];omega
    have ce:=bPu s n (lX (dX s n) s p i (l.map (jV.mk · t.kids),b)).2 (p.kids.getD (2*i) default) (p.kids.getD (2*i+1) default) t _ (m+nodesL (p.kids.take (2*i))) hm hs hv (hA _ (cC (d:=default) hii')) ht hpl hnk htl (hp.kid (cC (d:=default) hit)).1 hb1 hb2 (by omega);refine zh (zt hii) ?_;repeat refine aU (by omega) ?_
    rcases ho2 with ho2|rfl
    ·obtain⟨k1,g',k2,k3⟩:=jX (pre:=[.box false [.sl (s.sorts.map .s) s.sorts.length,.sl (s.below.flatMap bZ) s.below.length,.sl (s.ops.flatMap bG) s.ops.length,.sl (s.funs.flatMap bG) s.funs.length,.sl (s.values.map .s) s.values.length,.b ((lX (dX s n) s p i (l.map (jV.mk · t.kids),b)).2)],.box false (tmC p),.box false (tmC t)]) ho2 uS;refine U9 3 rfl ?_;simp only[aH,aJ]at k1 k3;rw[k1,k3];refine aLn ce (aGo _) (by simp only[List.set,elT,aPl,renL,ren,aI,avt,renL_pers _ _ eW,renL_pers _ _ uS,mY]) ?_;refine zg ?_;refine⟨(i+1,aPl (nJ (dX s n) s (p.kids.getD (2*i) default) (p.kids.getD (2*i+1) default) (lX (dX s n) s p i (l.map (jV.mk · t.kids),b)).1 (lX (dX s n) s p i (l.map (jV.mk · t.kids),b)).2).1,g'),⟨by dsimp only;omega,.inr rfl⟩,by dsimp only;omega,rfl,?_⟩;refine⟨rfl,?_⟩;dsimp only;congr 1
    ·refine aLn ce (aGo _) (by simp only[List.set,elT,aPl,renL,ren,aI,avt,renL_pers _ _ eW,renL_pers _ _ uS,mY]) ?_;refine zg ?_;refine⟨(i+1,aPl (nJ (dX s n) s (p.kids.getD (2*i) default) (p.kids.getD (2*i+1) default) (lX (dX s n) s p i (l.map (jV.mk · t.kids),b)).1 (lX (dX s n) s p i (l.map (jV.mk · t.kids),b)).2).1,g2),⟨by dsimp only;omega,.inr rfl⟩,by dsimp only;omega,rfl,?_⟩;refine⟨rfl,?_⟩;dsimp only;congr 1
   ·have hii:¬((2*i:Nat):Int)<((p.kids.length:Nat):Int):=by omega
    obtain rfl:i=p.kids.length / 2:=by omega
    obtain⟨hb1,hb2⟩:=htab _ hi;have hTe:lK (dX s n) s p t l b=pH (lX (dX s n) s p (p.kids.length / 2) (l.map (jV.mk · t.kids),b)).2 ((lX (dX s n) s p (p.kids.length / 2) (l.map (jV.mk · t.kids),b)).1.flatMap (sY s p)):=rfl;rw[hTe];generalize lX (dX s n) s p (p.kids.length / 2) (l.map (jV.mk · t.kids),b)=W at *
    obtain⟨W,bW⟩:=W;dsimp only at ho2 hb1 hb2 ⊢;have hz0:out2=.e0→W.length=0:=fun e=>by
     subst e;rcases ho2 with(⟨_,_,h⟩|⟨_,h,_⟩)|h
     ·exact h
     ·cases h
     ·cases h
    rcases ho2 with(⟨rfl,h2,h3⟩|⟨i0,rfl,hi0,hl0⟩)|rfl;refine zh (zf hii) ?_;rotate_left;refine zh (zA2 (zf hii) hi0) ?_;rotate_left;refine zh (zA2 (zf hii) @aPl.eq_1) ?_;rotate_left
    ·refine cO (fun(q:Nat×AV×List AObj)=>(rp 13 .k (.v (q.2.1)::.k::.j::(rp 37 .k (.v (.i .i64 (q.1:Nat))::(rp 30 .j [.k,.k,.k])))))) (fun q=>(.box false [.sl (s.sorts.map .s) s.sorts.length,.sl (s.below.flatMap bZ) s.below.length,.sl (s.ops.flatMap bG) s.ops.length,.sl (s.funs.flatMap bG) s.funs.length,.sl (s.values.map .s) s.values.length,.b (bW)]::.box false (tmC p)::.box false (tmC t)::q.2.2)) (fun q=>q.1≤W.length∧gD 1 3 q.2.2 q.2.1 (((W.take q.1).flatMap (sY s p)).map avu) ((W.take q.1).flatMap (sY s p)).length∧aBb g2 q.2.2) (fun q=>W.length-q.1) ((0,.e0,g2)) ⟨aR _,eX,fun i o h _=>h⟩ rfl (by simp[fO]) ?_;rintro⟨c,out3,g3⟩ j4 ⟨hc,ho3,hk3⟩;dsimp only at hc ho3 hk3;by_cases hct:c<W.length
     ·exfalso;have:=hz0 rfl;omega
     ·have hci:¬(c:Int)<((W.length:Nat):Int):=by omega
      rw[aS (by omega)]at ho3;have hfl:=F3 (s:=s) (p:=p) (l:=W);have ct:=bKb s bW (W.flatMap (sY s p)) (by omega);have hc0:¬(c:Int)<0:=by omega
      refine zh (zA2 (zf hci) (zf hc0)) ?_;obtain⟨k1,g',k2,k3⟩:=jX (pre:=[.box false [.sl (s.sorts.map .s) s.sorts.length,.sl (s.below.flatMap bZ) s.below.length,.sl (s.ops.flatMap bG) s.ops.length,.sl (s.funs.flatMap bG) s.funs.length,.sl (s.values.map .s) s.values.length,.b (bW)],.box false (tmC p),.box false (tmC t)]) ho3 iW;refine U9 1 rfl ?_;simp only[aH,aJ]at k1 k3;rw[k1,k3];refine aLn ct (gS _) (by simp only[List.set,avw,renL,ren,renL_pers _ _ iW,mY]) ?_;refine zg ?_;exact vX
    all_goals
     refine cO (fun(q:Nat×AV×List AObj)=>(rp 13 .k (.v (q.2.1)::.k::.j::(rp 37 .k (.v (.i .i64 (q.1:Nat))::(rp 30 .j [.k,.k,.k])))))) (fun q=>(.box false [.sl (s.sorts.map .s) s.sorts.length,.sl (s.below.flatMap bZ) s.below.length,.sl (s.ops.flatMap bG) s.ops.length,.sl (s.funs.flatMap bG) s.funs.length,.sl (s.values.map .s) s.values.length,.b (bW)]::.box false (tmC p)::.box false (tmC t)::q.2.2)) (fun q=>q.1≤W.length∧gD 1 3 q.2.2 q.2.1 (((W.take q.1).flatMap (sY s p)).map avu) ((W.take q.1).flatMap (sY s p)).length∧aBb g2 q.2.2) (fun q=>W.length-q.1) ((0,.e0,g2)) ⟨aR _,eX,fun i o h _=>h⟩ rfl (by simp[fO]) ?_
     rintro⟨c,out3,g3⟩ j4 ⟨hc,ho3,hk3⟩
     dsimp only at hc ho3 hk3
     by_cases hct:c<W.length
     ·have hci:(c:Int)<((W.length:Nat):Int):=by omega
      have hi2:∀x:List AObj,(fun _=>True) x:=fun _=>True.intro;first
       |have hi2:=hk3 i0 _ hi0 (fun c h=>by cases h)
        have hil:=bH hi2
       |skip
      have hw:=hb1 _ (cC (d:=default) hct);have hfl:=F3 (s:=s) (p:=p) (l:=W.take c);rw[bS]at hfl;have hbl:=Y0 (s:=s) (p:=p) (w:=W.getD c default);have hsucc:=lW (f:=sY s p) (d:=default) hct;have hn9:=iC (l:=p.kids) (k:=2*(p.kids.length / 2));by_cases hr:0<p.rest.length
      ·have hri:(0:Int)<((p.rest.length:Nat):Int):=by omega
       have hel:=hZ hw.len ht.1.kids;have cb:=bKc s bW (p.rest.getD 0 default) (.mk 8 0 [] [] (W.getD c default).left []) (W.getD c default).u _ hm hs hw.u (by omega) (J5 (fun x hx=>(ht.kid (hw.sub x hx)).1) hel) (aQn (.inr rfl));have e1:sY s p (W.getD c default)=kG s (p.rest.getD 0 default) (.mk 8 0 [] [] (W.getD c default).left []) (W.getD c default).u:=if_pos hr;rw[← e1]at cb;refine zh (zA2 (zt hci) (zA2 (zt hri) (zA2 hi2 (zA2 @pM.eq_1 @avu.eq_1)))) ?_;(refine zx0 (zA2 (zt hci) (zA2 (zt hri) (zA2 hi2 (zA2 @pM.eq_1 @avu.eq_1)))) ?_;repeat' first|exact trivial|refine zJ ?_ ?_|refine zH fun hc=>?_);refine aLo 2 rfl cb (gS _) (t:=.box false (tmC p)::.box false (tmC t)::(g3++[.box false [.sl ((W.getD c default).u.flatMap prT) (W.getD c default).u.length,.sl ((W.getD c default).left.flatMap aM) (W.getD c default).left.length]])) (by rw[tP,bMw,if_pos (by simp[aKw,pers,avt,eW])];rfl) (by simp only[List.set];rw[bHv];simp only[elT,avu,renL,ren,aI,avt,renL_pers _ _ jG,renL_pers _ _ eW,mY]) (by simp[DR.old]) ?_;refine zh @avw.eq_1 ?_;have ho4:=ho3.more [.box false [.sl ((W.getD c default).u.flatMap prT) (W.getD c default).u.length,.sl ((W.getD c default).left.flatMap aM) (W.getD c default).left.length]];refine eI (more:=[]) (pre:=[.box false [.sl (s.sorts.map .s) s.sorts.length,.sl (s.below.flatMap bZ) s.below.length,.sl (s.ops.flatMap bG) s.ops.length,.sl (s.funs.flatMap bG) s.funs.length,.sl (s.values.map .s) s.values.length,.b (bW)],.box false (tmC p),.box false (tmC t)]) (news:=(sY s p (W.getD c default)).map avu) (m:=(sY s p (W.getD c default)).length) ho4 rfl (by simp) bBg aXo aYa bCq rfl (by decide) (by simp -implicitDefEqProofs (disch:=omega) only[go_sem,simprocAttr]) (by simp -implicitDefEqProofs (disch:=omega) only[go_sem,simprocAttr]) ⟨by omega,by omega⟩ ?_;intro out' g' ho' hkeep;refine zg ?_;refine⟨(c+1,out',g'),⟨by dsimp only;omega,?_,?_⟩,by dsimp only;omega,rfl,by simp⟩
       ·dsimp only;rw[hsucc,bO,List.length_append];exact ho'
       ·exact(hk3.more _).trans hkeep
      ·have hri:¬(0:Int)<((p.rest.length:Nat):Int):=by omega
       refine zh (zA2 (zt hci) (zA2 (zf hri) (zA2 hi2 (zA2 @pM.eq_1 @avu.eq_1)))) ?_;(refine zx0 (zA2 (zt hci) (zA2 (zf hri) (zA2 hi2 (zA2 @pM.eq_1 (zA2 @avu.eq_1 (zA2 @mL (zA2 @dV.{0} (zA2 @eO.{0} @List.append_nil.{0})))))))) ?_;repeat' first|exact trivial|refine zJ ?_ ?_|refine zH fun hc=>?_)
       ·have e1:sY s p (W.getD c default)=[(W.getD c default).u]:=by rw[sY,if_neg hr,if_pos (by omega)]
        refine eI (pre:=[.box false [.sl (s.sorts.map .s) s.sorts.length,.sl (s.below.flatMap bZ) s.below.length,.sl (s.ops.flatMap bG) s.ops.length,.sl (s.funs.flatMap bG) s.funs.length,.sl (s.values.map .s) s.values.length,.b (bW)],.box false (tmC p),.box false (tmC t)]) (g:=g3++[.box false [.sl ((W.getD c default).u.flatMap prT) (W.getD c default).u.length,.sl ((W.getD c default).left.flatMap aM) (W.getD c default).left.length]]) (more:=[.arr false 1 ([.sl ((W.getD c default).u.flatMap prT) (W.getD c default).u.length])]) (news:=[.sl ((W.getD c default).u.flatMap prT) (W.getD c default).u.length]) (m:=1) ((ho3).more _) rfl (by simp -implicitDefEqProofs (disch:=omega) only[go_sem,simprocAttr]) bBg aXo aYa bCq rfl (by decide) (by simp -implicitDefEqProofs (disch:=omega) only[go_sem,simprocAttr]) (by simp -implicitDefEqProofs (disch:=omega) only[go_sem,simprocAttr]) ⟨by omega,by omega⟩ ?_;intro out' g' ho' hkeep;refine zg ?_;refine⟨(c+1,out',g'),⟨by dsimp only;omega,?_,?_⟩,by dsimp only;omega,rfl,by simp⟩
        ·dsimp only;rw[hsucc,e1,bO,List.length_append];exact ho'
        ·exact(hk3.more _).trans hkeep
       ·have e1:sY s p (W.getD c default)=[]:=by rw[sY,if_neg hr,if_neg (by omega)]
        refine⟨(c+1,out3,g3++[.box false [.sl ((W.getD c default).u.flatMap prT) (W.getD c default).u.length,.sl ((W.getD c default).left.flatMap aM) (W.getD c default).left.length]]),⟨by dsimp only;omega,?_,hk3.more _⟩,by dsimp only;omega,rfl,by simp⟩;dsimp only;rw[hsucc,e1,List.append_nil];exact ho3.more _
     ·have hci:¬(c:Int)<((W.length:Nat):Int):=by omega
      rw[aS (by omega)]at ho3;have hfl:=F3 (s:=s) (p:=p) (l:=W);have ct:=bKb s bW (W.flatMap (sY s p)) (by omega);have hc0:¬(c:Int)<0:=by omega
      refine zh (zA2 (zf hci) (zf hc0)) ?_;obtain⟨k1,g',k2,k3⟩:=jX (pre:=[.box false [.sl (s.sorts.map .s) s.sorts.length,.sl (s.below.flatMap bZ) s.below.length,.sl (s.ops.flatMap bG) s.ops.length,.sl (s.funs.flatMap bG) s.funs.length,.sl (s.values.map .s) s.values.length,.b (bW)],.box false (tmC p),.box false (tmC t)]) ho3 iW;refine U9 1 rfl ?_;simp only[aH,aJ]at k1 k3;rw[k1,k3];refine aLn ct (gS _) (by simp only[List.set,avw,renL,ren,renL_pers _ _ iW,mY]) ?_;refine zg ?_;exact vX
end Go.Proofs.YtdjcggcjlphdoaaGreatDoor
