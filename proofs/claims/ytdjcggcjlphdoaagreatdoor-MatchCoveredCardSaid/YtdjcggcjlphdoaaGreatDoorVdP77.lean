/-
  Functions of the chapter, as plain functions of what they are given; no condition.
-/
import Derived.Test.YtdjcggcjlphdoaaGreatDoorVdP76
import Derived.Test.YtdjcggcjlphdoaaGreatDoorVoP86
import Derived.Test.YtdjcggcjlphdoaaGreatDoorVdP73
import Derived.Test.YtdjcggcjlphdoaaGreatDoorVoP80
set_option maxRecDepth 100000
set_option linter.unusedSimpArgs false
set_option linter.unusedVariables false
set_option maxHeartbeats 4000000
namespace Go.Proofs.YtdjcggcjlphdoaaGreatDoor
open Go Go.Vo
open Nat (reduceAdd reduceSub reduceMul reduceLeDiff reduceLT reduceEqDiff)
open Int (reduceNeg)
def nT(l:List LTerm):List LTerm:=l.flatMap fun r=>if r.kind=6 then []else r.kids
mutual
def aFw(O:List LTerm→List LTerm)(u:LSub):LTerm→LTerm
 | .mk k n x so ks rs=>if k=6 then(match mOf u x with|some y=>y|none=>.mk k n x so ks rs)else
  .mk k n x so (if k=8 then O (putL O u ks++nT (putL O u rs))else putL O u ks++nT (putL O u rs)) (if(putL O u rs).any (fun r => !decide (r.kind=6))=true then []else rs)
def putL(O:List LTerm→List LTerm)(u:LSub):List LTerm→List LTerm
 | []=>[]
 |t::l=>aFw O u t::putL O u l
end
mutual
def aGv(s:dK)(u:LSub):LTerm→Bool
 | .mk k n x so ks rs=>if k=6 then(match mOf u x with|some y => !iQ s (kI s y) so|none=>false)else putSL s u ks||putSL s u rs
def putSL(s:dK)(u:LSub):List LTerm→Bool
 | []=>false
 |t::l=>aGv s u t||putSL s u l
end
mutual
def aGu(W:List LTerm→Bool)(O:List LTerm→List LTerm)(u:LSub):LTerm→Bool
 | .mk k n x so ks rs=>if k=6 then false else(putWL W O u ks||putWL W O u rs)||(decide (k=8)&&W (putL O u ks++nT (putL O u rs)))
def putWL(W:List LTerm→Bool)(O:List LTerm→List LTerm)(u:LSub):List LTerm→Bool
 | []=>false
 |t::l=>aGu W O u t||putWL W O u l
end
abbrev P6(s:dK)(u:LSub)(so tw:Bool):AObj:=.box false [bQ s,avu u,.b so,.b tw]
def bPm(W:List LTerm→Bool)(O:List LTerm→List LTerm)(s:dK)(u:LSub)(t:LTerm):Prop:=∀(so tw:Bool),ACalls Tryz.prog G0 58 [.ptr 0 0,elT t] [P6 s u so tw]
 (fun r h'=>r=elT (aFw O u t)∧h'=[P6 s u (so||aGv s u t) (tw||aGu W O u t)])
def bWs(s:dK)(u:LSub)(R:LTerm)(so tw:Bool)(r:AV)(h':List AObj):Prop:=iA dep h' r=elT R∧∃z,Vo.freeze (eL dep h' r) h'=[P6 s u so tw]++z
theorem X8(O:List LTerm→List LTerm)(u:LSub):∀l:List LTerm,(putL O u l).length=l.length
 | []=>by rw[putL]
 |t::l=>by rw[putL,bF,bF,X8 O u l]
theorem bFr{O:List LTerm→List LTerm}{u:LSub}{t:LTerm}(h6:t.kind=6):aFw O u t=(match mOf u t.text with|some y=>y|none=>t):=by
 cases t;dsimp only[LTerm.kind]at h6;rw[aFw,if_pos h6];rfl
theorem bFs{s:dK}{u:LSub}{t:LTerm}(h6:t.kind=6):aGv s u t=(match mOf u t.text with|some y => !iQ s (kI s y) t.sort|none=>false):=by
 cases t;dsimp only[LTerm.kind]at h6;rw[aGv,if_pos h6];rfl
theorem bFq{W:List LTerm→Bool}{O:List LTerm→List LTerm}{u:LSub}{t:LTerm}(h6:t.kind=6):aGu W O u t=false:=by
 cases t;dsimp only[LTerm.kind]at h6;rw[aGu,if_pos h6]
theorem S6(s:dK)(u:LSub)(so tw:Bool):persL [.box (eZ s) 0,.sl (u.flatMap prT) u.length,.b so,.b tw]=true:=by
 have:=oJ (s:=s);simp only[pers,bQ]at this;simp[persL,pers,this,nL]
theorem aRw{s:dK}{u:LSub}{R:LTerm}{so tw:Bool}{z:List AObj}:bWs s u R so tw (elT R) (P6 s u so tw::z):=by
 have hp:pers (elT R)=true:=by rw[elT,pers,rW]
 refine⟨by rw[gN,if_pos hp],z,?_⟩;rw[show eL dep (P6 s u so tw::z) (elT R)=[] by rw[show dep=8+1 from rfl,eL,if_pos hp]];rfl
theorem aRx{s:dK}{u:LSub}{R:LTerm}{so tw so' tw':Bool}{z:List AObj}(h1:so'=so)(h2:tw'=tw):bWs s u R so tw (.agg (tmC R)) (.box false [.box (eZ s) 0,.sl (u.flatMap prT) u.length,.b so',.b tw']::z):=by
 subst h1 h2;have:=aRw (s:=s) (u:=u) (R:=R) (so:=so') (tw:=tw') (z:=z);rw[elT,aL]at this;exact this
theorem cBu(W:List LTerm→Bool)(O:List LTerm→List LTerm)(s:dK)(u:LSub)(t:LTerm)(so tw:Bool)(hm:Small s)(ha:AscU u)(hul:u.length≤1000000000)(h6:t.kind=6): ACalls Tryz.prog G0 58 [.ptr 0 0,elT t] [P6 s u so tw] (bWs s u (aFw O u t) (so||aGv s u t) (tw||aGu W O u t)):=by
 refine mB (rx:=true) (th:=fun i=>if i=5 then some ⟨none,[0],false,false,false,[],[],0⟩else if i=12 then some ⟨none,[],false,false,true,[],[],1000⟩else none) dE Tryz.func58 ?_
 ·simp -implicitDefEqProofs (disch:=omega) only[Tryz.f58,bF,bZ,eF,aC,aE,aIx,List.replicate,simprocAttr,elT,aL,P6,avu];have c1:=aVz u t.text ha hul;simp only[avu]at c1;cases ho:mOf u t.text with
  |none=>
   rw[ho]at c1;rw[P8,elT,aL]at c1;refine zh (zt h6) ?_;(repeat'(first|refine gT ?_ ?_|refine gF ?_ ?_|refine gC ?_ ?_|((refine bJ (c1) ?_ ?_;(focus(simp -implicitDefEqProofs (disch:=omega) only[zt h6,aB,zdB,go_sem,simprocAttr];done)));simp -implicitDefEqProofs (disch:=omega) only[zt h6,aB,go_sem,simprocAttr])|refine bE (by omega) ?_|(intro hr;have hc:=hr;(try simp only[zdz]at hc);simp -implicitDefEqProofs (disch:=omega) only[hr,zt h6,aB,go_sem,simprocAttr];(try clear hr))));rw[bFr h6,bFs h6,bFq h6,ho];exact aRx (by rw[aK]) (by rw[aK])
  |some y=>
   rw[ho]at c1;rw[P8,elT,aL]at c1;have c2:=aEn s y;have c3:=aOj s (kI s y) t.sort hm;refine zh (zt h6) ?_;(repeat'(first|refine gT ?_ ?_|refine gF ?_ ?_|refine gC ?_ ?_|((first|(refine bJ (c1) ?_ ?_;(focus(simp -implicitDefEqProofs (disch:=omega) only[zt h6,aA,zdB,go_sem,simprocAttr];done)))|(refine bJ (c2) ?_ ?_;(focus(simp -implicitDefEqProofs (disch:=omega) only[zt h6,aA,zdB,go_sem,simprocAttr];done)))|(refine bJ (c3) ?_ ?_;(focus(simp -implicitDefEqProofs (disch:=omega) only[zt h6,aA,zdB,go_sem,simprocAttr];done))));simp -implicitDefEqProofs (disch:=omega) only[zt h6,aA,go_sem,simprocAttr])|refine bE (by omega) ?_|(intro hr;have hc:=hr;(try simp only[zdz]at hc);simp -implicitDefEqProofs (disch:=omega) only[hr,zt h6,aA,go_sem,simprocAttr];(try clear hr))));all_goals rw[bFr h6,bFs h6,bFq h6,ho]
   all_goals exact aRx (by simp) (by rw[aK])
theorem bRd{O:List LTerm→List LTerm}{u:LSub}{t:LTerm}(h6:¬t.kind=6)(h8:¬t.kind=8):aFw O u t=.mk t.kind t.n t.text t.sort (putL O u t.kids++nT (putL O u t.rest)) (if(putL O u t.rest).any (fun r => !decide (r.kind=6))=true then []else t.rest):=by
 cases t with|mk k n x so ks rs=>dsimp only[LTerm.kind]at h6 h8;rw[aFw,if_neg h6,if_neg h8];rfl
theorem bRe{s:dK}{u:LSub}{t:LTerm}(h6:¬t.kind=6):aGv s u t=(putSL s u t.kids||putSL s u t.rest):=by
 cases t with|mk k n x so ks rs=>dsimp only[LTerm.kind]at h6;rw[aGv,if_neg h6];rfl
theorem bRc{W:List LTerm→Bool}{O:List LTerm→List LTerm}{u:LSub}{t:LTerm}(h6:¬t.kind=6)(h8:¬t.kind=8):aGu W O u t=(putWL W O u t.kids||putWL W O u t.rest):=by
 cases t with|mk k n x so ks rs=>dsimp only[LTerm.kind]at h6 h8;rw[aGu,if_neg h6,zf h8];simp[LTerm.kids,LTerm.rest]
theorem X9{O:List LTerm→List LTerm}{u:LSub}:∀{a b:List LTerm},putL O u (a++b)=putL O u a++putL O u b
 | [],b=>by rw[putL];rfl
 |t::a,b=>by rw[aC,putL,putL,X9,aC]
theorem aCv{O:List LTerm→List LTerm}{u:LSub}{l:List LTerm}{k:Nat}(h:k<l.length):putL O u (l.take (k+1))=putL O u (l.take k)++[aFw O u (l.getD k default)]:=by
 rw[fI h,X9,putL,putL]
theorem aCu{s:dK}{u:LSub}:∀{a b:List LTerm},putSL s u (a++b)=(putSL s u a||putSL s u b)
 | [],b=>by rw[putSL];rfl
 |t::a,b=>by rw[aC,putSL,putSL,aCu,mF]
theorem S2{s:dK}{u:LSub}{l:List LTerm}{k:Nat}(h:k<l.length):putSL s u (l.take (k+1))=(putSL s u (l.take k)||aGv s u (l.getD k default)):=by
 rw[fI h,aCu,putSL,putSL,aK]
theorem aCt{W:List LTerm→Bool}{O:List LTerm→List LTerm}{u:LSub}:∀{a b:List LTerm},putWL W O u (a++b)=(putWL W O u a||putWL W O u b)
 | [],b=>by rw[putWL];rfl
 |t::a,b=>by rw[aC,putWL,putWL,aCt,mF]
theorem S1{W:List LTerm→Bool}{O:List LTerm→List LTerm}{u:LSub}{l:List LTerm}{k:Nat}(h:k<l.length):putWL W O u (l.take (k+1))=(putWL W O u (l.take k)||aGu W O u (l.getD k default)):=by
 rw[fI h,aCt,putWL,putWL,aK]
theorem aCn{a b:List LTerm}:nT (a++b)=nT a++nT b:=by rw[nT,nT,nT,List.flatMap_append]
theorem aNl{O:List LTerm→List LTerm}{u:LSub}{l:List LTerm}{k:Nat}:(nT (putL O u (l.take k))).length≤(nT (putL O u l)).length:=by
 have e:nT (putL O u l)=nT (putL O u (l.take k))++nT (putL O u (l.drop k)):=by rw[← aCn,← X9,dU]
 rw[e,List.length_append];omega
theorem bAm{s:dK}{u:LSub}{k n:Int}{x so:Str}{ks rs:List LTerm}{a b:Bool}{out rc:AV}{g:List AObj}{B1 B2 B3:AObj}(ho:jU 6 4 g out (ks.flatMap aU) ks.length)(hr:rc=.sl (rs.flatMap aU) rs.length∨(rc=.e0∧rs=[])) :
 bWs s u (.mk k n x so ks rs) a b (.agg [.i .i64 k,.i .i64 n,.s x,.s so,out,rc]) (P6 s u a b::B1::B2::B3::g):=by
 have hpr:pers rc=false∨pers rc=true:=by cases pers rc<;>simp
 rcases ho with⟨rfl,h2,h3⟩|⟨i,rfl,hi,hl⟩
 ·obtain rfl:ks=[]:=eE.1 h3;refine⟨?_,B1::B2::B3::g,?_⟩
  ·rw[gN];rcases hr with rfl|⟨rfl,rfl⟩
   ·simp[pers,persL,rV,elT,aL,avt,gW,LTerm.kind,LTerm.n,LTerm.text,LTerm.sort,LTerm.kids,LTerm.rest,iA]
   ·simp[pers,persL,rV,elT,aL,avt,gW,LTerm.kind,LTerm.n,LTerm.text,LTerm.sort,LTerm.kids,LTerm.rest,iA]
  ·rcases hr with rfl|⟨rfl,rfl⟩
   ·rw[xA,bPk,if_pos (by simp[aOi,pers,gW])];rfl
   ·rw[xA,bPk,if_pos (by simp[aOi,pers,gW])];rfl
 ·have hg:(P6 s u a b::B1::B2::B3::g)[i+4]? = some (.arr false 6 (ks.flatMap aU)):=by simpa using hi
  have hd:((ks.flatMap aU).drop 0).take (ks.length*6)=ks.flatMap aU:=by rw[bK,bB (by omega)]
  have hp:persL (ks.flatMap aU)=true:=gW;have hle:(0+ks.length*6≤(ks.flatMap aU).length)=True:=eq_true (by omega);have e:iA 8 (P6 s u a b::B1::B2::B3::g) (.hs (i+4) 0 ks.length false)=.sl (ks.flatMap aU) ks.length:=by
   rw[iA];simp only[pers,aI,if_false,hg,hd,hp,if_true,hle]
  refine⟨?_,((P6 s u a b::B1::B2::B3::g).modify (i+4) AObj.fz).tail,?_⟩
  ·rw[gN];rcases hr with rfl|⟨rfl,rfl⟩
   ·simp only[pers,persL,rV,aI,aT,aS,if_false,aQ,aZ,e,elT,aL,avt,LTerm.kind,LTerm.n,LTerm.text,LTerm.sort,LTerm.kids,LTerm.rest];simp[iA,pers,gW]
   ·simp only[pers,persL,rV,aI,aT,aS,if_false,aQ,aZ,e,elT,aL,avt,LTerm.kind,LTerm.n,LTerm.text,LTerm.sort,LTerm.kids,LTerm.rest];simp[iA,pers,gW]
  ·have e2:eL dep (P6 s u a b::B1::B2::B3::g) (.agg [.i .i64 k,.i .i64 n,.s x,.s so,.hs (i+4) 0 ks.length false,rc])=[i+4]:=by
    rw[show dep=8+1 from rfl,eL];simp only[pers,persL,aI,aT,aS,if_false,List.flatMap_cons,List.flatMap_nil];rcases hr with rfl|⟨rfl,rfl⟩
    ·simp[eL,pers,hg,hp,gW,bB (show(ks.flatMap aU).length≤ks.length*6 by omega)]
    ·simp[eL,pers,hg,hp,gW,bB (show(ks.flatMap aU).length≤ks.length*6 by omega)]
   rw[e2];simp[Vo.freeze]
theorem cDj:aZa Tryz.prog 28 1 #[(0,.const (.agg #[.int .i64 0,.int .i64 0,.string ⟨#[]⟩,.string ⟨#[]⟩,.slice none 0 0,.slice none 0 0]))]=some (.sl [.i .i64 0,.i .i64 0,.s [],.s [],.sl [] 0,.sl [] 0] 1):=by kernel_rfl
theorem cFd(W:List LTerm→Bool)(O:List LTerm→List LTerm)(s:dK)(u:LSub)(t:LTerm)(so tw:Bool)(hm:Small s)(hk:∀k∈t.kids,bPm W O s u k)(hr:∀r∈t.rest,bPm W O s u r)(h6:¬t.kind=6)(h8:¬t.kind=8)(hkl:t.kids.length≤1000000)(hrl:t.rest.length≤1000000)(hR:(nT (putL O u t.rest)).length≤1000000): ACalls Tryz.prog G0 58 [.ptr 0 0,elT t] [P6 s u so tw] (bWs s u (aFw O u t) (so||aGv s u t) (tw||aGu W O u t)):=by
 refine mB (rx:=true) (th:=fun i=>if i=5 then some ⟨none,[0],false,false,false,[],[],0⟩else if i=12 then some ⟨none,[],false,false,true,[],[],1000⟩else none) dE Tryz.func58 ?_
 ·simp -implicitDefEqProofs (disch:=omega) only[Tryz.f58,bF,bZ,eF,aC,aE,aIx,List.replicate,simprocAttr,elT,aL,P6,avu];refine zh (zf h6) ?_;refine dV (fun(v:Nat×AV×List AObj×Bool×Bool)=>(rp 9 .k (.j::(rp 48 .k (.v (.i .i64 (v.1:Nat))::(rp 14 .j (rp 27 .k []))))))) (fun v=>(P6 s u v.2.2.2.1 v.2.2.2.2::.box false (tmC t)::.box false [.i .i64 0,.i .i64 0,.s [],.s [],.e0,.e0]::.box false [.i .i64 t.kind,.i .i64 t.n,.s t.text,.s t.sort,v.2.1,.sl (t.rest.flatMap aU) t.rest.length]::v.2.2.1)) (fun v=>(v.1≤t.kids.length∧jU 6 4 v.2.2.1 v.2.1 ((putL O u (t.kids.take v.1)).flatMap aU) (putL O u (t.kids.take v.1)).length)∧v.2.2.2.1=(so||putSL s u (t.kids.take v.1))∧v.2.2.2.2=(tw||putWL W O u (t.kids.take v.1))) (fun v=>t.kids.length-v.1) ((0,.e0,[],so,tw)) ⟨⟨bX _,jN⟩,by simp[putSL],by simp[putWL]⟩ rfl (by simp[iS]) ?_;rintro⟨k,out,g,so1,tw1⟩ j ⟨⟨hk1,hb⟩,hso,htw⟩;dsimp only at hk1 hb hso htw;by_cases hlt:k<t.kids.length
  ·have hki:decide ((k:Int)<((t.kids.length:Nat):Int))=true:=zt (by omega);refine zh (zA2 hki (zA2 @P6.eq_1 (zA2 @avu.eq_1 @bQ.eq_1))) ?_;repeat refine bE (by omega) ?_
   refine bWd (rx:=⟨true,false,false,[],[66]⟩) (N:=⟨g.length+5,[0]⟩) dE 8 (by kernel_rfl) (al:=?_) ?_ ?_;rotate_left
   ·simp only[strip,kV,eR,kU,RX.off,ckF,ckX,zOf,exd,vOf,aH,aG,bH,bG,aK,bA,aS,aK,bT,bY,dP,fQ,bD,bM,aE,aC,eB,anyPre,Region.binds,aA,aB,aI,if_true,if_false,aY,aW,aR,aT,aZ,aQ,aH,aG,List.append_nil,aO,bS,aV,bK,Nat.reduceAdd,aLq,vQ,rR,rC,cU,cD,cG,dD,beq_self_eq_true,fY,Nat.reduceBEq,qK,pH,qH,jX,aHu,fD,gE,cX,vY,D9];rfl
   refine zg ?_;refine⟨by omega,?_⟩;have hmk:=cS (d:=default) hlt;have cc:=hk _ hmk so1 tw1;have hs1:=aCv (O:=O) (u:=u) hlt;have hs2:=S2 (s:=s) (u:=u) hlt;have hs3:=S1 (W:=W) (O:=O) (u:=u) hlt;have hll:=X8 O u (t.kids.take k);rw[cN]at hll;simp only[P6,avu,bQ]at cc;refine aWs cc (S6 s u so1 tw1) (S6 s u _ _) (by rw[elT,pers,rW]) (by simp only[elT,aL,avt,renL,ren,renL_pers _ _ gW,aAf]) (by simp[DR.old]) ?_;have hso2:(so1||aGv s u (t.kids.getD k default))=(so||putSL s u (t.kids.take (k+1))):=by rw[hs2,hso,mF]
   have htw2:(tw1||aGu W O u (t.kids.getD k default))=(tw||putWL W O u (t.kids.take (k+1))):=by rw[hs3,htw,mF]
   generalize aFw O u (t.kids.getD k default)=T at *
   generalize (so1||aGv s u (t.kids.getD k default))=so2 at *
   generalize (tw1||aGu W O u (t.kids.getD k default))=tw2 at *
   have hAl:((putL O u (t.kids.take k)).flatMap aU).length=(putL O u (t.kids.take k)).length*6:=wQ;rcases hb with⟨rfl,hb2,hb3⟩|⟨i0,rfl,hb2,hb3⟩
   ·refine zh (zA2 @elT.eq_1 (zA2 @aL (zA2 @avt.eq_1 (zA2 @pZ (zA2 @aJ.{0} (zA2 @aM.{0} (zA2 @List.append_nil.{0} @cDj))))))) ?_;repeat refine bE (by omega) ?_
    refine aXv 8 (by kernel_rfl) (by simp only[cU,cG,cD,Nat.reduceAdd];rfl) (by simp only[cU,cG,cD,Nat.reduceAdd];rfl) (by simp only[cU,cG,cD,Nat.reduceAdd];rfl) (by simp only[cU,cG,cD,Nat.reduceAdd];rfl) (by simp only[strip,kV,eR,kU,RX.off,ckF,ckX,zOf,exd,vOf,aH,aG,bH,bG,aK,bA,aS,aK,bT,bY,dP,fQ,bD,bM,aE,aC,eB,anyPre,Region.binds,aA,aB,aI,if_true,if_false,aY,aW,aR,aT,aZ,aQ,aH,aG,List.append_nil,aO,bS,aV,bK,Nat.reduceAdd];rfl) (by simp only[strip,kV,eR,kU,RX.off,ckF,ckX,zOf,exd,vOf,aH,aG,bH,bG,aK,bA,aS,aK,bT,bY,dP,fQ,bD,bM,aE,aC,eB,anyPre,Region.binds,aA,aB,aI,if_true,if_false,aY,aW,aR,aT,aZ,aQ,aH,aG,List.append_nil,aO,bS,aV,bK,Nat.reduceAdd];rfl) (by simp only[strip,kV,eR,kU,RX.off,ckF,ckX,zOf,exd,vOf,aH,aG,bH,bG,aK,bA,aS,aK,bT,bY,dP,fQ,bD,bM,aE,aC,eB,anyPre,Region.binds,aA,aB,aI,if_true,if_false,aY,aW,aR,aT,aZ,aQ,aH,aG,List.append_nil,aO,bS,aV,bK,Nat.reduceAdd];rfl) (by simp only[strip,kV,eR,kU,RX.off,ckF,ckX,zOf,exd,vOf,aH,aG,bH,bG,aK,bA,aS,aK,bT,bY,dP,fQ,bD,bM,aE,aC,eB,anyPre,Region.binds,aA,aB,aI,if_true,if_false,aY,aW,aR,aT,aZ,aQ,aH,aG,List.append_nil,aO,bS,aV,bK,Nat.reduceAdd];rfl) ?_;refine zg ?_;repeat' apply bE
    all_goals first
     |omega
     |exact⟨(k+1,.hs (g.length+1+4) 0 1 false,g++[.box false (tmC ((t.kids.getD k default))),.arr false 6 (tmC T)],so2,tw2),⟨⟨by dsimp only;omega,.inr ⟨g.length+1,by dsimp only;rw[hs1,List.length_append,hb3];rfl,by dsimp only;rw[hs1,List.flatMap_append,hb2,List.flatMap_cons,List.flatMap_nil,aL,List.append_nil];simp[avt],by dsimp only;rw[hs1,List.flatMap_append,hb2,List.flatMap_cons,List.flatMap_nil,aL,List.append_nil];simp[hb3]⟩⟩,hso2,htw2⟩,by dsimp only;omega,rfl,by simp[hb3]⟩
   ·have hb2m:∀m:List AObj,(g++m)[i0]? = some (.arr false 6 ((putL O u (t.kids.take k)).flatMap aU)):=fun m=>by rw[aN (bW hb2)];exact hb2
    have hil:=bW hb2;refine zh (zA2 @elT.eq_1 (zA2 @aL (zA2 @avt.eq_1 (zA2 @pZ (zA2 @aJ.{0} (zA2 @aM.{0} (zA2 @List.append_nil.{0} (zA2 @cDj hb2m)))))))) ?_;repeat refine bE (by omega) ?_
    refine aXv 8 (by kernel_rfl) (by simp only[cU,cG,cD,Nat.reduceAdd];rfl) (by simp only[cU,cG,cD,Nat.reduceAdd];rfl) (by simp only[cU,cG,cD,Nat.reduceAdd];rfl) (by simp only[cU,cG,cD,Nat.reduceAdd];rfl) (by simp only[strip,kV,eR,kU,RX.off,ckF,ckX,zOf,exd,vOf,aH,aG,bH,bG,aK,bA,aS,aK,bT,bY,dP,fQ,bD,bM,aE,aC,eB,anyPre,Region.binds,aA,aB,aI,if_true,if_false,aY,aW,aR,aT,aZ,aQ,aH,aG,List.append_nil,aO,bS,aV,bK,Nat.reduceAdd];rfl) (by simp only[strip,kV,eR,kU,RX.off,ckF,ckX,zOf,exd,vOf,aH,aG,bH,bG,aK,bA,aS,aK,bT,bY,dP,fQ,bD,bM,aE,aC,eB,anyPre,Region.binds,aA,aB,aI,if_true,if_false,aY,aW,aR,aT,aZ,aQ,aH,aG,List.append_nil,aO,bS,aV,bK,Nat.reduceAdd];rfl) (by simp only[strip,kV,eR,kU,RX.off,ckF,ckX,zOf,exd,vOf,aH,aG,bH,bG,aK,bA,aS,aK,bT,bY,dP,fQ,bD,bM,aE,aC,eB,anyPre,Region.binds,aA,aB,aI,if_true,if_false,aY,aW,aR,aT,aZ,aQ,aH,aG,List.append_nil,aO,bS,aV,bK,Nat.reduceAdd];rfl) (by simp only[strip,kV,eR,kU,RX.off,ckF,ckX,zOf,exd,vOf,aH,aG,bH,bG,aK,bA,aS,aK,bT,bY,dP,fQ,bD,bM,aE,aC,eB,anyPre,Region.binds,aA,aB,aI,if_true,if_false,aY,aW,aR,aT,aZ,aQ,aH,aG,List.append_nil,aO,bS,aV,bK,Nat.reduceAdd];rfl) ?_;have hx1:((g++[AObj.box false [AV.i .i64 (t.kids.getD k default).kind,AV.i .i64 (t.kids.getD k default).n,AV.s (t.kids.getD k default).text,AV.s (t.kids.getD k default).sort,AV.sl ((t.kids.getD k default).kids.flatMap aU) (t.kids.getD k default).kids.length,AV.sl ((t.kids.getD k default).rest.flatMap aU) (t.kids.getD k default).rest.length]]).set i0 AObj.dead++[AObj.arr false 6 ((putL O u (t.kids.take k)).flatMap aU++[AV.i .i64 0,AV.i .i64 0,AV.s [],AV.s [],AV.sl [] 0,AV.sl [] 0])])[g.length+1]? = some (AObj.arr false 6 ((putL O u (t.kids.take k)).flatMap aU++[AV.i .i64 0,AV.i .i64 0,AV.s [],AV.s [],AV.sl [] 0,AV.sl [] 0])):=by
     rw[aX (by simp)];simp
    have hx2:((0:Int)≤((putL O u (t.kids.take k)).length:Nat)∧((((putL O u (t.kids.take k)).length:Nat):Int)<((((putL O u (t.kids.take k)).length+1:Nat)):Int)))=True:=eq_true (by omega);have hx3:List.take ((putL O u (t.kids.take k)).length*6) ((putL O u (t.kids.take k)).flatMap aU++[AV.i .i64 0,AV.i .i64 0,AV.s [],AV.s [],AV.sl [] 0,AV.sl [] 0])=(putL O u (t.kids.take k)).flatMap aU:=by
     rw[List.take_append_of_le_length (by omega),bB (by omega)]
    have hx4:List.drop ((putL O u (t.kids.take k)).length*6+6) ((putL O u (t.kids.take k)).flatMap aU++[AV.i .i64 0,AV.i .i64 0,AV.s [],AV.s [],AV.sl [] 0,AV.sl [] 0])=[]:=dQ (by simp only[List.length_append,hAl,bF,bZ];omega);have hx5:((putL O u (t.kids.take k)).length*6+6≤((putL O u (t.kids.take k)).flatMap aU++[AV.i .i64 0,AV.i .i64 0,AV.s [],AV.s [],AV.sl [] 0,AV.sl [] 0]).length)=True:=eq_true (by simp only[List.length_append,hAl,bF,bZ];omega);refine zh (zA2 hx1 (zA2 hx2 (zA2 hx3 (zA2 hx4 hx5)))) ?_;repeat' apply bE
    all_goals first
     |omega
     |skip
    all_goals refine⟨(k+1,.hs (g.length+1+4) 0 ((putL O u (t.kids.take k)).length+1) false,_,so2,tw2),⟨⟨by dsimp only;omega,.inr ⟨g.length+1,by dsimp only;rw[hs1,List.length_append];rfl,?_,?_⟩⟩,hso2,htw2⟩,by dsimp only;omega,rfl,by simp⟩
    all_goals dsimp only
    all_goals rw[hs1,List.flatMap_append,List.flatMap_cons,List.flatMap_nil,aL,List.append_nil]
    all_goals first
     |(rw[iZ (by simp)];rfl)
     |(rw[List.length_append,hAl,List.length_append];simp;omega)
  ·have hki:decide ((k:Int)<((t.kids.length:Nat):Int))=false:=zf (by omega);obtain rfl:k=t.kids.length:=by omega
   rw[bB (bV _)]at hb hso htw;refine zh hki ?_;refine dV (fun(v:Nat×AV×List AObj×(Bool×Bool)×AV)=>(rp 11 .k (.j::.j::(rp 63 .k (.v (.i .i64 (v.1:Nat))::(rp 17 .j (rp 6 .k []))))))) (fun v=>(P6 s u v.2.2.2.1.1 v.2.2.2.1.2::.box false (tmC t)::.box false [.i .i64 0,.i .i64 0,.s [],.s [],.e0,.e0]::.box false [.i .i64 t.kind,.i .i64 t.n,.s t.text,.s t.sort,v.2.1,v.2.2.2.2]::v.2.2.1)) (fun v=>(v.1≤t.rest.length∧jU 6 4 v.2.2.1 v.2.1 ((putL O u t.kids++nT (putL O u (t.rest.take v.1))).flatMap aU) (putL O u t.kids++nT (putL O u (t.rest.take v.1))).length)∧v.2.2.2.1.1=(so1||putSL s u (t.rest.take v.1))∧v.2.2.2.1.2=(tw1||putWL W O u (t.rest.take v.1))∧v.2.2.2.2=(if(putL O u (t.rest.take v.1)).any (fun r => !decide (r.kind=6))=true then .e0 else .sl (t.rest.flatMap aU) t.rest.length)) (fun v=>t.rest.length-v.1) ((0,out,g,(so1,tw1),.sl (t.rest.flatMap aU) t.rest.length)) ⟨⟨bX _,by simpa[putL,nT]using hb⟩,by simp[putSL],by simp[putWL],by simp[putL]⟩ rfl (by simp[iS]) ?_;rintro⟨k,out2,g2,⟨so3,tw3⟩,rc⟩ j2 ⟨⟨hk2,hb4⟩,hso3,htw3,hrc⟩;dsimp only at hk2 hb4 hso3 htw3 hrc;by_cases hlt2:k<t.rest.length
   ·have hki2:decide ((k:Int)<((t.rest.length:Nat):Int))=true:=zt (by omega);refine zh (zA2 hki2 (zA2 @P6.eq_1 (zA2 @avu.eq_1 @bQ.eq_1))) ?_;repeat refine bE (by omega) ?_
    have hmr:=cS (d:=default) hlt2;have cc:=hr _ hmr so3 tw3;have hs1:=aCv (O:=O) (u:=u) hlt2;have hs2:=S2 (s:=s) (u:=u) hlt2;have hs3:=S1 (W:=W) (O:=O) (u:=u) hlt2;have hb5:=aNl (O:=O) (u:=u) (l:=t.rest) (k:=k+1);have hll:=X8 O u t.kids;simp only[P6,avu,bQ]at cc;refine mV (yG 0 g0 cc (S6 s u so3 tw3) (S6 s u _ _) (by rw[elT,pers,rW]) rfl (by simp only[elT,aL,avt,renL,ren,renL_pers _ _ gW,aAf])) ?_;rintro r' h' ⟨rfl,rfl⟩;have hso4:(so3||aGv s u (t.rest.getD k default))=(so1||putSL s u (t.rest.take (k+1))):=by rw[hs2,hso3,mF]
    have htw4:(tw3||aGu W O u (t.rest.getD k default))=(tw1||putWL W O u (t.rest.take (k+1))):=by rw[hs3,htw3,mF]
    generalize aFw O u (t.rest.getD k default)=T at *
    generalize (so3||aGv s u (t.rest.getD k default))=so4 at *
    generalize (tw3||aGu W O u (t.rest.getD k default))=tw4 at *
    have hK:nT (putL O u (t.rest.take (k+1)))=nT (putL O u (t.rest.take k))++(if T.kind=6 then []else T.kids):=by
     rw[hs1,aCn];simp[nT]
    by_cases hT:T.kind=6
    ·rw[if_pos hT,List.append_nil]at hK;refine zh (zA2 @elT.eq_1 (zA2 @aL (zA2 @avt.eq_1 (zt hT)))) ?_;refine⟨(k+1,out2,_,(so4,tw4),rc),⟨⟨by dsimp only;omega,?_⟩,hso4,htw4,?_⟩,by dsimp only;omega,rfl,by simp⟩
     ·dsimp only;rw[hK];simpa using hb4.more _
     ·dsimp only;rw[hs1,List.any_append,hrc];simp[hT]
    ·rw[if_neg hT]at hK;refine zh (zA2 @elT.eq_1 (zA2 @aL (zA2 @avt.eq_1 (zf hT)))) ?_;have hb6:(nT (putL O u (t.rest.take k))).length+T.kids.length≤1000000:=by rw[hK,List.length_append]at hb5;omega
     refine fN (N:=4) (pre:=[.box false [.box (eZ s) 0,.sl (u.flatMap prT) u.length,.b so4,.b tw4],.box false (tmC t),.box false [.i .i64 0,.i .i64 0,.s [],.s [],.e0,.e0],.box false [.i .i64 t.kind,.i .i64 t.n,.s t.text,.s t.sort,out2,rc]]) (g:=g2) (more:=[.box false (tmC ((t.rest.getD k default))),.box false (tmC T)]) (news:=T.kids.flatMap aU) (m:=T.kids.length) hb4 rfl ?_ bHb bFe bFj bIc rfl (by decide) ?_ ?_ ⟨by rw[List.length_append];omega,by rw[List.length_append];omega⟩ ?_
     ·simp only[aC,aE,cM]
     ·exact zu
     ·exact zu
     intro out' g' ho' _;rw[← List.flatMap_append,cM,← hK,← List.length_append,cM,← hK]at ho';have ho2:=ho';rcases ho2 with⟨rfl,h2,h3⟩|⟨i1,rfl,hi1,hl1⟩
     ·refine zg ?_;exact⟨(k+1,.e0,g',(so4,tw4),.e0),⟨⟨by dsimp only;omega,by dsimp only;rw[← List.length_append];exact ho'⟩,hso4,htw4,by dsimp only;rw[hs1,List.any_append];simp[hT]⟩,by dsimp only;omega,rfl,by simp⟩
     ·refine zg ?_;exact⟨(k+1,.hs (i1+4) 0 ((putL O u t.kids).length+(nT (putL O u (t.rest.take (k+1)))).length) false,g',(so4,tw4),.e0),⟨⟨by dsimp only;omega,by dsimp only;rw[← List.length_append];exact ho'⟩,hso4,htw4,by dsimp only;rw[hs1,List.any_append];simp[hT]⟩,by dsimp only;omega,rfl,by simp⟩
   ·have hki2:decide ((k:Int)<((t.rest.length:Nat):Int))=false:=zf (by omega);obtain rfl:k=t.rest.length:=by omega
    rw[bB (bV _)]at hb4 hso3 htw3 hrc;refine zh (zA2 hki2 (zf h8)) ?_;rw[bRd h6 h8,bRe h6,bRc h6 h8,← mF,← mF,← hso,← htw,← hso3,← htw3];refine bAm hb4 ?_;rw[hrc];split
    ·exact .inr ⟨rfl,rfl⟩
    ·exact .inl rfl
def bPe(W:List LTerm→Bool)(O:List LTerm→List LTerm)(s:dK)(t:LTerm)(u:LSub):LTerm×Int:=
 if aUy s t=true∧(iH s&&pU s u)=true then(if aGv s u t=true then(zT,16)else if aGu W O u t=true then(zT,14)else if kY nodeB (aFw O u t)=true then(aFw O u t,0)else(zT,3))else(zT,2)
theorem aEf{h:List AObj}{o:Int}:Vo.Fin h (.tup [.agg [.i .i64 0,.i .i64 0,.s [],.s [],.e0,.e0],.i .i64 o]) (.tup [elT zT,.i .i64 o]):=.inr ⟨⟨⟨rfl,rfl,rfl,rfl,rfl,rfl,trivial⟩,rfl,trivial⟩,fL,fun i hi=>by cases hi⟩
theorem bSj{h:List AObj}{t:LTerm}{o:Int}:Vo.Fin h (.tup [.agg (tmC t),.i .i64 o]) (.tup [elT t,.i .i64 o]):=.inl ⟨by rw[elT,aL];rfl,by simp[pers,persL,gW]⟩
theorem bTr(W:List LTerm→Bool)(O:List LTerm→List LTerm)(s:dK)(t:LTerm)(u:LSub)(hm:Small s)(hs:OkS s)(ht:OkT t)(hu:OkU 1000000 u)(hn:∀q∈u,q.1.length≤140737488355328)(hP:aUy s t=true→pU s u=true→bPm W O s u t)(hO:OkT (aFw O u t)): CT 22 [.agg (dW s),elT t,avu u] (.tup [elT (bPe W O s t u).1,.i .i64 (bPe W O s t u).2]):=by
 refine dO dE Tryz.func22 g0 ?_
 ·generalize hR:((.tup [elT (bPe W O s t u).1,.i .i64 (bPe W O s t u).2]):AV)=R;simp -implicitDefEqProofs (disch:=omega) only[Tryz.f22,go_sem,List.replicate,simprocAttr,elT,aL,avu];have c1:=bUc s t hm hs ht;have c2:=bTs s u hm hs hu hn;simp only[avu]at c2;rw[bPe]at hR;by_cases h1:aUy s t=true
  ·rw[h1]at c1
   by_cases h2:(iH s&&pU s u)=true
   ·rw[h2]at c2
    rw[if_pos ⟨h1,h2⟩]at hR;have hv:iH s=true:=by rw[aD]at h2;exact h2.1
    have c3:=aAk s hm (iP hv);have cP:=hP h1 (by rw[aD]at h2;exact h2.2) false false;have c4:=aLm _ hO;have c5:=bHv _ hO;generalize aFw O u t=T at *
    rw[dD,dD]at cP;simp only[P6,avu,bQ]at cP;(repeat'(first|refine gT ?_ ?_|refine gF ?_ ?_|refine gC ?_ ?_|((first|(refine bJ (c1) ?_ ?_;(focus(simp -implicitDefEqProofs (disch:=omega) only[aA,zdB,go_sem,simprocAttr];done)))|(refine bJ (c2) ?_ ?_;(focus(simp -implicitDefEqProofs (disch:=omega) only[aA,zdB,go_sem,simprocAttr];done)))|(refine bJ (c3) ?_ ?_;(focus(simp -implicitDefEqProofs (disch:=omega) only[aA,zdB,go_sem,simprocAttr];done))));simp -implicitDefEqProofs (disch:=omega) only[aA,go_sem,simprocAttr])|refine bE (by omega) ?_|(intro hr;have hc:=hr;(try simp only[zdz]at hc);simp -implicitDefEqProofs (disch:=omega) only[hr,aA,go_sem,simprocAttr];(try clear hr))));refine mV (yG 3 g0 cP (S6 s u _ _) (S6 s u _ _) (by rw[elT,pers,rW]) rfl (by simp only[elT,aL,avt,renL,ren,renL_pers _ _ gW,aAf])) ?_;rintro r' h' ⟨rfl,rfl⟩;by_cases hS:aGv s u t=true
    ·rw[if_pos hS]at hR;refine zh (zA2 hS (zA2 @elT.eq_1 (zA2 @aL @avt.eq_1))) ?_;subst hR;exact aEf
    ·rw[if_neg hS]at hR
     by_cases hW:aGu W O u t=true
     ·rw[if_pos hW]at hR;refine zh (zA2 (dG.2 hS) (zA2 hW (zA2 @elT.eq_1 (zA2 @aL @avt.eq_1)))) ?_;subst hR;exact aEf
     ·rw[if_neg hW]at hR;by_cases hV:kY nodeB T=true
      ·rw[if_pos hV]at hR;rw[hV]at c4;refine zh (zA2 (dG.2 hS) (zA2 (dG.2 hW) (zA2 @elT.eq_1 (zA2 @aL @avt.eq_1)))) ?_;(repeat'(first|refine gT ?_ ?_|refine gF ?_ ?_|refine gC ?_ ?_|((first|(refine bJ (c4) ?_ ?_;(focus(simp -implicitDefEqProofs (disch:=omega) only[aA,zdB,go_sem,simprocAttr];done)))|(refine bJ (c5) ?_ ?_;(focus(simp -implicitDefEqProofs (disch:=omega) only[aA,zdB,go_sem,simprocAttr];done))));simp -implicitDefEqProofs (disch:=omega) only[aA,go_sem,simprocAttr])|refine bE (by omega) ?_|(intro hr;have hc:=hr;(try simp only[zdz]at hc);simp -implicitDefEqProofs (disch:=omega) only[hr,aA,go_sem,simprocAttr];(try clear hr))));subst hR;exact bSj
      ·rw[if_neg hV]at hR;rw[dG.2 hV]at c4;refine zh (zA2 (dG.2 hS) (zA2 (dG.2 hW) (zA2 @elT.eq_1 (zA2 @aL @avt.eq_1)))) ?_;(repeat'(first|refine gT ?_ ?_|refine gF ?_ ?_|refine gC ?_ ?_|((refine bJ (c4) ?_ ?_;(focus(simp -implicitDefEqProofs (disch:=omega) only[aB,zdB,go_sem,simprocAttr];done)));simp -implicitDefEqProofs (disch:=omega) only[aB,go_sem,simprocAttr])|refine bE (by omega) ?_|(intro hr;have hc:=hr;(try simp only[zdz]at hc);simp -implicitDefEqProofs (disch:=omega) only[hr,aB,go_sem,simprocAttr];(try clear hr))));subst hR;exact aEf
   ·rw[dG.2 h2]at c2;rw[if_neg (fun h=>h2 h.2)]at hR;(repeat'(first|refine gT ?_ ?_|refine gF ?_ ?_|refine gC ?_ ?_|((first|(refine bJ (c1) ?_ ?_;(focus(simp -implicitDefEqProofs (disch:=omega) only[aA,aB,zdB,go_sem,simprocAttr];done)))|(refine bJ (c2) ?_ ?_;(focus(simp -implicitDefEqProofs (disch:=omega) only[aA,aB,zdB,go_sem,simprocAttr];done))));simp -implicitDefEqProofs (disch:=omega) only[aA,aB,go_sem,simprocAttr])|refine bE (by omega) ?_|(intro hr;have hc:=hr;(try simp only[zdz]at hc);simp -implicitDefEqProofs (disch:=omega) only[hr,aA,aB,go_sem,simprocAttr];(try clear hr))));subst hR;exact aEf
  ·rw[dG.2 h1]at c1;rw[if_neg (fun h=>h1 h.1)]at hR;(repeat'(first|refine gT ?_ ?_|refine gF ?_ ?_|refine gC ?_ ?_|((refine bJ (c1) ?_ ?_;(focus(simp -implicitDefEqProofs (disch:=omega) only[aB,zdB,go_sem,simprocAttr];done)));simp -implicitDefEqProofs (disch:=omega) only[aB,go_sem,simprocAttr])|refine bE (by omega) ?_|(intro hr;have hc:=hr;(try simp only[zdz]at hc);simp -implicitDefEqProofs (disch:=omega) only[hr,aB,go_sem,simprocAttr];(try clear hr))));subst hR;exact aEf
def wS:dK:=⟨[],[],[],[],[]⟩
def bIu:Str:=[73,110,116]
def wX:Str:=[88]
def wL:Str:=[76]
def wZ:Str:=[90]
def tN(n:Int):LTerm:=.mk 1 n [] [] [] []
def tV(x so:Str):LTerm:=.mk 6 0 x so [] []
def tI(x:Str):LTerm:=.mk 4 0 x [] [] []
def tL(ks rs:List LTerm):LTerm:=.mk 7 0 [] [] ks rs
def aBy:Str:=[76,105,115,116]
def wT1:LTerm:=tL [tN 1,tN 2] []
def wp1:LTerm:=tL [tV wX bIu] [tV wL aBy]
def wm:LTerm:=.mk 8 0 [] [] [tI [97],tN 1,tI [98],tN 2] []
def wp2:LTerm:=.mk 8 0 [] [] [tV [75] [73,100],tV [86] bIu] [tV [77] [77,97,112]]
def wp3:LTerm:=tL [tV wX bIu,tV wX bIu] []
def wpd:LTerm:=tV [36] [65,110,121]
def wq1:LTerm:=tL [] [tV wL aBy]
def wq2:LTerm:=tL [tV wX bIu] []
def wu:LSub:=[(wL,tL [tN 2] []),(wX,tN 1)]
def wb:LSub:=[(wL,tL [tN 2] []),(wX,tN 1),(wZ,tN 3)]
def wk:List LSub:=(kM wS wp2 wm []).1
theorem okw{k n:Int}{x so:Str}{ks rs:List LTerm}(hx:x.length≤100)(hs:so.length≤100)(hn:0≤n∧n≤100)(hk:ks.length≤100)(hr:rs.length≤100)(h:∀t∈ks,OkT t)(h2:∀t∈rs,OkT t):OkT (.mk k n x so ks rs):=
 .mk (by simp only[LTerm.text];omega) (by simp only[LTerm.sort];omega) (by simp only[LTerm.n];omega) (by simp only[LTerm.n];omega) (by simp only[LTerm.kids];omega) (by simp only[LTerm.rest];omega) (by simpa[LTerm.kids]using h) (by simpa[LTerm.rest]using h2)
theorem okn:∀t∈([]:List LTerm),OkT t:=fun t h=>by cases h
theorem okc{a:LTerm}{l:List LTerm}(ha:OkT a)(h:∀t∈l,OkT t):∀t∈a::l,OkT t:=fun t ht=>by
 rcases dA.1 ht with rfl|ht
 ·exact ha
 ·exact h t ht
theorem okN{n:Int}(h:0≤n∧n≤100):OkT (tN n):=okw (by decide) (by decide) h (by decide) (by decide) okn okn
theorem okV{x so:Str}(hx:x.length≤100)(hs:so.length≤100):OkT (tV x so):=okw hx hs (by decide) (by decide) (by decide) okn okn
theorem okI{x:Str}(hx:x.length≤100):OkT (tI x):=okw hx (by decide) (by decide) (by decide) (by decide) okn okn
theorem bRp:OkT wT1:=okw (by decide) (by decide) (by decide) (by decide) (by decide) (okc (okN (by decide)) (okc (okN (by decide)) okn)) okn
theorem cBy:OkT wp1:=okw (by decide) (by decide) (by decide) (by decide) (by decide) (okc (okV (by decide) (by decide)) okn) (okc (okV (by decide) (by decide)) okn)
theorem cFr:OkT wm:=okw (by decide) (by decide) (by decide) (by decide) (by decide) (okc (okI (by decide)) (okc (okN (by decide)) (okc (okI (by decide)) (okc (okN (by decide)) okn)))) okn
theorem cBx:OkT wp2:=okw (by decide) (by decide) (by decide) (by decide) (by decide) (okc (okV (by decide) (by decide)) (okc (okV (by decide) (by decide)) okn)) (okc (okV (by decide) (by decide)) okn)
theorem cFq:OkT wp3:=okw (by decide) (by decide) (by decide) (by decide) (by decide) (okc (okV (by decide) (by decide)) (okc (okV (by decide) (by decide)) okn)) okn
theorem cFp:OkT wpd:=okV (by decide) (by decide)
theorem cFo:OkT wq1:=okw (by decide) (by decide) (by decide) (by decide) (by decide) okn (okc (okV (by decide) (by decide)) okn)
theorem cBw:OkT wq2:=okw (by decide) (by decide) (by decide) (by decide) (by decide) (okc (okV (by decide) (by decide)) okn) okn
theorem cBz:OkT (tL [tN 2] []):=okw (by decide) (by decide) (by decide) (by decide) (by decide) (okc (okN (by decide)) okn) okn
theorem smW:Small wS:=⟨by decide,by decide,by decide,by decide,by decide⟩
theorem aTc:OkS wS:=⟨by decide,by simp[wS],by decide,by simp[wS],by decide,by simp[wS],by decide,by simp[wS],by decide,by decide,by decide,by simp[wS]⟩
theorem bLe{m:Nat}:OkU m []:=⟨bX _,fun p h=>by cases h⟩
theorem bRo{m:Nat}{x:Str}{t:LTerm}{u:LSub}(ht:OkT t)(h:OkU m u):OkU (m+1) ((x,t)::u):=⟨by have:=h.1;simp;omega,fun p hp=>by
 rcases dA.1 hp with rfl|hp
 ·exact ht
 ·exact h.2 p hp⟩
theorem cBv:OkU 100000 wu:=bRo cBz (bRo (okN (by decide)) bLe)
theorem cFn:OkU 100000 wb:=bRo cBz (bRo (okN (by decide)) (bRo (okN (by decide)) bLe))
theorem nm0:∀q∈([]:LSub),q.1.length≤140737488355328:=fun q h=>by cases h
theorem nmc{x:Str}{t:LTerm}{u:LSub}(hx:x.length≤100)(h:∀q∈u,q.1.length≤140737488355328):∀q∈(x,t)::u,q.1.length≤140737488355328:=fun q hq=>by
 rcases dA.1 hq with rfl|hq
 ·show x.length≤_;omega
 ·exact h q hq
theorem nmu:∀q∈wu,q.1.length≤140737488355328:=nmc (by decide) (nmc (by decide) nm0)
theorem nmb:∀q∈wb,q.1.length≤140737488355328:=nmc (by decide) (nmc (by decide) (nmc (by decide) nm0))
def W0:List LTerm→Bool:=fun _=>false
theorem cBd:AscU wu:=R6 (s:=wS) (by kernel_rfl)
theorem bKn:bPm W0 id wS wu (tV wX bIu):=fun so tw=>rL g0 (cBu W0 id wS wu (tV wX bIu) so tw smW cBd (by decide) rfl) (by rw[elT,pers,rW]) (by simp[AObj.persO,persL,pers,oJ,avu,nL]) (bV _)
theorem bYr:bPm W0 id wS wu (tV wL aBy):=fun so tw=>rL g0 (cBu W0 id wS wu (tV wL aBy) so tw smW cBd (by decide) rfl) (by rw[elT,pers,rW]) (by simp[AObj.persO,persL,pers,oJ,avu,nL]) (bV _)
theorem cFc:bPm W0 id wS wu wp1:=fun so tw=>rL g0 (cFd W0 id wS wu wp1 so tw smW (fun k hk=>by rw[aP.1 hk];exact bKn) (fun k hk=>by rw[aP.1 hk];exact bYr) (by decide) (by decide) (by decide) (by decide) (by decide +kernel)) (by rw[elT,pers,rW]) (by simp[AObj.persO,persL,pers,oJ,avu,nL]) (bV _)
theorem bYq:aFw id wu wp1=wT1:=by decide +kernel
def bGk:List (FuncId×List AV×AV):=[
 (12,[.agg (dW wS),elT wp1,elT wT1,.sl [] 0],.tup [avw [wu],.i .i64 0]),
 (12,[.agg (dW wS),elT wp2,elT wm,.sl [] 0],.tup [avw wk,.i .i64 0]),
 (12,[.agg (dW wS),elT wp3,elT wT1,.sl [] 0],.tup [avw [],.i .i64 0]),
 (12,[.agg (dW wS),elT wpd,elT (tN 1),.sl [] 0],.tup [avw [],.i .i64 2]),
 (12,[.agg (dW wS),elT (tN 1),elT (tN 2),.sl [] 0],.tup [avw [],.i .i64 0]),
 (22,[.agg (dW wS),elT wp1,avu wu],.tup [elT wT1,.i .i64 0]),
 (45,[.agg (dW wS)],bQ wS),
 (44,[.agg (dW wS)],.b true),
 (70,[avu wu,.s wZ,elT (tN 3)],avu wb),
 (134,[.agg [bQ wS],.mapv [] [],elT (tV wL aBy),elT wq2,.fn 76 [] []],.b true),
 (67,[.agg (dW wS),elT (tN 3)],.b true),
 (24,[elT wT1,elT wT1],.b true),
 (48,[bQ wS,avu wu],.b true),
 (48,[bQ wS,avu wb],.b true),
 (20,[.agg (dW wS),elT wp2],.b true),
 (20,[.agg (dW wS),elT wq1],.b true),
 (20,[.agg (dW wS),elT wq2],.b true)]
theorem oS{f:FuncId}{a:List AV}{r r':AV}(h:CT f a r)(e:r=r'):CT f a r':=e▸h
theorem km1:CT 12 [.agg (dW wS),elT wp1,elT wT1,.sl [] 0] (.tup [avw [wu],.i .i64 0]):=oS (M7 wS wp1 wT1 [] smW aTc cBy bRp bLe nm0 (by decide) (by decide)) (by rw[show kM wS wp1 wT1 []=([wu],0) by kernel_rfl])
theorem km2:CT 12 [.agg (dW wS),elT wp2,elT wm,.sl [] 0] (.tup [avw wk,.i .i64 0]):=oS (M7 wS wp2 wm [] smW aTc cBx cFr bLe nm0 (by decide) (by decide)) (by rw[show(kM wS wp2 wm []).2=0 by kernel_rfl];rfl)
theorem km3:CT 12 [.agg (dW wS),elT wp3,elT wT1,.sl [] 0] (.tup [avw [],.i .i64 0]):=oS (M7 wS wp3 wT1 [] smW aTc cFq bRp bLe nm0 (by decide) (by decide)) (by rw[show kM wS wp3 wT1 []=([],0) by kernel_rfl])
theorem km4:CT 12 [.agg (dW wS),elT wpd,elT (tN 1),.sl [] 0] (.tup [avw [],.i .i64 2]):=oS (M7 wS wpd (tN 1) [] smW aTc cFp (okN (by decide)) bLe nm0 (by decide) (by decide)) (by rw[show kM wS wpd (tN 1) []=([],2) by kernel_rfl])
theorem km5:CT 12 [.agg (dW wS),elT (tN 1),elT (tN 2),.sl [] 0] (.tup [avw [],.i .i64 0]):=oS (M7 wS (tN 1) (tN 2) [] smW aTc (okN (by decide)) (okN (by decide)) bLe nm0 (by decide) (by decide)) (by rw[show kM wS (tN 1) (tN 2) []=([],0) by kernel_rfl])
theorem km6:CT 22 [.agg (dW wS),elT wp1,avu wu] (.tup [elT wT1,.i .i64 0]):=oS (bTr W0 id wS wp1 wu smW aTc cBy (cBv.mono (by omega)) nmu (fun _ _=>cFc) (bYq▸bRp)) (by rw[show bPe W0 id wS wp1 wu=(wT1,0) by kernel_rfl])
theorem hvW:iH wS=true:=by kernel_rfl
theorem km7:CT 45 [.agg (dW wS)] (bQ wS):=aAk wS smW (iP hvW)
theorem km8:CT 44 [.agg (dW wS)] (.b true):=hvW▸aOk wS smW aTc
theorem km9:CT 70 [avu wu,.s wZ,elT (tN 3)] (avu wb):=oS (bHl wu wZ (tN 3) cBd (by kernel_rfl) (by decide)) (by rw[show T8 wu wZ (tN 3)=wb by kernel_rfl])
theorem cGb:CT 134 [.agg [bQ wS],.mapv [] [],elT (tV wL aBy),elT wq2,.fn 76 [] []] (.b true):=oS (bHi wS [] (tV wL aBy) wq2 76 [] [] (fun _=>true) smW (fun x h=>by cases h) (okV (by decide) (by decide)) cBw rfl rfl fun v _=>bHk v) (by rw[show bXc (G5 wS [] (tV wL aBy) wq2) (fun _=>true)=true by kernel_rfl])
theorem cGa:CT 67 [.agg (dW wS),elT (tN 3)] (.b true):=oS (bUb wS (tN 3) smW aTc (okN (by decide))) (by rw[show(iH wS&&jW wS (tN 3))=true by kernel_rfl])
theorem cFz:CT 24 [elT wT1,elT wT1] (.b true):=oS (bUs wT1 wT1 bRp bRp) (by rw[show decide (wT1=wT1)=true from zt rfl])
theorem cFy:CT 48 [bQ wS,avu wu] (.b true):=oS (aLi wS wu smW (cBv.mono (by omega)) nmu) (by rw[show pU wS wu=true by kernel_rfl])
theorem cFx:CT 48 [bQ wS,avu wb] (.b true):=oS (aLi wS wb smW (cFn.mono (by omega)) nmb) (by rw[show pU wS wb=true by kernel_rfl])
theorem cFw:CT 20 [.agg (dW wS),elT wp2] (.b true):=oS (V3 wS wp2 smW aTc cBx) (by rw[show D3 wS wp2=true by kernel_rfl])
theorem cFv:CT 20 [.agg (dW wS),elT wq1] (.b true):=oS (V3 wS wq1 smW aTc cFo) (by rw[show D3 wS wq1=true by kernel_rfl])
theorem cFu:CT 20 [.agg (dW wS),elT wq2] (.b true):=oS (V3 wS wq2 smW aTc cBw) (by rw[show D3 wS wq2=true by kernel_rfl])
theorem aUe:aYw Tryz.prog G0 (bYc bGk):=bJj fun e he=>by
 simp only[bGk,dA,List.not_mem_nil,or_false]at he;rcases he with rfl|rfl|rfl|rfl|rfl|rfl|rfl|rfl|rfl|rfl|rfl|rfl|rfl|rfl|rfl|rfl|rfl;all_goals dsimp only
 all_goals first|exact km1|exact km2|exact km3|exact km4|exact km5|exact km6|exact km7|exact km8|exact km9|exact cGb|exact cGa|exact cFz|exact cFy|exact cFx|exact cFw|exact cFv|exact cFu
def bZh:FuncId→How:=fun f=>if f=75 then⟨true,true,fun i=>if i=10 then some ⟨none,[0],true,false,false,[],[41],0⟩else none⟩
 else if f=31 then⟨false,true,fun i=>if i=5 then some ⟨none,[3],false,false,false,[],[27],0⟩else none⟩else⟨false,true,fun _=>none⟩
theorem bAa:[11,15,18,25,27,31,40,41,42,43,51,60,66,68,69,74,75,122,126,127,128,136,137,138,197,198,199,248].all (fun f=>bPi Tryz.prog (bZh f).rx (bZh f).th f)=true:=by kernel_rfl
theorem bTt:CT 11 [] (.b true):=bJv dE g0 aUe bZh (bRq bAa) 300 (by kernel_rfl)
structure cBo(s:dK)(u:LSub)(l:List LTerm):Prop where
 sm:Small s
 ul:u.length≤100
 un:∀q∈u,nodesT q.2≤1500
 ln:nodesL l≤1500
theorem bMw{s:dK}{u:LSub}{l:List LTerm}(h:bSn s u l=true):cBo s u l:=by
 rw[bSn,bXg,aD,aD,aD,decide_eq_true_eq]at h;obtain⟨⟨h1,h2,h3⟩,h4⟩:=h;exact⟨aVf h1,h2,fun q hq=>bCx h3 (dX.2 ⟨q,hq,rfl⟩),aEh h4⟩
theorem bRr{a b:LTerm}(ha:OkT a)(hb:OkT b):∀t ∈ [a,b],OkT t:=okc ha (okc hb okn)
end Go.Proofs.YtdjcggcjlphdoaaGreatDoor
