/-
  Functions of the chapter, as plain functions of what they are given; no condition.
-/
import Derived.Test.YtdjcggcjlphdoaaGreatDoorVdP16
import Derived.Test.YtdjcggcjlphdoaaGreatDoorVoP26
import Derived.Test.YtdjcggcjlphdoaaGreatDoorVdP13
set_option maxRecDepth 100000
set_option linter.unusedSimpArgs false
set_option linter.unusedVariables false
set_option maxHeartbeats 4000000
namespace Go.Proofs.YtdjcggcjlphdoaaGreatDoor
open Go Go.Vo
open Nat (reduceAdd reduceSub reduceMul reduceLeDiff reduceLT reduceEqDiff)
open Int (reduceNeg)
def iU(l:List LTerm):List LTerm:=l.flatMap fun r=>if r.kind=6 then []else r.kids
mutual
def F6(O:List LTerm→List LTerm)(u:LSub):LTerm→LTerm
 | .mk k n x so ks rs=>if k=6 then(match mOf u x with|some y=>y|none=>.mk k n x so ks rs)else
  .mk k n x so (if k=8 then O (putL O u ks++iU (putL O u rs))else putL O u ks++iU (putL O u rs)) (if(putL O u rs).any (fun r => !decide (r.kind=6))=true then []else rs)
def putL(O:List LTerm→List LTerm)(u:LSub):List LTerm→List LTerm
 | []=>[]
 |t::l=>F6 O u t::putL O u l
end
mutual
def aHh(s:dX)(u:LSub):LTerm→Bool
 | .mk k n x so ks rs=>if k=6 then(match mOf u x with|some y => !nQ s (qM s y) so|none=>false)else putSL s u ks||putSL s u rs
def putSL(s:dX)(u:LSub):List LTerm→Bool
 | []=>false
 |t::l=>aHh s u t||putSL s u l
end
mutual
def aCn(W:List LTerm→Bool)(O:List LTerm→List LTerm)(u:LSub):LTerm→Bool
 | .mk k n x so ks rs=>if k=6 then false else(putWL W O u ks||putWL W O u rs)||(decide (k=8)&&W (putL O u ks++iU (putL O u rs)))
def putWL(W:List LTerm→Bool)(O:List LTerm→List LTerm)(u:LSub):List LTerm→Bool
 | []=>false
 |t::l=>aCn W O u t||putWL W O u l
end
abbrev F7(s:dX)(u:LSub)(so tw:Bool):AObj:=.box false [cM s,avu u,.b so,.b tw]
def bIg(W:List LTerm→Bool)(O:List LTerm→List LTerm)(s:dX)(u:LSub)(t:LTerm):Prop:=∀(so tw:Bool),ACalls Tryz.prog G0 58 [.ptr 0 0,elT t] [F7 s u so tw]
 (fun r h'=>r=elT (F6 O u t)∧h'=[F7 s u (so||aHh s u t) (tw||aCn W O u t)])
def bSo(s:dX)(u:LSub)(R:LTerm)(so tw:Bool)(r:AV)(h':List AObj):Prop:=gZ dep h' r=elT R∧∃z,Vo.freeze (eH dep h' r) h'=[F7 s u so tw]++z
theorem yJ(O:List LTerm→List LTerm)(u:LSub):∀l:List LTerm,(putL O u l).length=l.length
 | []=>by rw[putL]
 |t::l=>by rw[putL,aQ,aQ,yJ O u l]
theorem aLt{O:List LTerm→List LTerm}{u:LSub}{t:LTerm}(h6:t.kind=6):F6 O u t=(match mOf u t.text with|some y=>y|none=>t):=by
 cases t;dsimp only[LTerm.kind]at h6;rw[F6,if_pos h6];rfl
theorem bIx{s:dX}{u:LSub}{t:LTerm}(h6:t.kind=6):aHh s u t=(match mOf u t.text with|some y => !nQ s (qM s y) t.sort|none=>false):=by
 cases t;dsimp only[LTerm.kind]at h6;rw[aHh,if_pos h6];rfl
theorem aLs{W:List LTerm→Bool}{O:List LTerm→List LTerm}{u:LSub}{t:LTerm}(h6:t.kind=6):aCn W O u t=false:=by
 cases t;dsimp only[LTerm.kind]at h6;rw[aCn,if_pos h6]
theorem E0(s:dX)(u:LSub)(so tw:Bool):persL [.box (fF s) 0,.sl (u.flatMap prT) u.length,.b so,.b tw]=true:=by
 have:=mM (s:=s);simp only[pers,cM]at this;simp[persL,pers,this,lZ]
theorem aDv{s:dX}{u:LSub}{R:LTerm}{so tw:Bool}{z:List AObj}:bSo s u R so tw (elT R) (F7 s u so tw::z):=by
 have hp:pers (elT R)=true:=by rw[elT,pers,wJ]
 refine⟨by rw[gE,if_pos hp],z,?_⟩;rw[show eH dep (F7 s u so tw::z) (elT R)=[] by rw[show dep=8+1 from rfl,eH,if_pos hp]];rfl
theorem aUk{s:dX}{u:LSub}{R:LTerm}{so tw so' tw':Bool}{z:List AObj}(h1:so'=so)(h2:tw'=tw):bSo s u R so tw (.agg (tmC R)) (.box false [.box (fF s) 0,.sl (u.flatMap prT) u.length,.b so',.b tw']::z):=by
 subst h1 h2;have:=aDv (s:=s) (u:=u) (R:=R) (so:=so') (tw:=tw') (z:=z);rw[elT,aW]at this;exact this
theorem cDb(W:List LTerm→Bool)(O:List LTerm→List LTerm)(s:dX)(u:LSub)(t:LTerm)(so tw:Bool)(hm:Small s)(ha:AscU u)(hul:u.length≤1000000000)(h6:t.kind=6): ACalls Tryz.prog G0 58 [.ptr 0 0,elT t] [F7 s u so tw] (bSo s u (F6 O u t) (so||aHh s u t) (tw||aCn W O u t)):=by
 refine oO (rx:=true) (th:=fun i=>if i=5 then some ⟨none,[0],false,false,false,[],[],0⟩else if i=12 then some ⟨none,[],false,false,true,[],[],1000⟩else none) cZ Tryz.func58 ?_
 ·simp -implicitDefEqProofs (disch:=omega) only[Tryz.f58,aQ,cB,dM,aH,aJ,aKk,List.replicate,simprocAttr,elT,aW,F7,avu];have c1:=aYo u t.text ha hul;simp only[avu]at c1;cases ho:mOf u t.text with
  |none=>
   rw[ho]at c1;rw[T3,elT,aW]at c1;refine zh (zt h6) ?_;(refine zy1 (zA2 (zt h6) aS) c1 ?_;repeat' first|exact trivial|refine zJ ?_ ?_|refine zH fun hc=>?_);rw[aLt h6,bIx h6,aLs h6,ho];exact aUk (by rw[aF]) (by rw[aF])
  |some y=>
   rw[ho]at c1;rw[T3,elT,aW]at c1;have c2:=aGa s y;have c3:=aQw s (qM s y) t.sort hm;refine zh (zt h6) ?_;(refine zy3 (zA2 (zt h6) aN) c1 c2 c3 ?_;repeat' first|exact trivial|refine zJ ?_ ?_|refine zH fun hc=>?_);all_goals rw[aLt h6,bIx h6,aLs h6,ho]
   all_goals exact aUk (by simp) (by rw[aF])
theorem bIw{O:List LTerm→List LTerm}{u:LSub}{t:LTerm}(h6:¬t.kind=6):F6 O u t=.mk t.kind t.n t.text t.sort (if t.kind=8 then O (putL O u t.kids++iU (putL O u t.rest))else putL O u t.kids++iU (putL O u t.rest)) (if(putL O u t.rest).any (fun r => !decide (r.kind=6))=true then []else t.rest):=by
 cases t with|mk k n x so ks rs=>dsimp only[LTerm.kind]at h6;rw[F6,if_neg h6];rfl
theorem bUr{s:dX}{u:LSub}{t:LTerm}(h6:¬t.kind=6):aHh s u t=(putSL s u t.kids||putSL s u t.rest):=by
 cases t with|mk k n x so ks rs=>dsimp only[LTerm.kind]at h6;rw[aHh,if_neg h6];rfl
theorem bIv{W:List LTerm→Bool}{O:List LTerm→List LTerm}{u:LSub}{t:LTerm}(h6:¬t.kind=6):aCn W O u t=((putWL W O u t.kids||putWL W O u t.rest)||(decide (t.kind=8)&&W (putL O u t.kids++iU (putL O u t.rest)))):=by
 cases t with|mk k n x so ks rs=>dsimp only[LTerm.kind]at h6;rw[aCn,if_neg h6];rfl
def cMl(W:List LTerm→Bool)(O:List LTerm→List LTerm)(s:dX)(u:LSub)(L:List LTerm):Prop:=(O L).length=L.length∧∀(so tw:Bool) (k n:Int) (x o:Str) (rc:AV),pers rc=true →
 ACalls Tryz.prog G0 120 [.ptr 0 0,.ptr 1 0] [F7 s u so tw,.box false [.i .i64 k,.i .i64 n,.s x,.s o,.sl (L.flatMap aP) L.length,rc]] (fun r h'=>r=.tup []∧h'=[F7 s u so (tw||W L),.box false [.i .i64 k,.i .i64 n,.s x,.s o,.sl ((O L).flatMap aP) L.length,rc]])
theorem aAk{O:List LTerm→List LTerm}{u:LSub}:∀{a b:List LTerm},putL O u (a++b)=putL O u a++putL O u b
 | [],b=>by rw[putL];rfl
 |t::a,b=>by rw[aH,putL,putL,aAk,aH]
theorem aDy{O:List LTerm→List LTerm}{u:LSub}{l:List LTerm}{k:Nat}(h:k<l.length):putL O u (l.take (k+1))=putL O u (l.take k)++[F6 O u (l.getD k default)]:=by
 rw[fO h,aAk,putL,putL]
theorem aDx{s:dX}{u:LSub}:∀{a b:List LTerm},putSL s u (a++b)=(putSL s u a||putSL s u b)
 | [],b=>by rw[putSL];rfl
 |t::a,b=>by rw[aH,putSL,putSL,aDx,Bool.or_assoc]
theorem V8{s:dX}{u:LSub}{l:List LTerm}{k:Nat}(h:k<l.length):putSL s u (l.take (k+1))=(putSL s u (l.take k)||aHh s u (l.getD k default)):=by
 rw[fO h,aDx,putSL,putSL,aF]
theorem aDw{W:List LTerm→Bool}{O:List LTerm→List LTerm}{u:LSub}:∀{a b:List LTerm},putWL W O u (a++b)=(putWL W O u a||putWL W O u b)
 | [],b=>by rw[putWL];rfl
 |t::a,b=>by rw[aH,putWL,putWL,aDw,Bool.or_assoc]
theorem V7{W:List LTerm→Bool}{O:List LTerm→List LTerm}{u:LSub}{l:List LTerm}{k:Nat}(h:k<l.length):putWL W O u (l.take (k+1))=(putWL W O u (l.take k)||aCn W O u (l.getD k default)):=by
 rw[fO h,aDw,putWL,putWL,aF]
theorem aDo{a b:List LTerm}:iU (a++b)=iU a++iU b:=by rw[iU,iU,iU,List.flatMap_append]
theorem aPt{O:List LTerm→List LTerm}{u:LSub}{l:List LTerm}{k:Nat}:(iU (putL O u (l.take k))).length≤(iU (putL O u l)).length:=by
 have e:iU (putL O u l)=iU (putL O u (l.take k))++iU (putL O u (l.drop k)):=by rw[← aDo,← aAk,cI]
 rw[e,List.length_append];omega
theorem bDh{s:dX}{u:LSub}{k n:Int}{x so:Str}{ks rs:List LTerm}{a b:Bool}{out rc:AV}{g:List AObj}{B1 B2 B3:AObj}(ho:jI 6 4 g out (ks.flatMap aP) ks.length)(hr:rc=.sl (rs.flatMap aP) rs.length∨(rc=.e0∧rs=[])) :
 bSo s u (.mk k n x so ks rs) a b (.agg [.i .i64 k,.i .i64 n,.s x,.s so,out,rc]) (F7 s u a b::B1::B2::B3::g):=by
 have hpr:pers rc=false∨pers rc=true:=by cases pers rc<;>simp
 rcases ho with⟨rfl,h2,h3⟩|⟨i,rfl,hi,hl⟩
 ·obtain rfl:ks=[]:=eB.1 h3;refine⟨?_,B1::B2::B3::g,?_⟩
  ·rw[gE];rcases hr with rfl|⟨rfl,rfl⟩
   ·simp[pers,persL,rQ,elT,aW,avt,iL,LTerm.kind,LTerm.n,LTerm.text,LTerm.sort,LTerm.kids,LTerm.rest,gZ]
   ·simp[pers,persL,rQ,elT,aW,avt,iL,LTerm.kind,LTerm.n,LTerm.text,LTerm.sort,LTerm.kids,LTerm.rest,gZ]
  ·rcases hr with rfl|⟨rfl,rfl⟩
   ·rw[L9,cAw,if_pos (by simp[aNj,pers,iL])];rfl
   ·rw[L9,cAw,if_pos (by simp[aNj,pers,iL])];rfl
 ·have hg:(F7 s u a b::B1::B2::B3::g)[i+4]? = some (.arr false 6 (ks.flatMap aP)):=by simpa using hi
  have hd:((ks.flatMap aP).drop 0).take (ks.length*6)=ks.flatMap aP:=by rw[bG,bE (by omega)]
  have hp:persL (ks.flatMap aP)=true:=iL;have hle:(0+ks.length*6≤(ks.flatMap aP).length)=True:=eq_true (by omega);have e:gZ 8 (F7 s u a b::B1::B2::B3::g) (.hs (i+4) 0 ks.length false)=.sl (ks.flatMap aP) ks.length:=by
   rw[gZ];simp only[pers,aE,if_false,hg,hd,hp,if_true,hle]
  refine⟨?_,((F7 s u a b::B1::B2::B3::g).modify (i+4) AObj.fz).tail,?_⟩
  ·rw[gE];rcases hr with rfl|⟨rfl,rfl⟩
   ·simp only[pers,persL,rQ,aE,aO,aM,if_false,aK,aZ,e,elT,aW,avt,LTerm.kind,LTerm.n,LTerm.text,LTerm.sort,LTerm.kids,LTerm.rest];simp[gZ,pers,iL]
   ·simp only[pers,persL,rQ,aE,aO,aM,if_false,aK,aZ,e,elT,aW,avt,LTerm.kind,LTerm.n,LTerm.text,LTerm.sort,LTerm.kids,LTerm.rest];simp[gZ,pers,iL]
  ·have e2:eH dep (F7 s u a b::B1::B2::B3::g) (.agg [.i .i64 k,.i .i64 n,.s x,.s so,.hs (i+4) 0 ks.length false,rc])=[i+4]:=by
    rw[show dep=8+1 from rfl,eH];simp only[pers,persL,aE,aO,aM,if_false,List.flatMap_cons,List.flatMap_nil];rcases hr with rfl|⟨rfl,rfl⟩
    ·simp[eH,pers,hg,hp,iL,bE (show(ks.flatMap aP).length≤ks.length*6 by omega)]
    ·simp[eH,pers,hg,hp,iL,bE (show(ks.flatMap aP).length≤ks.length*6 by omega)]
   rw[e2];simp[Vo.freeze]
theorem bDg{s:dX}{u:LSub}{k n:Int}{x so:Str}{ks rs:List LTerm}{m:Nat}{a b:Bool}{z:List AObj}(hm:m=ks.length):bSo s u (.mk k n x so ks rs) a b (.agg [.i .i64 k,.i .i64 n,.s x,.s so,.sl (ks.flatMap aP) m,.sl (rs.flatMap aP) rs.length]) (F7 s u a b::z):=by
 subst hm;have:=aDv (s:=s) (u:=u) (R:=.mk k n x so ks rs) (so:=a) (tw:=b) (z:=z);rw[elT,aW]at this;exact this
theorem cCk{P:Program}{G:Md}{d:Option Nat}{os:List gA}{K:List AV→List AObj→Prop}{env:List AV}{f:FuncId}{A B C:AObj}{k n x so out rc:AV}{g:List AObj}{cells rcells:List AV}{m rn:Nat}(ho:jI 6 4 g out cells m)(hp:persL cells=true)(hrc:rc=.sl rcells rn∨(rc=.e0∧rcells=[]∧rn=0))(hpr:persL rcells=true)
 (H:∀g',tM P G none f [.ptr 0 0,.ptr 3 0] d os K env (A::B::C::.box false [k,n,x,so,.sl cells m,.sl rcells rn]::g')):tM P G none f [.ptr 0 0,.ptr 3 0] d os K env (A::B::C::.box false [k,n,x,so,out,rc]::g):=by
 have h1:∀g:List AObj,(eH dep (A::B::C::.box false [k,n,x,so,out,rc]::g) rc=[]∧gZ dep (A::B::C::.box false [k,n,x,so,out,rc]::g) rc=.sl rcells rn):=fun g=>by
  rcases hrc with rfl|⟨rfl,rfl,rfl⟩
  ·exact⟨mZ (by exact hpr),by rw[gE,if_pos (by exact hpr)]⟩
  ·exact⟨mZ rfl,by simp[gE,pers,rQ]⟩
 refine aZi (b:=3) (k:=5) (i:=1) (x:=rc) rfl rfl rfl (by rw[(h1 g).1];simp) ?_;rw[(h1 g).1,(h1 g).2];simp only[Vo.freeze,iG,iF];rcases ho with⟨rfl,rfl,rfl⟩|⟨i,rfl,hi,hl⟩
 ·refine aZi (b:=3) (k:=4) (i:=1) (x:=.e0) rfl rfl rfl (by rw[mZ rfl];simp) ?_;rw[mZ rfl];simp only[Vo.freeze,iG,iF];exact H g
 ·obtain⟨k1,k2⟩:=I1 (pre:=[A,B,C,.box false [k,n,x,so,.hs (i+4) 0 m false,.sl rcells rn]]) hi hl hp;have k3:eH dep (A::B::C::.box false [k,n,x,so,.hs (i+4) 0 m false,.sl rcells rn]::g) (.hs (i+4) 0 m false)=[i+4]:=by
   rw[yI];have:(A::B::C::.box false [k,n,x,so,.hs (i+4) 0 m false,.sl rcells rn]::g)[i+4]? = some (.arr false 6 cells):=by simpa using hi
   rw[this];have he:cells.all aNj=true:=by
    rw[bF];intro a ha;obtain⟨j,hj⟩:=cW.1 ha;have:=iN hp j a hj;cases a<;>first|rfl|exact this
   simp[hsQ,he]
  refine aZi (b:=3) (k:=4) (i:=1) (x:=.hs (i+4) 0 m false) rfl rfl rfl (by rw[k3];simp) ?_;simp only[aH,aJ,aQ,cB,dM,Nat.reduceAdd]at k1 k2;rw[k1,k2];simp only[iG,iF];exact H _
theorem cIc:bBl Tryz.prog 28 1 #[(0,.const (.agg #[.int .i64 0,.int .i64 0,.string ⟨#[]⟩,.string ⟨#[]⟩,.slice none 0 0,.slice none 0 0]))]=some (.sl [.i .i64 0,.i .i64 0,.s [],.s [],.sl [] 0,.sl [] 0] 1):=by kernel_rfl
theorem cGk(W:List LTerm→Bool)(O:List LTerm→List LTerm)(s:dX)(u:LSub)(t:LTerm)(so tw:Bool)(hm:Small s)(hk:∀k∈t.kids,bIg W O s u k)(hr:∀r∈t.rest,bIg W O s u r)(h6:¬t.kind=6)(h8:t.kind=8→cMl W O s u (putL O u t.kids++iU (putL O u t.rest)))(hkl:t.kids.length≤1000000)(hrl:t.rest.length≤1000000)(hR:(iU (putL O u t.rest)).length≤1000000): ACalls Tryz.prog G0 58 [.ptr 0 0,elT t] [F7 s u so tw] (bSo s u (F6 O u t) (so||aHh s u t) (tw||aCn W O u t)):=by
 refine oO (rx:=true) (th:=fun i=>if i=5 then some ⟨none,[0],false,false,false,[],[],0⟩else if i=12 then some ⟨none,[],false,false,true,[],[],1000⟩else none) cZ Tryz.func58 ?_
 ·simp -implicitDefEqProofs (disch:=omega) only[Tryz.f58,aQ,cB,dM,aH,aJ,aKk,List.replicate,simprocAttr,elT,aW,F7,avu];refine zh (zf h6) ?_;refine dF (fun(v:Nat×AV×List AObj×Bool×Bool)=>(rp 9 .k (.j::(rp 48 .k (.v (.i .i64 (v.1:Nat))::(rp 14 .j (rp 27 .k []))))))) (fun v=>(F7 s u v.2.2.2.1 v.2.2.2.2::.box false (tmC t)::.box false [.i .i64 0,.i .i64 0,.s [],.s [],.e0,.e0]::.box false [.i .i64 t.kind,.i .i64 t.n,.s t.text,.s t.sort,v.2.1,.sl (t.rest.flatMap aP) t.rest.length]::v.2.2.1)) (fun v=>(v.1≤t.kids.length∧jI 6 4 v.2.2.1 v.2.1 ((putL O u (t.kids.take v.1)).flatMap aP) (putL O u (t.kids.take v.1)).length)∧v.2.2.2.1=(so||putSL s u (t.kids.take v.1))∧v.2.2.2.2=(tw||putWL W O u (t.kids.take v.1))) (fun v=>t.kids.length-v.1) ((0,.e0,[],so,tw)) ⟨⟨bJ _,kX⟩,by simp[putSL],by simp[putWL]⟩ rfl (by simp[hZ]) ?_;rintro⟨k,out,g,so1,tw1⟩ j ⟨⟨hk1,hb⟩,hso,htw⟩;dsimp only at hk1 hb hso htw;by_cases hlt:k<t.kids.length
  ·have hki:decide ((k:Int)<((t.kids.length:Nat):Int))=true:=zt (by omega);refine zh (zA2 hki (zA2 @F7.eq_1 (zA2 @avu.eq_1 @cM.eq_1))) ?_;repeat refine bX (by omega) ?_
   refine cAk (rx:=⟨true,false,false,[],[66]⟩) (N:=⟨g.length+5,[0]⟩) cZ 8 (by kernel_rfl) (al:=?_) ?_ ?_;rotate_left
   ·simp only[strip,lI,eS,lH,RX.off,ckF,ckX,zOf,exd,vOf,aD,aC,bD,bC,aF,bA,aM,aF,bS,bY,dR,fT,bB,bI,aJ,aH,dZ,anyPre,Region.binds,aN,aS,aE,if_true,if_false,aX,aU,aI,aO,aZ,aK,aD,aC,List.append_nil,aL,bR,aT,bG,Nat.reduceAdd,aNu,xE,sV,sB,cR,bT,bZ,cU,beq_self_eq_true,fZ,Nat.reduceBEq,rC,qI,rA,kK,aJf,fC,gJ,eZ,xI,G6];rfl
   refine zg ?_;refine⟨by omega,?_⟩;have hmk:=cT (d:=default) hlt;have cc:=hk _ hmk so1 tw1;have hs1:=aDy (O:=O) (u:=u) hlt;have hs2:=V8 (s:=s) (u:=u) hlt;have hs3:=V7 (W:=W) (O:=O) (u:=u) hlt;have hll:=yJ O u (t.kids.take k);rw[List.length_take]at hll;simp only[F7,avu,cM]at cc;refine cAe cc (E0 s u so1 tw1) (E0 s u _ _) (by rw[elT,pers,wJ]) (by simp only[elT,aW,avt,renL,ren,renL_pers _ _ iL,T8]) (by simp[DR.old]) ?_;have hso2:(so1||aHh s u (t.kids.getD k default))=(so||putSL s u (t.kids.take (k+1))):=by rw[hs2,hso,Bool.or_assoc]
   have htw2:(tw1||aCn W O u (t.kids.getD k default))=(tw||putWL W O u (t.kids.take (k+1))):=by rw[hs3,htw,Bool.or_assoc]
   generalize F6 O u (t.kids.getD k default)=T at *
   generalize (so1||aHh s u (t.kids.getD k default))=so2 at *
   generalize (tw1||aCn W O u (t.kids.getD k default))=tw2 at *
   have hAl:((putL O u (t.kids.take k)).flatMap aP).length=(putL O u (t.kids.take k)).length*6:=mJ;rcases hb with⟨rfl,hb2,hb3⟩|⟨i0,rfl,hb2,hb3⟩
   ·refine zh (zA2 @elT.eq_1 (zA2 @aW (zA2 @avt.eq_1 (zA2 @tE (zA2 @fB.{0} (zA2 @fP.{0} (zA2 @List.append_nil.{0} @cIc))))))) ?_;repeat refine bX (by omega) ?_
    refine bAm 8 (by kernel_rfl) (by simp only[cR,bZ,bT,Nat.reduceAdd];rfl) (by simp only[cR,bZ,bT,Nat.reduceAdd];rfl) (by simp only[cR,bZ,bT,Nat.reduceAdd];rfl) (by simp only[cR,bZ,bT,Nat.reduceAdd];rfl) (by simp only[strip,lI,eS,lH,RX.off,ckF,ckX,zOf,exd,vOf,aD,aC,bD,bC,aF,bA,aM,aF,bS,bY,dR,fT,bB,bI,aJ,aH,dZ,anyPre,Region.binds,aN,aS,aE,if_true,if_false,aX,aU,aI,aO,aZ,aK,aD,aC,List.append_nil,aL,bR,aT,bG,Nat.reduceAdd];rfl) (by simp only[strip,lI,eS,lH,RX.off,ckF,ckX,zOf,exd,vOf,aD,aC,bD,bC,aF,bA,aM,aF,bS,bY,dR,fT,bB,bI,aJ,aH,dZ,anyPre,Region.binds,aN,aS,aE,if_true,if_false,aX,aU,aI,aO,aZ,aK,aD,aC,List.append_nil,aL,bR,aT,bG,Nat.reduceAdd];rfl) (by simp only[strip,lI,eS,lH,RX.off,ckF,ckX,zOf,exd,vOf,aD,aC,bD,bC,aF,bA,aM,aF,bS,bY,dR,fT,bB,bI,aJ,aH,dZ,anyPre,Region.binds,aN,aS,aE,if_true,if_false,aX,aU,aI,aO,aZ,aK,aD,aC,List.append_nil,aL,bR,aT,bG,Nat.reduceAdd];rfl) (by simp only[strip,lI,eS,lH,RX.off,ckF,ckX,zOf,exd,vOf,aD,aC,bD,bC,aF,bA,aM,aF,bS,bY,dR,fT,bB,bI,aJ,aH,dZ,anyPre,Region.binds,aN,aS,aE,if_true,if_false,aX,aU,aI,aO,aZ,aK,aD,aC,List.append_nil,aL,bR,aT,bG,Nat.reduceAdd];rfl) ?_;refine zg ?_;repeat' apply bX
    all_goals first
     |omega
     |exact⟨(k+1,.hs (g.length+1+4) 0 1 false,g++[.box false (tmC ((t.kids.getD k default))),.arr false 6 (tmC T)],so2,tw2),⟨⟨by dsimp only;omega,.inr ⟨g.length+1,by dsimp only;rw[hs1,List.length_append,hb3];rfl,by dsimp only;rw[hs1,List.flatMap_append,hb2,List.flatMap_cons,List.flatMap_nil,aW,List.append_nil];simp[avt],by dsimp only;rw[hs1,List.flatMap_append,hb2,List.flatMap_cons,List.flatMap_nil,aW,List.append_nil];simp[hb3]⟩⟩,hso2,htw2⟩,by dsimp only;omega,rfl,by simp[hb3]⟩
   ·have hb2m:∀m:List AObj,(g++m)[i0]? = some (.arr false 6 ((putL O u (t.kids.take k)).flatMap aP)):=fun m=>by rw[aG (bP hb2)];exact hb2
    have hil:=bP hb2;refine zh (zA2 @elT.eq_1 (zA2 @aW (zA2 @avt.eq_1 (zA2 @tE (zA2 @fB.{0} (zA2 @fP.{0} (zA2 @List.append_nil.{0} (zA2 @cIc hb2m)))))))) ?_;repeat refine bX (by omega) ?_
    refine bAm 8 (by kernel_rfl) (by simp only[cR,bZ,bT,Nat.reduceAdd];rfl) (by simp only[cR,bZ,bT,Nat.reduceAdd];rfl) (by simp only[cR,bZ,bT,Nat.reduceAdd];rfl) (by simp only[cR,bZ,bT,Nat.reduceAdd];rfl) (by simp only[strip,lI,eS,lH,RX.off,ckF,ckX,zOf,exd,vOf,aD,aC,bD,bC,aF,bA,aM,aF,bS,bY,dR,fT,bB,bI,aJ,aH,dZ,anyPre,Region.binds,aN,aS,aE,if_true,if_false,aX,aU,aI,aO,aZ,aK,aD,aC,List.append_nil,aL,bR,aT,bG,Nat.reduceAdd];rfl) (by simp only[strip,lI,eS,lH,RX.off,ckF,ckX,zOf,exd,vOf,aD,aC,bD,bC,aF,bA,aM,aF,bS,bY,dR,fT,bB,bI,aJ,aH,dZ,anyPre,Region.binds,aN,aS,aE,if_true,if_false,aX,aU,aI,aO,aZ,aK,aD,aC,List.append_nil,aL,bR,aT,bG,Nat.reduceAdd];rfl) (by simp only[strip,lI,eS,lH,RX.off,ckF,ckX,zOf,exd,vOf,aD,aC,bD,bC,aF,bA,aM,aF,bS,bY,dR,fT,bB,bI,aJ,aH,dZ,anyPre,Region.binds,aN,aS,aE,if_true,if_false,aX,aU,aI,aO,aZ,aK,aD,aC,List.append_nil,aL,bR,aT,bG,Nat.reduceAdd];rfl) (by simp only[strip,lI,eS,lH,RX.off,ckF,ckX,zOf,exd,vOf,aD,aC,bD,bC,aF,bA,aM,aF,bS,bY,dR,fT,bB,bI,aJ,aH,dZ,anyPre,Region.binds,aN,aS,aE,if_true,if_false,aX,aU,aI,aO,aZ,aK,aD,aC,List.append_nil,aL,bR,aT,bG,Nat.reduceAdd];rfl) ?_;have hx1:((g++[AObj.box false [AV.i .i64 (t.kids.getD k default).kind,AV.i .i64 (t.kids.getD k default).n,AV.s (t.kids.getD k default).text,AV.s (t.kids.getD k default).sort,AV.sl ((t.kids.getD k default).kids.flatMap aP) (t.kids.getD k default).kids.length,AV.sl ((t.kids.getD k default).rest.flatMap aP) (t.kids.getD k default).rest.length]]).set i0 AObj.dead++[AObj.arr false 6 ((putL O u (t.kids.take k)).flatMap aP++[AV.i .i64 0,AV.i .i64 0,AV.s [],AV.s [],AV.sl [] 0,AV.sl [] 0])])[g.length+1]? = some (AObj.arr false 6 ((putL O u (t.kids.take k)).flatMap aP++[AV.i .i64 0,AV.i .i64 0,AV.s [],AV.s [],AV.sl [] 0,AV.sl [] 0])):=by
     rw[aR (by simp)];simp
    have hx2:((0:Int)≤((putL O u (t.kids.take k)).length:Nat)∧((((putL O u (t.kids.take k)).length:Nat):Int)<((((putL O u (t.kids.take k)).length+1:Nat)):Int)))=True:=eq_true (by omega);have hx3:List.take ((putL O u (t.kids.take k)).length*6) ((putL O u (t.kids.take k)).flatMap aP++[AV.i .i64 0,AV.i .i64 0,AV.s [],AV.s [],AV.sl [] 0,AV.sl [] 0])=(putL O u (t.kids.take k)).flatMap aP:=by
     rw[List.take_append_of_le_length (by omega),bE (by omega)]
    have hx4:List.drop ((putL O u (t.kids.take k)).length*6+6) ((putL O u (t.kids.take k)).flatMap aP++[AV.i .i64 0,AV.i .i64 0,AV.s [],AV.s [],AV.sl [] 0,AV.sl [] 0])=[]:=cV (by simp only[List.length_append,hAl,aQ,cB];omega);have hx5:((putL O u (t.kids.take k)).length*6+6≤((putL O u (t.kids.take k)).flatMap aP++[AV.i .i64 0,AV.i .i64 0,AV.s [],AV.s [],AV.sl [] 0,AV.sl [] 0]).length)=True:=eq_true (by simp only[List.length_append,hAl,aQ,cB];omega);refine zh (zA2 hx1 (zA2 hx2 (zA2 hx3 (zA2 hx4 hx5)))) ?_;repeat' apply bX
    all_goals first
     |omega
     |skip
    all_goals refine⟨(k+1,.hs (g.length+1+4) 0 ((putL O u (t.kids.take k)).length+1) false,_,so2,tw2),⟨⟨by dsimp only;omega,.inr ⟨g.length+1,by dsimp only;rw[hs1,List.length_append];rfl,?_,?_⟩⟩,hso2,htw2⟩,by dsimp only;omega,rfl,by simp⟩
    all_goals dsimp only
    all_goals rw[hs1,List.flatMap_append,List.flatMap_cons,List.flatMap_nil,aW,List.append_nil]
    all_goals first
     |(rw[jJ (by simp)];rfl)
     |(rw[List.length_append,hAl,List.length_append];simp;omega)
  ·have hki:decide ((k:Int)<((t.kids.length:Nat):Int))=false:=zf (by omega);obtain rfl:k=t.kids.length:=by omega
   rw[bE (bK _)]at hb hso htw;refine zh hki ?_;refine dF (fun(v:Nat×AV×List AObj×(Bool×Bool)×AV)=>(rp 11 .k (.j::.j::(rp 63 .k (.v (.i .i64 (v.1:Nat))::(rp 17 .j (rp 6 .k []))))))) (fun v=>(F7 s u v.2.2.2.1.1 v.2.2.2.1.2::.box false (tmC t)::.box false [.i .i64 0,.i .i64 0,.s [],.s [],.e0,.e0]::.box false [.i .i64 t.kind,.i .i64 t.n,.s t.text,.s t.sort,v.2.1,v.2.2.2.2]::v.2.2.1)) (fun v=>(v.1≤t.rest.length∧jI 6 4 v.2.2.1 v.2.1 ((putL O u t.kids++iU (putL O u (t.rest.take v.1))).flatMap aP) (putL O u t.kids++iU (putL O u (t.rest.take v.1))).length)∧v.2.2.2.1.1=(so1||putSL s u (t.rest.take v.1))∧v.2.2.2.1.2=(tw1||putWL W O u (t.rest.take v.1))∧v.2.2.2.2=(if(putL O u (t.rest.take v.1)).any (fun r => !decide (r.kind=6))=true then .e0 else .sl (t.rest.flatMap aP) t.rest.length)) (fun v=>t.rest.length-v.1) ((0,out,g,(so1,tw1),.sl (t.rest.flatMap aP) t.rest.length)) ⟨⟨bJ _,by simpa[putL,iU]using hb⟩,by simp[putSL],by simp[putWL],by simp[putL]⟩ rfl (by simp[hZ]) ?_;rintro⟨k,out2,g2,⟨so3,tw3⟩,rc⟩ j2 ⟨⟨hk2,hb4⟩,hso3,htw3,hrc⟩;dsimp only at hk2 hb4 hso3 htw3 hrc;by_cases hlt2:k<t.rest.length
   ·have hki2:decide ((k:Int)<((t.rest.length:Nat):Int))=true:=zt (by omega);refine zh (zA2 hki2 (zA2 @F7.eq_1 (zA2 @avu.eq_1 @cM.eq_1))) ?_;repeat refine bX (by omega) ?_
    have hmr:=cT (d:=default) hlt2;have cc:=hr _ hmr so3 tw3;have hs1:=aDy (O:=O) (u:=u) hlt2;have hs2:=V8 (s:=s) (u:=u) hlt2;have hs3:=V7 (W:=W) (O:=O) (u:=u) hlt2;have hb5:=aPt (O:=O) (u:=u) (l:=t.rest) (k:=k+1);have hll:=yJ O u t.kids;simp only[F7,avu,cM]at cc;refine fM (uT 0 g0 cc (E0 s u so3 tw3) (E0 s u _ _) (by rw[elT,pers,wJ]) rfl (by simp only[elT,aW,avt,renL,ren,renL_pers _ _ iL,T8])) ?_;rintro r' h' ⟨rfl,rfl⟩;have hso4:(so3||aHh s u (t.rest.getD k default))=(so1||putSL s u (t.rest.take (k+1))):=by rw[hs2,hso3,Bool.or_assoc]
    have htw4:(tw3||aCn W O u (t.rest.getD k default))=(tw1||putWL W O u (t.rest.take (k+1))):=by rw[hs3,htw3,Bool.or_assoc]
    generalize F6 O u (t.rest.getD k default)=T at *
    generalize (so3||aHh s u (t.rest.getD k default))=so4 at *
    generalize (tw3||aCn W O u (t.rest.getD k default))=tw4 at *
    have hK:iU (putL O u (t.rest.take (k+1)))=iU (putL O u (t.rest.take k))++(if T.kind=6 then []else T.kids):=by
     rw[hs1,aDo];simp[iU]
    by_cases hT:T.kind=6
    ·rw[if_pos hT,List.append_nil]at hK;refine zh (zA2 @elT.eq_1 (zA2 @aW (zA2 @avt.eq_1 (zt hT)))) ?_;refine⟨(k+1,out2,_,(so4,tw4),rc),⟨⟨by dsimp only;omega,?_⟩,hso4,htw4,?_⟩,by dsimp only;omega,rfl,by simp⟩
     ·dsimp only;rw[hK];simpa using hb4.more _
     ·dsimp only;rw[hs1,List.any_append,hrc];simp[hT]
    ·rw[if_neg hT]at hK;refine zh (zA2 @elT.eq_1 (zA2 @aW (zA2 @avt.eq_1 (zf hT)))) ?_;have hb6:(iU (putL O u (t.rest.take k))).length+T.kids.length≤1000000:=by rw[hK,List.length_append]at hb5;omega
     refine gM (N:=4) (pre:=[.box false [.box (fF s) 0,.sl (u.flatMap prT) u.length,.b so4,.b tw4],.box false (tmC t),.box false [.i .i64 0,.i .i64 0,.s [],.s [],.e0,.e0],.box false [.i .i64 t.kind,.i .i64 t.n,.s t.text,.s t.sort,out2,rc]]) (g:=g2) (more:=[.box false (tmC ((t.rest.getD k default))),.box false (tmC T)]) (news:=T.kids.flatMap aP) (m:=T.kids.length) hb4 rfl ?_ bWm bSq bUa cAg rfl (by decide) ?_ ?_ ⟨by rw[List.length_append];omega,by rw[List.length_append];omega⟩ ?_
     ·simp only[aH,aJ,bU]
     ·exact zu
     ·exact zu
     intro out' g' ho' _;rw[← List.flatMap_append,bU,← hK,← List.length_append,bU,← hK]at ho';have ho2:=ho';rcases ho2 with⟨rfl,h2,h3⟩|⟨i1,rfl,hi1,hl1⟩
     ·refine zg ?_;exact⟨(k+1,.e0,g',(so4,tw4),.e0),⟨⟨by dsimp only;omega,by dsimp only;rw[← List.length_append];exact ho'⟩,hso4,htw4,by dsimp only;rw[hs1,List.any_append];simp[hT]⟩,by dsimp only;omega,rfl,by simp⟩
     ·refine zg ?_;exact⟨(k+1,.hs (i1+4) 0 ((putL O u t.kids).length+(iU (putL O u (t.rest.take (k+1)))).length) false,g',(so4,tw4),.e0),⟨⟨by dsimp only;omega,by dsimp only;rw[← List.length_append];exact ho'⟩,hso4,htw4,by dsimp only;rw[hs1,List.any_append];simp[hT]⟩,by dsimp only;omega,rfl,by simp⟩
   ·have hki2:decide ((k:Int)<((t.rest.length:Nat):Int))=false:=zf (by omega);obtain rfl:k=t.rest.length:=by omega
    rw[bE (bK _)]at hb4 hso3 htw3 hrc;rw[bIw h6,bUr h6,bIv h6];by_cases hk8:t.kind=8
    ·obtain⟨hOl,hO⟩:=h8 hk8;rw[if_pos hk8,zt hk8,aI];refine zh (zA2 hki2 (zt hk8)) ?_;obtain⟨R,hR1,hR2⟩:∃R,R=(if(putL O u t.rest).any (fun r => !decide (r.kind=6))=true then []else t.rest)∧(rc=.sl (R.flatMap aP) R.length∨(rc=.e0∧R.flatMap aP=[]∧R.length=0)):=by
      refine⟨_,rfl,?_⟩;rw[hrc];split
      ·exact .inr ⟨rfl,rfl,rfl⟩
      ·exact .inl rfl
     rw[← hR1,← Bool.or_assoc,← Bool.or_assoc,← Bool.or_assoc,← hso,← htw,← hso3,← htw3];generalize putL O u t.kids++iU (putL O u t.rest)=L at *
     refine cCk hb4 iL hR2 iL fun g'=>?_;have cO:=hO so3 tw3 t.kind t.n t.text t.sort (.sl (R.flatMap aP) R.length) (by rw[pers];exact iL);simp only[F7,avu,cM]at cO;refine fM (aSn 0 3 (by decide) g0 cO (E0 s u _ _) (by simp[persL,pers,iL]) (E0 s u _ _) (by simp[persL,pers,iL]) rfl rfl rfl rfl) ?_;rintro r' h' ⟨rfl,rfl⟩;refine zg ?_;exact bDg hOl.symm
    ·rw[if_neg hk8,zf hk8,aO,aF];refine zh (zA2 hki2 (zf hk8)) ?_;rw[← Bool.or_assoc,← Bool.or_assoc,← hso,← htw,← hso3,← htw3];refine bDh hb4 ?_;rw[hrc];split
     ·exact .inr ⟨rfl,rfl⟩
     ·exact .inl rfl
end Go.Proofs.YtdjcggcjlphdoaaGreatDoor
