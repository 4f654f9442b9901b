/-
  Functions of the chapter, as plain functions of what they are given; no condition.
-/
import Derived.Test.YtdjcggcjlphdoaaGreatDoorVdP58
import Derived.Test.YtdjcggcjlphdoaaGreatDoorVoP66
import Derived.Test.YtdjcggcjlphdoaaGreatDoorVdP54
import Derived.Test.YtdjcggcjlphdoaaGreatDoorVoP60
set_option maxRecDepth 100000
set_option linter.unusedSimpArgs false
set_option linter.unusedVariables false
set_option maxHeartbeats 4000000
namespace Go.Proofs.YtdjcggcjlphdoaaGreatDoor
open Go Go.Vo
open Nat (reduceAdd reduceSub reduceMul reduceLeDiff reduceLT reduceEqDiff)
open Int (reduceNeg)
def oD(l:List LTerm):List LTerm:=l.flatMap fun r=>if r.kind=6 then []else r.kids
mutual
def aFr(O:List LTerm→List LTerm)(u:LSub):LTerm→LTerm
 | .mk k n x so ks rs=>if k=6 then(match mOf u x with|some y=>y|none=>.mk k n x so ks rs)else
  .mk k n x so (if k=8 then O (putL O u ks++oD (putL O u rs))else putL O u ks++oD (putL O u rs)) (if(putL O u rs).any (fun r => !decide (r.kind=6))=true then []else rs)
def putL(O:List LTerm→List LTerm)(u:LSub):List LTerm→List LTerm
 | []=>[]
 |t::l=>aFr O u t::putL O u l
end
mutual
def aGl(s:dF)(u:LSub):LTerm→Bool
 | .mk k n x so ks rs=>if k=6 then(match mOf u x with|some y => !mP s (jU s y) so|none=>false)else putSL s u ks||putSL s u rs
def putSL(s:dF)(u:LSub):List LTerm→Bool
 | []=>false
 |t::l=>aGl s u t||putSL s u l
end
mutual
def aGk(W:List LTerm→Bool)(O:List LTerm→List LTerm)(u:LSub):LTerm→Bool
 | .mk k n x so ks rs=>if k=6 then false else(putWL W O u ks||putWL W O u rs)||(decide (k=8)&&W (putL O u ks++oD (putL O u rs)))
def putWL(W:List LTerm→Bool)(O:List LTerm→List LTerm)(u:LSub):List LTerm→Bool
 | []=>false
 |t::l=>aGk W O u t||putWL W O u l
end
abbrev P2(s:dF)(u:LSub)(so tw:Bool):AObj:=.box false [cD s,avu u,.b so,.b tw]
def bNl(W:List LTerm→Bool)(O:List LTerm→List LTerm)(s:dF)(u:LSub)(t:LTerm):Prop:=∀(so tw:Bool),ACalls Tryz.prog G0 58 [.ptr 0 0,elT t] [P2 s u so tw]
 (fun r h'=>r=elT (aFr O u t)∧h'=[P2 s u (so||aGl s u t) (tw||aGk W O u t)])
def bVk(s:dF)(u:LSub)(R:LTerm)(so tw:Bool)(r:AV)(h':List AObj):Prop:=gJ dep h' r=elT R∧∃z,Vo.freeze (eB dep h' r) h'=[P2 s u so tw]++z
theorem W7(O:List LTerm→List LTerm)(u:LSub):∀l:List LTerm,(putL O u l).length=l.length
 | []=>by rw[putL]
 |t::l=>by rw[putL,bB,bB,W7 O u l]
theorem bEf{O:List LTerm→List LTerm}{u:LSub}{t:LTerm}(h6:t.kind=6):aFr O u t=(match mOf u t.text with|some y=>y|none=>t):=by
 cases t;dsimp only[LTerm.kind]at h6;rw[aFr,if_pos h6];rfl
theorem bEg{s:dF}{u:LSub}{t:LTerm}(h6:t.kind=6):aGl s u t=(match mOf u t.text with|some y => !mP s (jU s y) t.sort|none=>false):=by
 cases t;dsimp only[LTerm.kind]at h6;rw[aGl,if_pos h6];rfl
theorem bEe{W:List LTerm→Bool}{O:List LTerm→List LTerm}{u:LSub}{t:LTerm}(h6:t.kind=6):aGk W O u t=false:=by
 cases t;dsimp only[LTerm.kind]at h6;rw[aGk,if_pos h6]
theorem S5(s:dF)(u:LSub)(so tw:Bool):persL [.box (eP s) 0,.sl (u.flatMap prT) u.length,.b so,.b tw]=true:=by
 have:=qS (s:=s);simp only[pers,cD]at this;simp[persL,pers,this,jG]
theorem aRk{s:dF}{u:LSub}{R:LTerm}{so tw:Bool}{z:List AObj}:bVk s u R so tw (elT R) (P2 s u so tw::z):=by
 have hp:pers (elT R)=true:=by rw[elT,pers,D0]
 refine⟨by rw[fS,if_pos hp],z,?_⟩;rw[show eB dep (P2 s u so tw::z) (elT R)=[] by rw[show dep=8+1 from rfl,eB,if_pos hp]];rfl
theorem aRl{s:dF}{u:LSub}{R:LTerm}{so tw so' tw':Bool}{z:List AObj}(h1:so'=so)(h2:tw'=tw):bVk s u R so tw (.agg (tmC R)) (.box false [.box (eP s) 0,.sl (u.flatMap prT) u.length,.b so',.b tw']::z):=by
 subst h1 h2;have:=aRk (s:=s) (u:=u) (R:=R) (so:=so') (tw:=tw') (z:=z);rw[elT,aI]at this;exact this
theorem cAm(W:List LTerm→Bool)(O:List LTerm→List LTerm)(s:dF)(u:LSub)(t:LTerm)(so tw:Bool)(hm:Small s)(ha:AscU u)(hul:u.length≤1000000000)(h6:t.kind=6): ACalls Tryz.prog G0 58 [.ptr 0 0,elT t] [P2 s u so tw] (bVk s u (aFr O u t) (so||aGl s u t) (tw||aGk W O u t)):=by
 refine jD (rx:=true) (th:=fun i=>if i=5 then some ⟨none,[0],false,false,false,[],[],0⟩else if i=12 then some ⟨none,[],false,false,true,[],[],1000⟩else none) cI Tryz.func58 ?_
 ·simp -implicitDefEqProofs (disch:=omega) only[Tryz.f58,bB,cH,dU,aH,aJ,Nat.sub_zero,List.replicate,simprocAttr,elT,aI,P2,avu];have c1:=aUy u t.text ha hul;simp only[avu]at c1;cases ho:mOf u t.text with
  |none=>
   rw[ho]at c1;rw[sX,elT,aI]at c1;refine zh (zt h6) ?_;(repeat'(first|refine gT ?_ ?_|refine gF ?_ ?_|refine gC ?_ ?_|((refine bM (c1) ?_ ?_;(focus(simp -implicitDefEqProofs (disch:=omega) only[zt h6,Bool.not_false,zdB,go_sem,simprocAttr];done)));simp -implicitDefEqProofs (disch:=omega) only[zt h6,Bool.not_false,go_sem,simprocAttr])|refine aU (by omega) ?_|(intro hr;have hc:=hr;(try simp only[zdz]at hc);simp -implicitDefEqProofs (disch:=omega) only[hr,zt h6,Bool.not_false,go_sem,simprocAttr];(try clear hr))));rw[bEf h6,bEg h6,bEe h6,ho];exact aRl (by rw[aF]) (by rw[aF])
  |some y=>
   rw[ho]at c1;rw[sX,elT,aI]at c1;have c2:=aEs s y;have c3:=aOf s (jU s y) t.sort hm;refine zh (zt h6) ?_;(repeat'(first|refine gT ?_ ?_|refine gF ?_ ?_|refine gC ?_ ?_|((first|(refine bM (c1) ?_ ?_;(focus(simp -implicitDefEqProofs (disch:=omega) only[zt h6,Bool.not_true,zdB,go_sem,simprocAttr];done)))|(refine bM (c2) ?_ ?_;(focus(simp -implicitDefEqProofs (disch:=omega) only[zt h6,Bool.not_true,zdB,go_sem,simprocAttr];done)))|(refine bM (c3) ?_ ?_;(focus(simp -implicitDefEqProofs (disch:=omega) only[zt h6,Bool.not_true,zdB,go_sem,simprocAttr];done))));simp -implicitDefEqProofs (disch:=omega) only[zt h6,Bool.not_true,go_sem,simprocAttr])|refine aU (by omega) ?_|(intro hr;have hc:=hr;(try simp only[zdz]at hc);simp -implicitDefEqProofs (disch:=omega) only[hr,zt h6,Bool.not_true,go_sem,simprocAttr];(try clear hr))));all_goals rw[bEf h6,bEg h6,bEe h6,ho]
   all_goals exact aRl (by simp) (by rw[aF])
theorem bPb{O:List LTerm→List LTerm}{u:LSub}{t:LTerm}(h6:¬t.kind=6)(h8:¬t.kind=8):aFr O u t=.mk t.kind t.n t.text t.sort (putL O u t.kids++oD (putL O u t.rest)) (if(putL O u t.rest).any (fun r => !decide (r.kind=6))=true then []else t.rest):=by
 cases t with|mk k n x so ks rs=>dsimp only[LTerm.kind]at h6 h8;rw[aFr,if_neg h6,if_neg h8];rfl
theorem bPc{s:dF}{u:LSub}{t:LTerm}(h6:¬t.kind=6):aGl s u t=(putSL s u t.kids||putSL s u t.rest):=by
 cases t with|mk k n x so ks rs=>dsimp only[LTerm.kind]at h6;rw[aGl,if_neg h6];rfl
theorem bPa{W:List LTerm→Bool}{O:List LTerm→List LTerm}{u:LSub}{t:LTerm}(h6:¬t.kind=6)(h8:¬t.kind=8):aGk W O u t=(putWL W O u t.kids||putWL W O u t.rest):=by
 cases t with|mk k n x so ks rs=>dsimp only[LTerm.kind]at h6 h8;rw[aGk,if_neg h6,zf h8];simp[LTerm.kids,LTerm.rest]
theorem W8{O:List LTerm→List LTerm}{u:LSub}:∀{a b:List LTerm},putL O u (a++b)=putL O u a++putL O u b
 | [],b=>by rw[putL];rfl
 |t::a,b=>by rw[aH,putL,putL,W8,aH]
theorem aCr{O:List LTerm→List LTerm}{u:LSub}{l:List LTerm}{k:Nat}(h:k<l.length):putL O u (l.take (k+1))=putL O u (l.take k)++[aFr O u (l.getD k default)]:=by
 rw[eZ h,W8,putL,putL]
theorem aCq{s:dF}{u:LSub}:∀{a b:List LTerm},putSL s u (a++b)=(putSL s u a||putSL s u b)
 | [],b=>by rw[putSL];rfl
 |t::a,b=>by rw[aH,putSL,putSL,aCq,lC]
theorem S0{s:dF}{u:LSub}{l:List LTerm}{k:Nat}(h:k<l.length):putSL s u (l.take (k+1))=(putSL s u (l.take k)||aGl s u (l.getD k default)):=by
 rw[eZ h,aCq,putSL,putSL,aF]
theorem aCp{W:List LTerm→Bool}{O:List LTerm→List LTerm}{u:LSub}:∀{a b:List LTerm},putWL W O u (a++b)=(putWL W O u a||putWL W O u b)
 | [],b=>by rw[putWL];rfl
 |t::a,b=>by rw[aH,putWL,putWL,aCp,lC]
theorem R9{W:List LTerm→Bool}{O:List LTerm→List LTerm}{u:LSub}{l:List LTerm}{k:Nat}(h:k<l.length):putWL W O u (l.take (k+1))=(putWL W O u (l.take k)||aGk W O u (l.getD k default)):=by
 rw[eZ h,aCp,putWL,putWL,aF]
theorem aCi{a b:List LTerm}:oD (a++b)=oD a++oD b:=by rw[oD,oD,oD,List.flatMap_append]
theorem aNg{O:List LTerm→List LTerm}{u:LSub}{l:List LTerm}{k:Nat}:(oD (putL O u (l.take k))).length≤(oD (putL O u l)).length:=by
 have e:oD (putL O u l)=oD (putL O u (l.take k))++oD (putL O u (l.drop k)):=by rw[← aCi,← W8,eQ]
 rw[e,List.length_append];omega
theorem aYy{s:dF}{u:LSub}{k n:Int}{x so:Str}{ks rs:List LTerm}{a b:Bool}{out rc:AV}{g:List AObj}{B1 B2 B3:AObj}(ho:gD 6 4 g out (ks.flatMap aM) ks.length)(hr:rc=.sl (rs.flatMap aM) rs.length∨(rc=.e0∧rs=[])) :
 bVk s u (.mk k n x so ks rs) a b (.agg [.i .i64 k,.i .i64 n,.s x,.s so,out,rc]) (P2 s u a b::B1::B2::B3::g):=by
 have hpr:pers rc=false∨pers rc=true:=by cases pers rc<;>simp
 rcases ho with⟨rfl,h2,h3⟩|⟨i,rfl,hi,hl⟩
 ·obtain rfl:ks=[]:=List.length_eq_zero_iff.1 h3;refine⟨?_,B1::B2::B3::g,?_⟩
  ·rw[fS];rcases hr with rfl|⟨rfl,rfl⟩
   ·simp[pers,persL,rQ,elT,aI,avt,eW,LTerm.kind,LTerm.n,LTerm.text,LTerm.sort,LTerm.kids,LTerm.rest,gJ]
   ·simp[pers,persL,rQ,elT,aI,avt,eW,LTerm.kind,LTerm.n,LTerm.text,LTerm.sort,LTerm.kids,LTerm.rest,gJ]
  ·rcases hr with rfl|⟨rfl,rfl⟩
   ·rw[tP,bMw,if_pos (by simp[aKw,pers,eW])];rfl
   ·rw[tP,bMw,if_pos (by simp[aKw,pers,eW])];rfl
 ·have hg:(P2 s u a b::B1::B2::B3::g)[i+4]? = some (.arr false 6 (ks.flatMap aM)):=by simpa using hi
  have hd:((ks.flatMap aM).drop 0).take (ks.length*6)=ks.flatMap aM:=by rw[bA,aS (by omega)]
  have hp:persL (ks.flatMap aM)=true:=eW;have hle:(0+ks.length*6≤(ks.flatMap aM).length)=True:=eq_true (by omega);have e:gJ 8 (P2 s u a b::B1::B2::B3::g) (.hs (i+4) 0 ks.length false)=.sl (ks.flatMap aM) ks.length:=by
   rw[gJ];simp only[pers,aE,if_false,hg,hd,hp,if_true,hle]
  refine⟨?_,((P2 s u a b::B1::B2::B3::g).modify (i+4) AObj.fz).tail,?_⟩
  ·rw[fS];rcases hr with rfl|⟨rfl,rfl⟩
   ·simp only[pers,persL,rQ,aE,Bool.false_and,Bool.and_false,if_false,aK,aT,e,elT,aI,avt,LTerm.kind,LTerm.n,LTerm.text,LTerm.sort,LTerm.kids,LTerm.rest];simp[gJ,pers,eW]
   ·simp only[pers,persL,rQ,aE,Bool.false_and,Bool.and_false,if_false,aK,aT,e,elT,aI,avt,LTerm.kind,LTerm.n,LTerm.text,LTerm.sort,LTerm.kids,LTerm.rest];simp[gJ,pers,eW]
  ·have e2:eB dep (P2 s u a b::B1::B2::B3::g) (.agg [.i .i64 k,.i .i64 n,.s x,.s so,.hs (i+4) 0 ks.length false,rc])=[i+4]:=by
    rw[show dep=8+1 from rfl,eB];simp only[pers,persL,aE,Bool.false_and,Bool.and_false,if_false,List.flatMap_cons,List.flatMap_nil];rcases hr with rfl|⟨rfl,rfl⟩
    ·simp[eB,pers,hg,hp,eW,aS (show(ks.flatMap aM).length≤ks.length*6 by omega)]
    ·simp[eB,pers,hg,hp,eW,aS (show(ks.flatMap aM).length≤ks.length*6 by omega)]
   rw[e2];simp[Vo.freeze]
theorem cCg:aXn Tryz.prog 28 1 #[(0,.const (.agg #[.int .i64 0,.int .i64 0,.string ⟨#[]⟩,.string ⟨#[]⟩,.slice none 0 0,.slice none 0 0]))]=some (.sl [.i .i64 0,.i .i64 0,.s [],.s [],.sl [] 0,.sl [] 0] 1):=by kernel_rfl
theorem cEa(W:List LTerm→Bool)(O:List LTerm→List LTerm)(s:dF)(u:LSub)(t:LTerm)(so tw:Bool)(hm:Small s)(hk:∀k∈t.kids,bNl W O s u k)(hr:∀r∈t.rest,bNl W O s u r)(h6:¬t.kind=6)(h8:¬t.kind=8)(hkl:t.kids.length≤1000000)(hrl:t.rest.length≤1000000)(hR:(oD (putL O u t.rest)).length≤1000000): ACalls Tryz.prog G0 58 [.ptr 0 0,elT t] [P2 s u so tw] (bVk s u (aFr O u t) (so||aGl s u t) (tw||aGk W O u t)):=by
 refine jD (rx:=true) (th:=fun i=>if i=5 then some ⟨none,[0],false,false,false,[],[],0⟩else if i=12 then some ⟨none,[],false,false,true,[],[],1000⟩else none) cI Tryz.func58 ?_
 ·simp -implicitDefEqProofs (disch:=omega) only[Tryz.f58,bB,cH,dU,aH,aJ,Nat.sub_zero,List.replicate,simprocAttr,elT,aI,P2,avu];refine zh (zf h6) ?_;refine cO (fun(v:Nat×AV×List AObj×Bool×Bool)=>(rp 9 .k (.j::(rp 48 .k (.v (.i .i64 (v.1:Nat))::(rp 14 .j (rp 27 .k []))))))) (fun v=>(P2 s u v.2.2.2.1 v.2.2.2.2::.box false (tmC t)::.box false [.i .i64 0,.i .i64 0,.s [],.s [],.e0,.e0]::.box false [.i .i64 t.kind,.i .i64 t.n,.s t.text,.s t.sort,v.2.1,.sl (t.rest.flatMap aM) t.rest.length]::v.2.2.1)) (fun v=>(v.1≤t.kids.length∧gD 6 4 v.2.2.1 v.2.1 ((putL O u (t.kids.take v.1)).flatMap aM) (putL O u (t.kids.take v.1)).length)∧v.2.2.2.1=(so||putSL s u (t.kids.take v.1))∧v.2.2.2.2=(tw||putWL W O u (t.kids.take v.1))) (fun v=>t.kids.length-v.1) ((0,.e0,[],so,tw)) ⟨⟨aR _,eX⟩,by simp[putSL],by simp[putWL]⟩ rfl (by simp[fO]) ?_;rintro⟨k,out,g,so1,tw1⟩ j ⟨⟨hk1,hb⟩,hso,htw⟩;dsimp only at hk1 hb hso htw;by_cases hlt:k<t.kids.length
  ·have hki:decide ((k:Int)<((t.kids.length:Nat):Int))=true:=zt (by omega);refine zh (zA2 hki (zA2 @P2.eq_1 (zA2 @avu.eq_1 @cD.eq_1))) ?_;repeat refine aU (by omega) ?_
   refine bUw (rx:=⟨true,false,false,[],[66]⟩) (N:=⟨g.length+5,[0]⟩) cI 8 (by kernel_rfl) (al:=?_) ?_ ?_;rotate_left
   ·simp only[strip,lA,eH,kZ,RX.off,ckF,ckX,zOf,exd,vOf,aD,aC,aY,aX,aF,Bool.and_true,Bool.and_false,aF,bP,bR,dI,fD,aW,bE,aJ,aH,dO,anyPre,Region.binds,Bool.not_true,Bool.not_false,aE,if_true,if_false,aP,aO,Bool.true_and,Bool.false_and,aT,aK,aD,aC,List.append_nil,aL,bK,aQ,bA,Nat.reduceAdd,aLl,wG,sS,rZ,cN,bY,bU,cV,beq_self_eq_true,fI,Nat.reduceBEq,rA,pV,qW,jY,aHl,fC,gR,dW,wM,E0];rfl
   refine zg ?_;refine⟨by omega,?_⟩;have hmk:=cC (d:=default) hlt;have cc:=hk _ hmk so1 tw1;have hs1:=aCr (O:=O) (u:=u) hlt;have hs2:=S0 (s:=s) (u:=u) hlt;have hs3:=R9 (W:=W) (O:=O) (u:=u) hlt;have hll:=W7 O u (t.kids.take k);rw[bS]at hll;simp only[P2,avu,cD]at cc;refine bUr cc (S5 s u so1 tw1) (S5 s u _ _) (by rw[elT,pers,D0]) (by simp only[elT,aI,avt,renL,ren,renL_pers _ _ eW,mY]) (by simp[DR.old]) ?_;have hso2:(so1||aGl s u (t.kids.getD k default))=(so||putSL s u (t.kids.take (k+1))):=by rw[hs2,hso,lC]
   have htw2:(tw1||aGk W O u (t.kids.getD k default))=(tw||putWL W O u (t.kids.take (k+1))):=by rw[hs3,htw,lC]
   generalize aFr O u (t.kids.getD k default)=T at *
   generalize (so1||aGl s u (t.kids.getD k default))=so2 at *
   generalize (tw1||aGk W O u (t.kids.getD k default))=tw2 at *
   have hAl:((putL O u (t.kids.take k)).flatMap aM).length=(putL O u (t.kids.take k)).length*6:=rN;rcases hb with⟨rfl,hb2,hb3⟩|⟨i0,rfl,hb2,hb3⟩
   ·refine zh (zA2 @elT.eq_1 (zA2 @aI (zA2 @avt.eq_1 (zA2 @mL (zA2 @dV.{0} (zA2 @eO.{0} (zA2 @List.append_nil.{0} @cCg))))))) ?_;repeat refine aU (by omega) ?_
    refine aWu 8 (by kernel_rfl) (by simp only[cN,bU,bY,Nat.reduceAdd];rfl) (by simp only[cN,bU,bY,Nat.reduceAdd];rfl) (by simp only[cN,bU,bY,Nat.reduceAdd];rfl) (by simp only[cN,bU,bY,Nat.reduceAdd];rfl) (by simp only[strip,lA,eH,kZ,RX.off,ckF,ckX,zOf,exd,vOf,aD,aC,aY,aX,aF,Bool.and_true,Bool.and_false,aF,bP,bR,dI,fD,aW,bE,aJ,aH,dO,anyPre,Region.binds,Bool.not_true,Bool.not_false,aE,if_true,if_false,aP,aO,Bool.true_and,Bool.false_and,aT,aK,aD,aC,List.append_nil,aL,bK,aQ,bA,Nat.reduceAdd];rfl) (by simp only[strip,lA,eH,kZ,RX.off,ckF,ckX,zOf,exd,vOf,aD,aC,aY,aX,aF,Bool.and_true,Bool.and_false,aF,bP,bR,dI,fD,aW,bE,aJ,aH,dO,anyPre,Region.binds,Bool.not_true,Bool.not_false,aE,if_true,if_false,aP,aO,Bool.true_and,Bool.false_and,aT,aK,aD,aC,List.append_nil,aL,bK,aQ,bA,Nat.reduceAdd];rfl) (by simp only[strip,lA,eH,kZ,RX.off,ckF,ckX,zOf,exd,vOf,aD,aC,aY,aX,aF,Bool.and_true,Bool.and_false,aF,bP,bR,dI,fD,aW,bE,aJ,aH,dO,anyPre,Region.binds,Bool.not_true,Bool.not_false,aE,if_true,if_false,aP,aO,Bool.true_and,Bool.false_and,aT,aK,aD,aC,List.append_nil,aL,bK,aQ,bA,Nat.reduceAdd];rfl) (by simp only[strip,lA,eH,kZ,RX.off,ckF,ckX,zOf,exd,vOf,aD,aC,aY,aX,aF,Bool.and_true,Bool.and_false,aF,bP,bR,dI,fD,aW,bE,aJ,aH,dO,anyPre,Region.binds,Bool.not_true,Bool.not_false,aE,if_true,if_false,aP,aO,Bool.true_and,Bool.false_and,aT,aK,aD,aC,List.append_nil,aL,bK,aQ,bA,Nat.reduceAdd];rfl) ?_;refine zg ?_;repeat' apply aU
    all_goals first
     |omega
     |exact⟨(k+1,.hs (g.length+1+4) 0 1 false,g++[.box false (tmC ((t.kids.getD k default))),.arr false 6 (tmC T)],so2,tw2),⟨⟨by dsimp only;omega,.inr ⟨g.length+1,by dsimp only;rw[hs1,List.length_append,hb3];rfl,by dsimp only;rw[hs1,List.flatMap_append,hb2,List.flatMap_cons,List.flatMap_nil,aI,List.append_nil];simp[avt],by dsimp only;rw[hs1,List.flatMap_append,hb2,List.flatMap_cons,List.flatMap_nil,aI,List.append_nil];simp[hb3]⟩⟩,hso2,htw2⟩,by dsimp only;omega,rfl,by simp[hb3]⟩
   ·have hb2m:∀m:List AObj,(g++m)[i0]? = some (.arr false 6 ((putL O u (t.kids.take k)).flatMap aM)):=fun m=>by rw[aG (bH hb2)];exact hb2
    have hil:=bH hb2;refine zh (zA2 @elT.eq_1 (zA2 @aI (zA2 @avt.eq_1 (zA2 @mL (zA2 @dV.{0} (zA2 @eO.{0} (zA2 @List.append_nil.{0} (zA2 @cCg hb2m)))))))) ?_;repeat refine aU (by omega) ?_
    refine aWu 8 (by kernel_rfl) (by simp only[cN,bU,bY,Nat.reduceAdd];rfl) (by simp only[cN,bU,bY,Nat.reduceAdd];rfl) (by simp only[cN,bU,bY,Nat.reduceAdd];rfl) (by simp only[cN,bU,bY,Nat.reduceAdd];rfl) (by simp only[strip,lA,eH,kZ,RX.off,ckF,ckX,zOf,exd,vOf,aD,aC,aY,aX,aF,Bool.and_true,Bool.and_false,aF,bP,bR,dI,fD,aW,bE,aJ,aH,dO,anyPre,Region.binds,Bool.not_true,Bool.not_false,aE,if_true,if_false,aP,aO,Bool.true_and,Bool.false_and,aT,aK,aD,aC,List.append_nil,aL,bK,aQ,bA,Nat.reduceAdd];rfl) (by simp only[strip,lA,eH,kZ,RX.off,ckF,ckX,zOf,exd,vOf,aD,aC,aY,aX,aF,Bool.and_true,Bool.and_false,aF,bP,bR,dI,fD,aW,bE,aJ,aH,dO,anyPre,Region.binds,Bool.not_true,Bool.not_false,aE,if_true,if_false,aP,aO,Bool.true_and,Bool.false_and,aT,aK,aD,aC,List.append_nil,aL,bK,aQ,bA,Nat.reduceAdd];rfl) (by simp only[strip,lA,eH,kZ,RX.off,ckF,ckX,zOf,exd,vOf,aD,aC,aY,aX,aF,Bool.and_true,Bool.and_false,aF,bP,bR,dI,fD,aW,bE,aJ,aH,dO,anyPre,Region.binds,Bool.not_true,Bool.not_false,aE,if_true,if_false,aP,aO,Bool.true_and,Bool.false_and,aT,aK,aD,aC,List.append_nil,aL,bK,aQ,bA,Nat.reduceAdd];rfl) (by simp only[strip,lA,eH,kZ,RX.off,ckF,ckX,zOf,exd,vOf,aD,aC,aY,aX,aF,Bool.and_true,Bool.and_false,aF,bP,bR,dI,fD,aW,bE,aJ,aH,dO,anyPre,Region.binds,Bool.not_true,Bool.not_false,aE,if_true,if_false,aP,aO,Bool.true_and,Bool.false_and,aT,aK,aD,aC,List.append_nil,aL,bK,aQ,bA,Nat.reduceAdd];rfl) ?_;have hx1:((g++[AObj.box false [AV.i .i64 (t.kids.getD k default).kind,AV.i .i64 (t.kids.getD k default).n,AV.s (t.kids.getD k default).text,AV.s (t.kids.getD k default).sort,AV.sl ((t.kids.getD k default).kids.flatMap aM) (t.kids.getD k default).kids.length,AV.sl ((t.kids.getD k default).rest.flatMap aM) (t.kids.getD k default).rest.length]]).set i0 AObj.dead++[AObj.arr false 6 ((putL O u (t.kids.take k)).flatMap aM++[AV.i .i64 0,AV.i .i64 0,AV.s [],AV.s [],AV.sl [] 0,AV.sl [] 0])])[g.length+1]? = some (AObj.arr false 6 ((putL O u (t.kids.take k)).flatMap aM++[AV.i .i64 0,AV.i .i64 0,AV.s [],AV.s [],AV.sl [] 0,AV.sl [] 0])):=by
     rw[aN (by simp)];simp
    have hx2:((0:Int)≤((putL O u (t.kids.take k)).length:Nat)∧((((putL O u (t.kids.take k)).length:Nat):Int)<((((putL O u (t.kids.take k)).length+1:Nat)):Int)))=True:=eq_true (by omega);have hx3:List.take ((putL O u (t.kids.take k)).length*6) ((putL O u (t.kids.take k)).flatMap aM++[AV.i .i64 0,AV.i .i64 0,AV.s [],AV.s [],AV.sl [] 0,AV.sl [] 0])=(putL O u (t.kids.take k)).flatMap aM:=by
     rw[List.take_append_of_le_length (by omega),aS (by omega)]
    have hx4:List.drop ((putL O u (t.kids.take k)).length*6+6) ((putL O u (t.kids.take k)).flatMap aM++[AV.i .i64 0,AV.i .i64 0,AV.s [],AV.s [],AV.sl [] 0,AV.sl [] 0])=[]:=cQ (by simp only[List.length_append,hAl,bB,cH];omega);have hx5:((putL O u (t.kids.take k)).length*6+6≤((putL O u (t.kids.take k)).flatMap aM++[AV.i .i64 0,AV.i .i64 0,AV.s [],AV.s [],AV.sl [] 0,AV.sl [] 0]).length)=True:=eq_true (by simp only[List.length_append,hAl,bB,cH];omega);refine zh (zA2 hx1 (zA2 hx2 (zA2 hx3 (zA2 hx4 hx5)))) ?_;repeat' apply aU
    all_goals first
     |omega
     |skip
    all_goals refine⟨(k+1,.hs (g.length+1+4) 0 ((putL O u (t.kids.take k)).length+1) false,_,so2,tw2),⟨⟨by dsimp only;omega,.inr ⟨g.length+1,by dsimp only;rw[hs1,List.length_append];rfl,?_,?_⟩⟩,hso2,htw2⟩,by dsimp only;omega,rfl,by simp⟩
    all_goals dsimp only
    all_goals rw[hs1,List.flatMap_append,List.flatMap_cons,List.flatMap_nil,aI,List.append_nil]
    all_goals first
     |(rw[gV (by simp)];rfl)
     |(rw[List.length_append,hAl,List.length_append];simp;omega)
  ·have hki:decide ((k:Int)<((t.kids.length:Nat):Int))=false:=zf (by omega);obtain rfl:k=t.kids.length:=by omega
   rw[aS (bT _)]at hb hso htw;refine zh hki ?_;refine cO (fun(v:Nat×AV×List AObj×(Bool×Bool)×AV)=>(rp 11 .k (.j::.j::(rp 63 .k (.v (.i .i64 (v.1:Nat))::(rp 17 .j (rp 6 .k []))))))) (fun v=>(P2 s u v.2.2.2.1.1 v.2.2.2.1.2::.box false (tmC t)::.box false [.i .i64 0,.i .i64 0,.s [],.s [],.e0,.e0]::.box false [.i .i64 t.kind,.i .i64 t.n,.s t.text,.s t.sort,v.2.1,v.2.2.2.2]::v.2.2.1)) (fun v=>(v.1≤t.rest.length∧gD 6 4 v.2.2.1 v.2.1 ((putL O u t.kids++oD (putL O u (t.rest.take v.1))).flatMap aM) (putL O u t.kids++oD (putL O u (t.rest.take v.1))).length)∧v.2.2.2.1.1=(so1||putSL s u (t.rest.take v.1))∧v.2.2.2.1.2=(tw1||putWL W O u (t.rest.take v.1))∧v.2.2.2.2=(if(putL O u (t.rest.take v.1)).any (fun r => !decide (r.kind=6))=true then .e0 else .sl (t.rest.flatMap aM) t.rest.length)) (fun v=>t.rest.length-v.1) ((0,out,g,(so1,tw1),.sl (t.rest.flatMap aM) t.rest.length)) ⟨⟨aR _,by simpa[putL,oD]using hb⟩,by simp[putSL],by simp[putWL],by simp[putL]⟩ rfl (by simp[fO]) ?_;rintro⟨k,out2,g2,⟨so3,tw3⟩,rc⟩ j2 ⟨⟨hk2,hb4⟩,hso3,htw3,hrc⟩;dsimp only at hk2 hb4 hso3 htw3 hrc;by_cases hlt2:k<t.rest.length
   ·have hki2:decide ((k:Int)<((t.rest.length:Nat):Int))=true:=zt (by omega);refine zh (zA2 hki2 (zA2 @P2.eq_1 (zA2 @avu.eq_1 @cD.eq_1))) ?_;repeat refine aU (by omega) ?_
    have hmr:=cC (d:=default) hlt2;have cc:=hr _ hmr so3 tw3;have hs1:=aCr (O:=O) (u:=u) hlt2;have hs2:=S0 (s:=s) (u:=u) hlt2;have hs3:=R9 (W:=W) (O:=O) (u:=u) hlt2;have hb5:=aNg (O:=O) (u:=u) (l:=t.rest) (k:=k+1);have hll:=W7 O u t.kids;simp only[P2,avu,cD]at cc;refine jC (rF 0 g0 cc (S5 s u so3 tw3) (S5 s u _ _) (by rw[elT,pers,D0]) rfl (by simp only[elT,aI,avt,renL,ren,renL_pers _ _ eW,mY])) ?_;rintro r' h' ⟨rfl,rfl⟩;have hso4:(so3||aGl s u (t.rest.getD k default))=(so1||putSL s u (t.rest.take (k+1))):=by rw[hs2,hso3,lC]
    have htw4:(tw3||aGk W O u (t.rest.getD k default))=(tw1||putWL W O u (t.rest.take (k+1))):=by rw[hs3,htw3,lC]
    generalize aFr O u (t.rest.getD k default)=T at *
    generalize (so3||aGl s u (t.rest.getD k default))=so4 at *
    generalize (tw3||aGk W O u (t.rest.getD k default))=tw4 at *
    have hK:oD (putL O u (t.rest.take (k+1)))=oD (putL O u (t.rest.take k))++(if T.kind=6 then []else T.kids):=by
     rw[hs1,aCi];simp[oD]
    by_cases hT:T.kind=6
    ·rw[if_pos hT,List.append_nil]at hK;refine zh (zA2 @elT.eq_1 (zA2 @aI (zA2 @avt.eq_1 (zt hT)))) ?_;refine⟨(k+1,out2,_,(so4,tw4),rc),⟨⟨by dsimp only;omega,?_⟩,hso4,htw4,?_⟩,by dsimp only;omega,rfl,by simp⟩
     ·dsimp only;rw[hK];simpa using hb4.more _
     ·dsimp only;rw[hs1,List.any_append,hrc];simp[hT]
    ·rw[if_neg hT]at hK;refine zh (zA2 @elT.eq_1 (zA2 @aI (zA2 @avt.eq_1 (zf hT)))) ?_;have hb6:(oD (putL O u (t.rest.take k))).length+T.kids.length≤1000000:=by rw[hK,List.length_append]at hb5;omega
     refine eI (N:=4) (pre:=[.box false [.box (eP s) 0,.sl (u.flatMap prT) u.length,.b so4,.b tw4],.box false (tmC t),.box false [.i .i64 0,.i .i64 0,.s [],.s [],.e0,.e0],.box false [.i .i64 t.kind,.i .i64 t.n,.s t.text,.s t.sort,out2,rc]]) (g:=g2) (more:=[.box false (tmC ((t.rest.getD k default))),.box false (tmC T)]) (news:=T.kids.flatMap aM) (m:=T.kids.length) hb4 rfl ?_ bQt bNm bOk bUs rfl (by decide) ?_ ?_ ⟨by rw[List.length_append];omega,by rw[List.length_append];omega⟩ ?_
     ·simp only[aH,aJ,cK]
     ·exact zu
     ·exact zu
     intro out' g' ho' _;rw[← List.flatMap_append,cK,← hK,← List.length_append,cK,← hK]at ho';have ho2:=ho';rcases ho2 with⟨rfl,h2,h3⟩|⟨i1,rfl,hi1,hl1⟩
     ·refine zg ?_;exact⟨(k+1,.e0,g',(so4,tw4),.e0),⟨⟨by dsimp only;omega,by dsimp only;rw[← List.length_append];exact ho'⟩,hso4,htw4,by dsimp only;rw[hs1,List.any_append];simp[hT]⟩,by dsimp only;omega,rfl,by simp⟩
     ·refine zg ?_;exact⟨(k+1,.hs (i1+4) 0 ((putL O u t.kids).length+(oD (putL O u (t.rest.take (k+1)))).length) false,g',(so4,tw4),.e0),⟨⟨by dsimp only;omega,by dsimp only;rw[← List.length_append];exact ho'⟩,hso4,htw4,by dsimp only;rw[hs1,List.any_append];simp[hT]⟩,by dsimp only;omega,rfl,by simp⟩
   ·have hki2:decide ((k:Int)<((t.rest.length:Nat):Int))=false:=zf (by omega);obtain rfl:k=t.rest.length:=by omega
    rw[aS (bT _)]at hb4 hso3 htw3 hrc;refine zh (zA2 hki2 (zf h8)) ?_;rw[bPb h6 h8,bPc h6,bPa h6 h8,← lC,← lC,← hso,← htw,← hso3,← htw3];refine aYy hb4 ?_;rw[hrc];split
    ·exact .inr ⟨rfl,rfl⟩
    ·exact .inl rfl
def bNf(W:List LTerm→Bool)(O:List LTerm→List LTerm)(s:dF)(t:LTerm)(u:LSub):LTerm×Int:=
 if aUa s t=true∧(fM s&&nV s u)=true then(if aGl s u t=true then(zT,16)else if aGk W O u t=true then(zT,14)else if iQ dQ (aFr O u t)=true then(aFr O u t,0)else(zT,3))else(zT,2)
theorem aEf{h:List AObj}{o:Int}:Vo.Fin h (.tup [.agg [.i .i64 0,.i .i64 0,.s [],.s [],.e0,.e0],.i .i64 o]) (.tup [elT zT,.i .i64 o]):=.inr ⟨⟨⟨rfl,rfl,rfl,rfl,rfl,rfl,trivial⟩,rfl,trivial⟩,eM,fun i hi=>by cases hi⟩
theorem bQk{h:List AObj}{t:LTerm}{o:Int}:Vo.Fin h (.tup [.agg (tmC t),.i .i64 o]) (.tup [elT t,.i .i64 o]):=.inl ⟨by rw[elT,aI];rfl,by simp[pers,persL,eW]⟩
theorem bRt(W:List LTerm→Bool)(O:List LTerm→List LTerm)(s:dF)(t:LTerm)(u:LSub)(hm:Small s)(hs:OkS s)(ht:OkT t)(hu:OkU 1000000 u)(hn:∀q∈u,q.1.length≤140737488355328)(hP:aUa s t=true→nV s u=true→bNl W O s u t)(hO:OkT (aFr O u t)): CT 22 [.agg (bX s),elT t,avu u] (.tup [elT (bNf W O s t u).1,.i .i64 (bNf W O s t u).2]):=by
 refine cW cI Tryz.func22 g0 ?_
 ·generalize hR:((.tup [elT (bNf W O s t u).1,.i .i64 (bNf W O s t u).2]):AV)=R;simp -implicitDefEqProofs (disch:=omega) only[Tryz.f22,go_sem,List.replicate,simprocAttr,elT,aI,avu];have c1:=bSp s t hm hs ht;have c2:=bRu s u hm hs hu hn;simp only[avu]at c2;rw[bNf]at hR;by_cases h1:aUa s t=true
  ·rw[h1]at c1
   by_cases h2:(fM s&&nV s u)=true
   ·rw[h2]at c2
    rw[if_pos ⟨h1,h2⟩]at hR;have hv:fM s=true:=by rw[aB]at h2;exact h2.1
    have c3:=aEr s hm (jF hv);have cP:=hP h1 (by rw[aB]at h2;exact h2.2) false false;have c4:=aLg _ hO;have c5:=bGg _ hO;generalize aFr O u t=T at *
    rw[cV,cV]at cP;simp only[P2,avu,cD]at cP;(repeat'(first|refine gT ?_ ?_|refine gF ?_ ?_|refine gC ?_ ?_|((first|(refine bM (c1) ?_ ?_;(focus(simp -implicitDefEqProofs (disch:=omega) only[Bool.not_true,zdB,go_sem,simprocAttr];done)))|(refine bM (c2) ?_ ?_;(focus(simp -implicitDefEqProofs (disch:=omega) only[Bool.not_true,zdB,go_sem,simprocAttr];done)))|(refine bM (c3) ?_ ?_;(focus(simp -implicitDefEqProofs (disch:=omega) only[Bool.not_true,zdB,go_sem,simprocAttr];done))));simp -implicitDefEqProofs (disch:=omega) only[Bool.not_true,go_sem,simprocAttr])|refine aU (by omega) ?_|(intro hr;have hc:=hr;(try simp only[zdz]at hc);simp -implicitDefEqProofs (disch:=omega) only[hr,Bool.not_true,go_sem,simprocAttr];(try clear hr))));refine jC (rF 3 g0 cP (S5 s u _ _) (S5 s u _ _) (by rw[elT,pers,D0]) rfl (by simp only[elT,aI,avt,renL,ren,renL_pers _ _ eW,mY])) ?_;rintro r' h' ⟨rfl,rfl⟩;by_cases hS:aGl s u t=true
    ·rw[if_pos hS]at hR;refine zh (zA2 hS (zA2 @elT.eq_1 (zA2 @aI @avt.eq_1))) ?_;subst hR;exact aEf
    ·rw[if_neg hS]at hR
     by_cases hW:aGk W O u t=true
     ·rw[if_pos hW]at hR;refine zh (zA2 (cT.2 hS) (zA2 hW (zA2 @elT.eq_1 (zA2 @aI @avt.eq_1)))) ?_;subst hR;exact aEf
     ·rw[if_neg hW]at hR;by_cases hV:iQ dQ T=true
      ·rw[if_pos hV]at hR;rw[hV]at c4;refine zh (zA2 (cT.2 hS) (zA2 (cT.2 hW) (zA2 @elT.eq_1 (zA2 @aI @avt.eq_1)))) ?_;(repeat'(first|refine gT ?_ ?_|refine gF ?_ ?_|refine gC ?_ ?_|((first|(refine bM (c4) ?_ ?_;(focus(simp -implicitDefEqProofs (disch:=omega) only[Bool.not_true,zdB,go_sem,simprocAttr];done)))|(refine bM (c5) ?_ ?_;(focus(simp -implicitDefEqProofs (disch:=omega) only[Bool.not_true,zdB,go_sem,simprocAttr];done))));simp -implicitDefEqProofs (disch:=omega) only[Bool.not_true,go_sem,simprocAttr])|refine aU (by omega) ?_|(intro hr;have hc:=hr;(try simp only[zdz]at hc);simp -implicitDefEqProofs (disch:=omega) only[hr,Bool.not_true,go_sem,simprocAttr];(try clear hr))));subst hR;exact bQk
      ·rw[if_neg hV]at hR;rw[cT.2 hV]at c4;refine zh (zA2 (cT.2 hS) (zA2 (cT.2 hW) (zA2 @elT.eq_1 (zA2 @aI @avt.eq_1)))) ?_;(repeat'(first|refine gT ?_ ?_|refine gF ?_ ?_|refine gC ?_ ?_|((refine bM (c4) ?_ ?_;(focus(simp -implicitDefEqProofs (disch:=omega) only[Bool.not_false,zdB,go_sem,simprocAttr];done)));simp -implicitDefEqProofs (disch:=omega) only[Bool.not_false,go_sem,simprocAttr])|refine aU (by omega) ?_|(intro hr;have hc:=hr;(try simp only[zdz]at hc);simp -implicitDefEqProofs (disch:=omega) only[hr,Bool.not_false,go_sem,simprocAttr];(try clear hr))));subst hR;exact aEf
   ·rw[cT.2 h2]at c2;rw[if_neg (fun h=>h2 h.2)]at hR;(repeat'(first|refine gT ?_ ?_|refine gF ?_ ?_|refine gC ?_ ?_|((first|(refine bM (c1) ?_ ?_;(focus(simp -implicitDefEqProofs (disch:=omega) only[Bool.not_true,Bool.not_false,zdB,go_sem,simprocAttr];done)))|(refine bM (c2) ?_ ?_;(focus(simp -implicitDefEqProofs (disch:=omega) only[Bool.not_true,Bool.not_false,zdB,go_sem,simprocAttr];done))));simp -implicitDefEqProofs (disch:=omega) only[Bool.not_true,Bool.not_false,go_sem,simprocAttr])|refine aU (by omega) ?_|(intro hr;have hc:=hr;(try simp only[zdz]at hc);simp -implicitDefEqProofs (disch:=omega) only[hr,Bool.not_true,Bool.not_false,go_sem,simprocAttr];(try clear hr))));subst hR;exact aEf
  ·rw[cT.2 h1]at c1;rw[if_neg (fun h=>h1 h.1)]at hR;(repeat'(first|refine gT ?_ ?_|refine gF ?_ ?_|refine gC ?_ ?_|((refine bM (c1) ?_ ?_;(focus(simp -implicitDefEqProofs (disch:=omega) only[Bool.not_false,zdB,go_sem,simprocAttr];done)));simp -implicitDefEqProofs (disch:=omega) only[Bool.not_false,go_sem,simprocAttr])|refine aU (by omega) ?_|(intro hr;have hc:=hr;(try simp only[zdz]at hc);simp -implicitDefEqProofs (disch:=omega) only[hr,Bool.not_false,go_sem,simprocAttr];(try clear hr))));subst hR;exact aEf
def wS:dF:=⟨[],[],[],[],[]⟩
def bHe:Str:=[73,110,116]
def wX:Str:=[88]
def wL:Str:=[76]
def wZ:Str:=[90]
def tN(n:Int):LTerm:=.mk 1 n [] [] [] []
def tV(x so:Str):LTerm:=.mk 6 0 x so [] []
def tI(x:Str):LTerm:=.mk 4 0 x [] [] []
def tL(ks rs:List LTerm):LTerm:=.mk 7 0 [] [] ks rs
def aBp:Str:=[76,105,115,116]
def wT1:LTerm:=tL [tN 1,tN 2] []
def wp1:LTerm:=tL [tV wX bHe] [tV wL aBp]
def wm:LTerm:=.mk 8 0 [] [] [tI [97],tN 1,tI [98],tN 2] []
def wp2:LTerm:=.mk 8 0 [] [] [tV [75] [73,100],tV [86] bHe] [tV [77] [77,97,112]]
def wp3:LTerm:=tL [tV wX bHe,tV wX bHe] []
def wpd:LTerm:=tV [36] [65,110,121]
def wq1:LTerm:=tL [] [tV wL aBp]
def wq2:LTerm:=tL [tV wX bHe] []
def wu:LSub:=[(wL,tL [tN 2] []),(wX,tN 1)]
def wb:LSub:=[(wL,tL [tN 2] []),(wX,tN 1),(wZ,tN 3)]
def wk:List LSub:=(kU wS wp2 wm []).1
theorem okw{k n:Int}{x so:Str}{ks rs:List LTerm}(hx:x.length≤100)(hs:so.length≤100)(hn:0≤n∧n≤100)(hk:ks.length≤100)(hr:rs.length≤100)(h:∀t∈ks,OkT t)(h2:∀t∈rs,OkT t):OkT (.mk k n x so ks rs):=
 .mk (by simp only[LTerm.text];omega) (by simp only[LTerm.sort];omega) (by simp only[LTerm.n];omega) (by simp only[LTerm.n];omega) (by simp only[LTerm.kids];omega) (by simp only[LTerm.rest];omega) (by simpa[LTerm.kids]using h) (by simpa[LTerm.rest]using h2)
theorem okn:∀t∈([]:List LTerm),OkT t:=fun t h=>by cases h
theorem okc{a:LTerm}{l:List LTerm}(ha:OkT a)(h:∀t∈l,OkT t):∀t∈a::l,OkT t:=fun t ht=>by
 rcases dD.1 ht with rfl|ht
 ·exact ha
 ·exact h t ht
theorem okN{n:Int}(h:0≤n∧n≤100):OkT (tN n):=okw (by decide) (by decide) h (by decide) (by decide) okn okn
theorem okV{x so:Str}(hx:x.length≤100)(hs:so.length≤100):OkT (tV x so):=okw hx hs (by decide) (by decide) (by decide) okn okn
theorem okI{x:Str}(hx:x.length≤100):OkT (tI x):=okw hx (by decide) (by decide) (by decide) (by decide) okn okn
theorem bPq:OkT wT1:=okw (by decide) (by decide) (by decide) (by decide) (by decide) (okc (okN (by decide)) (okc (okN (by decide)) okn)) okn
theorem cAr:OkT wp1:=okw (by decide) (by decide) (by decide) (by decide) (by decide) (okc (okV (by decide) (by decide)) okn) (okc (okV (by decide) (by decide)) okn)
theorem cEo:OkT wm:=okw (by decide) (by decide) (by decide) (by decide) (by decide) (okc (okI (by decide)) (okc (okN (by decide)) (okc (okI (by decide)) (okc (okN (by decide)) okn)))) okn
theorem cAq:OkT wp2:=okw (by decide) (by decide) (by decide) (by decide) (by decide) (okc (okV (by decide) (by decide)) (okc (okV (by decide) (by decide)) okn)) (okc (okV (by decide) (by decide)) okn)
theorem cEn:OkT wp3:=okw (by decide) (by decide) (by decide) (by decide) (by decide) (okc (okV (by decide) (by decide)) (okc (okV (by decide) (by decide)) okn)) okn
theorem cEm:OkT wpd:=okV (by decide) (by decide)
theorem cEl:OkT wq1:=okw (by decide) (by decide) (by decide) (by decide) (by decide) okn (okc (okV (by decide) (by decide)) okn)
theorem cAp:OkT wq2:=okw (by decide) (by decide) (by decide) (by decide) (by decide) (okc (okV (by decide) (by decide)) okn) okn
theorem cAs:OkT (tL [tN 2] []):=okw (by decide) (by decide) (by decide) (by decide) (by decide) (okc (okN (by decide)) okn) okn
theorem smW:Small wS:=⟨by decide,by decide,by decide,by decide,by decide⟩
theorem aSj:OkS wS:=⟨by decide,by simp[wS],by decide,by simp[wS],by decide,by simp[wS],by decide,by simp[wS],by decide,by decide,by decide,by simp[wS]⟩
theorem bJm{m:Nat}:OkU m []:=⟨aR _,fun p h=>by cases h⟩
theorem bPp{m:Nat}{x:Str}{t:LTerm}{u:LSub}(ht:OkT t)(h:OkU m u):OkU (m+1) ((x,t)::u):=⟨by have:=h.1;simp;omega,fun p hp=>by
 rcases dD.1 hp with rfl|hp
 ·exact ht
 ·exact h.2 p hp⟩
theorem cAo:OkU 100000 wu:=bPp cAs (bPp (okN (by decide)) bJm)
theorem cEk:OkU 100000 wb:=bPp cAs (bPp (okN (by decide)) (bPp (okN (by decide)) bJm))
theorem nm0:∀q∈([]:LSub),q.1.length≤140737488355328:=fun q h=>by cases h
theorem nmc{x:Str}{t:LTerm}{u:LSub}(hx:x.length≤100)(h:∀q∈u,q.1.length≤140737488355328):∀q∈(x,t)::u,q.1.length≤140737488355328:=fun q hq=>by
 rcases dD.1 hq with rfl|hq
 ·show x.length≤_;omega
 ·exact h q hq
theorem nmu:∀q∈wu,q.1.length≤140737488355328:=nmc (by decide) (nmc (by decide) nm0)
theorem nmb:∀q∈wb,q.1.length≤140737488355328:=nmc (by decide) (nmc (by decide) (nmc (by decide) nm0))
def W0:List LTerm→Bool:=fun _=>false
theorem bZz:AscU wu:=Q9 (s:=wS) (by kernel_rfl)
theorem bIx:bNl W0 id wS wu (tV wX bHe):=fun so tw=>jI g0 (cAm W0 id wS wu (tV wX bHe) so tw smW bZz (by decide) rfl) (by rw[elT,pers,D0]) (by simp[AObj.persO,persL,pers,qS,avu,jG]) (bT _)
theorem bXb:bNl W0 id wS wu (tV wL aBp):=fun so tw=>jI g0 (cAm W0 id wS wu (tV wL aBp) so tw smW bZz (by decide) rfl) (by rw[elT,pers,D0]) (by simp[AObj.persO,persL,pers,qS,avu,jG]) (bT _)
theorem cDz:bNl W0 id wS wu wp1:=fun so tw=>jI g0 (cEa W0 id wS wu wp1 so tw smW (fun k hk=>by rw[bJ.1 hk];exact bIx) (fun k hk=>by rw[bJ.1 hk];exact bXb) (by decide) (by decide) (by decide) (by decide) (by decide +kernel)) (by rw[elT,pers,D0]) (by simp[AObj.persO,persL,pers,qS,avu,jG]) (bT _)
theorem bXa:aFr id wu wp1=wT1:=by decide +kernel
def bEt:List (FuncId×List AV×AV):=[
 (12,[.agg (bX wS),elT wp1,elT wT1,.sl [] 0],.tup [avw [wu],.i .i64 0]),
 (12,[.agg (bX wS),elT wp2,elT wm,.sl [] 0],.tup [avw wk,.i .i64 0]),
 (12,[.agg (bX wS),elT wp3,elT wT1,.sl [] 0],.tup [avw [],.i .i64 0]),
 (12,[.agg (bX wS),elT wpd,elT (tN 1),.sl [] 0],.tup [avw [],.i .i64 2]),
 (12,[.agg (bX wS),elT (tN 1),elT (tN 2),.sl [] 0],.tup [avw [],.i .i64 0]),
 (22,[.agg (bX wS),elT wp1,avu wu],.tup [elT wT1,.i .i64 0]),
 (45,[.agg (bX wS)],cD wS),
 (44,[.agg (bX wS)],.b true),
 (70,[avu wu,.s wZ,elT (tN 3)],avu wb),
 (134,[.agg [cD wS],.mapv [] [],elT (tV wL aBp),elT wq2,.fn 76 [] []],.b true),
 (67,[.agg (bX wS),elT (tN 3)],.b true),
 (24,[elT wT1,elT wT1],.b true),
 (48,[cD wS,avu wu],.b true),
 (48,[cD wS,avu wb],.b true),
 (20,[.agg (bX wS),elT wp2],.b true),
 (20,[.agg (bX wS),elT wq1],.b true),
 (20,[.agg (bX wS),elT wq2],.b true)]
theorem oX{f:FuncId}{a:List AV}{r r':AV}(h:CT f a r)(e:r=r'):CT f a r':=e▸h
theorem km1:CT 12 [.agg (bX wS),elT wp1,elT wT1,.sl [] 0] (.tup [avw [wu],.i .i64 0]):=oX (M3 wS wp1 wT1 [] smW aSj cAr bPq bJm nm0 (by decide) (by decide)) (by rw[show kU wS wp1 wT1 []=([wu],0) by kernel_rfl])
theorem km2:CT 12 [.agg (bX wS),elT wp2,elT wm,.sl [] 0] (.tup [avw wk,.i .i64 0]):=oX (M3 wS wp2 wm [] smW aSj cAq cEo bJm nm0 (by decide) (by decide)) (by rw[show(kU wS wp2 wm []).2=0 by kernel_rfl];rfl)
theorem km3:CT 12 [.agg (bX wS),elT wp3,elT wT1,.sl [] 0] (.tup [avw [],.i .i64 0]):=oX (M3 wS wp3 wT1 [] smW aSj cEn bPq bJm nm0 (by decide) (by decide)) (by rw[show kU wS wp3 wT1 []=([],0) by kernel_rfl])
theorem km4:CT 12 [.agg (bX wS),elT wpd,elT (tN 1),.sl [] 0] (.tup [avw [],.i .i64 2]):=oX (M3 wS wpd (tN 1) [] smW aSj cEm (okN (by decide)) bJm nm0 (by decide) (by decide)) (by rw[show kU wS wpd (tN 1) []=([],2) by kernel_rfl])
theorem km5:CT 12 [.agg (bX wS),elT (tN 1),elT (tN 2),.sl [] 0] (.tup [avw [],.i .i64 0]):=oX (M3 wS (tN 1) (tN 2) [] smW aSj (okN (by decide)) (okN (by decide)) bJm nm0 (by decide) (by decide)) (by rw[show kU wS (tN 1) (tN 2) []=([],0) by kernel_rfl])
theorem km6:CT 22 [.agg (bX wS),elT wp1,avu wu] (.tup [elT wT1,.i .i64 0]):=oX (bRt W0 id wS wp1 wu smW aSj cAr (cAo.mono (by omega)) nmu (fun _ _=>cDz) (bXa▸bPq)) (by rw[show bNf W0 id wS wp1 wu=(wT1,0) by kernel_rfl])
theorem hvW:fM wS=true:=by kernel_rfl
theorem km7:CT 45 [.agg (bX wS)] (cD wS):=aEr wS smW (jF hvW)
theorem km8:CT 44 [.agg (bX wS)] (.b true):=hvW▸aOg wS smW aSj
theorem km9:CT 70 [avu wu,.s wZ,elT (tN 3)] (avu wb):=oX (bFo wu wZ (tN 3) bZz (by kernel_rfl) (by decide)) (by rw[show Y1 wu wZ (tN 3)=wb by kernel_rfl])
theorem cEy:CT 134 [.agg [cD wS],.mapv [] [],elT (tV wL aBp),elT wq2,.fn 76 [] []] (.b true):=oX (bRl wS [] (tV wL aBp) wq2 76 [] [] (fun _=>true) smW (fun x h=>by cases h) (okV (by decide) (by decide)) cAp rfl rfl fun v _=>bRp v) (by rw[show cAn (bNx wS [] (tV wL aBp) wq2) (fun _=>true)=true by kernel_rfl])
theorem cEx:CT 67 [.agg (bX wS),elT (tN 3)] (.b true):=oX (bSo wS (tN 3) smW aSj (okN (by decide))) (by rw[show(fM wS&&fN wS (tN 3))=true by kernel_rfl])
theorem cEw:CT 24 [elT wT1,elT wT1] (.b true):=oX (U6 wT1 wT1 bPq bPq) (by rw[show decide (wT1=wT1)=true from zt rfl])
theorem cEv:CT 48 [cD wS,avu wu] (.b true):=oX (aLa wS wu smW (cAo.mono (by omega)) nmu) (by rw[show nV wS wu=true by kernel_rfl])
theorem cEu:CT 48 [cD wS,avu wb] (.b true):=oX (aLa wS wb smW (cEk.mono (by omega)) nmb) (by rw[show nV wS wb=true by kernel_rfl])
theorem cEt:CT 20 [.agg (bX wS),elT wp2] (.b true):=oX (aUz wS wp2 smW aSj cAq) (by rw[show aJl wS wp2=true by kernel_rfl])
theorem cEs:CT 20 [.agg (bX wS),elT wq1] (.b true):=oX (aUz wS wq1 smW aSj cEl) (by rw[show aJl wS wq1=true by kernel_rfl])
theorem cEr:CT 20 [.agg (bX wS),elT wq2] (.b true):=oX (aUz wS wq2 smW aSj cAp) (by rw[show aJl wS wq2=true by kernel_rfl])
theorem aTf:aXh Tryz.prog G0 (bWp bEt):=bHq fun e he=>by
 simp only[bEt,dD,List.not_mem_nil,or_false]at he;rcases he with rfl|rfl|rfl|rfl|rfl|rfl|rfl|rfl|rfl|rfl|rfl|rfl|rfl|rfl|rfl|rfl|rfl;all_goals dsimp only
 all_goals first|exact km1|exact km2|exact km3|exact km4|exact km5|exact km6|exact km7|exact km8|exact km9|exact cEy|exact cEx|exact cEw|exact cEv|exact cEu|exact cEt|exact cEs|exact cEr
def bXr:FuncId→How:=fun f=>if f=75 then⟨true,true,fun i=>if i=10 then some ⟨none,[0],true,false,false,[],[41],0⟩else none⟩
 else if f=31 then⟨false,true,fun i=>if i=5 then some ⟨none,[3],false,false,false,[],[27],0⟩else none⟩else⟨false,true,fun _=>none⟩
theorem aYn:[11,15,18,25,27,31,40,41,42,43,51,60,66,68,69,74,75,122,126,127,128,136,137,138,197,198,199,248].all (fun f=>bNj Tryz.prog (bXr f).rx (bXr f).th f)=true:=by kernel_rfl
theorem bRx:CT 11 [] (.b true):=bId cI g0 aTf bXr (bPr aYn) 300 (by kernel_rfl)
def uG(p t:LTerm)(u:LSub):List AV:=aM p++(aM t++[avu u])
theorem aDj{s:dF}{p t:LTerm}{u:LSub}(ot:OkT t)(hu:OkU 100000 u)(hnp:nodesT p≤100000):tD 1000000 (kU s p t u).1∧(kU s p t u).1.length≤1000:=by
 rw[kU];split
 ·rename_i h;split
  ·exact⟨fun u hu=>(by cases hu),aR _⟩
  ·have otn:OkN t:=⟨ot,pN (by have:=h.2.1;rw[fN,aB]at this;exact this.1)⟩;obtain⟨h1,h2⟩:=mQ (s:=s) (nodesT p) p t [u] false 100000 otn (fun x hx=>by rw[bJ.1 hx];exact hu) (by simp);exact⟨h1.mono (by omega),h2⟩
 ·exact⟨fun u hu=>(by cases hu),aR _⟩
theorem aUb{s:dF}{p t:LTerm}{u:LSub}(ot:OkT t)(hu:OkU 100000 u)(hnp:nodesT p≤100000):OkU 1000000 (yE s p t u).1:=by
 have h:=(aDj (s:=s) (p:=p) ot hu hnp).1;rw[yE];split
 ·split
  ·exact⟨aR _,fun q hq=>by cases hq⟩
  ·rename_i x l e;exact h _ (by rw[e];exact List.mem_cons_self)
 ·exact⟨aR _,fun q hq=>by cases hq⟩
structure cAg(s:dF)(u:LSub)(l:List LTerm):Prop where
 sm:Small s
 ul:u.length≤100
 un:∀q∈u,nodesT q.2≤1500
 ln:nodesL l≤1500
theorem bLi{s:dF}{u:LSub}{l:List LTerm}(h:bQo s u l=true):cAg s u l:=by
 rw[bQo,bVx,aB,aB,aB,decide_eq_true_eq]at h;obtain⟨⟨h1,h2,h3⟩,h4⟩:=h;exact⟨aUh h1,h2,fun q hq=>bBd h3 (dP.2 ⟨q,hq,rfl⟩),aEj h4⟩
theorem bXf{a b:LTerm}(ha:OkT a)(hb:OkT b):∀t ∈ [a,b],OkT t:=okc ha (okc hb okn)
theorem bSa(s:dF)(p t:LTerm)(u:LSub)(hs:OkS s)(op:OkT p)(ot:OkT t)(hul:u.length≤1466015503701)(hu:∀q∈u,OkT q.2)(hn:∀q∈u,q.1.length≤140737488355328): CT 3 [.agg (bX s),.agg (uG p t u)] (.b true):=by
 refine cW cI Tryz.func3 g0 ?_
 ·simp -implicitDefEqProofs (disch:=omega) only[Tryz.f3,go_sem,List.replicate,simprocAttr,uG,avu,aI,aH,aJ,bOr,dV,eO,List.append_nil];have c1:=bRy s u [p,t] hs hul hu (by simp) (bXf op ot);have ca:=bRx;simp only[avt,avu,List.flatMap_cons,List.flatMap_nil,List.append_nil,aI,aH,aJ,bB,cH]at c1;rcases kC (bQo s u [p,t])with h1|h1
  ·rw[h1]at c1;have F:=bLi h1;have hok:OkU 100000 u:=⟨by have:=F.ul;omega,hu⟩;have hnp:nodesT p≤100000:=by have:=(lU (l:=[p,t]) (k:=p) (by simp)).1;have:=F.ln;omega
   have hnt:nodesT t≤100000:=by have:=(lU (l:=[p,t]) (k:=t) (by simp)).1;have:=F.ln;omega
   have c2:=M3 s p t u F.sm hs op ot hok hn hnp hnt;have c3:=bFu s p t u F.sm hs op ot hok hn hnp hnt;have c4:=bRv s p t u F.sm hs op ot hok hn hnp hnt;have c5:=bSl s p t u F.sm hs op ot hok hn hnp hnt;have M:=aDj (s:=s) (p:=p) ot hok hnp;have N:=aUb (s:=s) (p:=p) ot hok hnp;generalize kU s p t u=m at *
   generalize yE s p t u=f at *
   have c6:=bRw m.1 m.1 M.1 M.1 (by have:=M.2;omega) (by have:=M.2;omega);have c7:=bFp f.1 f.1 N N;rw[zt rfl]at c6 c7;simp only[avw,avu,elT,aI,avt]at c2 c3 c4 c5 c6 c7;(repeat'(first|refine gT ?_ ?_|refine gF ?_ ?_|refine gC ?_ ?_|((first|(refine bM (c1) ?_ ?_;(focus(simp -implicitDefEqProofs (disch:=omega) only[Bool.not_true,zdB,go_sem,simprocAttr];done)))|(refine bM (c2) ?_ ?_;(focus(simp -implicitDefEqProofs (disch:=omega) only[Bool.not_true,zdB,go_sem,simprocAttr];done)))|(refine bM (c3) ?_ ?_;(focus(simp -implicitDefEqProofs (disch:=omega) only[Bool.not_true,zdB,go_sem,simprocAttr];done)))|(refine bM (c6) ?_ ?_;(focus(simp -implicitDefEqProofs (disch:=omega) only[Bool.not_true,zdB,go_sem,simprocAttr];done)))|(refine bM (c4) ?_ ?_;(focus(simp -implicitDefEqProofs (disch:=omega) only[Bool.not_true,zdB,go_sem,simprocAttr];done)))|(refine bM (c5) ?_ ?_;(focus(simp -implicitDefEqProofs (disch:=omega) only[Bool.not_true,zdB,go_sem,simprocAttr];done)))|(refine bM (c7) ?_ ?_;(focus(simp -implicitDefEqProofs (disch:=omega) only[Bool.not_true,zdB,go_sem,simprocAttr];done)))|(refine bM (ca) ?_ ?_;(focus(simp -implicitDefEqProofs (disch:=omega) only[Bool.not_true,zdB,go_sem,simprocAttr];done))));simp -implicitDefEqProofs (disch:=omega) only[Bool.not_true,go_sem,simprocAttr])|refine aU (by omega) ?_|(intro hr;have hc:=hr;(try simp only[zdz]at hc);simp -implicitDefEqProofs (disch:=omega) only[hr,Bool.not_true,go_sem,simprocAttr];(try clear hr))));all_goals exact aV rfl rfl
  ·rw[h1]at c1;(repeat'(first|refine gT ?_ ?_|refine gF ?_ ?_|refine gC ?_ ?_|((first|(refine bM (c1) ?_ ?_;(focus(simp -implicitDefEqProofs (disch:=omega) only[Bool.not_false,zdB,go_sem,simprocAttr];done)))|(refine bM (ca) ?_ ?_;(focus(simp -implicitDefEqProofs (disch:=omega) only[Bool.not_false,zdB,go_sem,simprocAttr];done))));simp -implicitDefEqProofs (disch:=omega) only[Bool.not_false,go_sem,simprocAttr])|refine aU (by omega) ?_|(intro hr;have hc:=hr;(try simp only[zdz]at hc);simp -implicitDefEqProofs (disch:=omega) only[hr,Bool.not_false,go_sem,simprocAttr];(try clear hr))));all_goals exact aV rfl rfl
end Go.Proofs.YtdjcggcjlphdoaaGreatDoor
