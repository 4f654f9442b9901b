/-
  Functions of the chapter, as plain functions of what they are given; no condition.
-/
import Derived.Test.YtdjcggcjlphdoaaGreatDoorVaP15
import Derived.Test.YtdjcggcjlphdoaaGreatDoorTeP13
import Derived.Test.YtdjcggcjlphdoaaGreatDoorTeP12
import Derived.Test.YtdjcggcjlphdoaaGreatDoorVcP12
set_option maxRecDepth 100000
set_option linter.unusedSimpArgs false
set_option linter.unusedVariables false
set_option maxHeartbeats 4000000
namespace Go.Proofs.YtdjcggcjlphdoaaGreatDoor
open Go Go.Vo
open Nat (reduceAdd reduceSub reduceMul reduceLeDiff reduceLT reduceEqDiff)
open Int (reduceNeg)
def AscU(u:LSub):Prop:=u.Pairwise fun p q=>p.1<q.1
def pG(u:LSub)(x:Str):Nat:=(u.takeWhile fun p=>decide (p.1<x)).length
theorem aEy{x:Str}:∀{u:LSub} {k:Nat},k≤u.length→(∀j,j<k→(u.getD j default).1<x)→(k<u.length→¬(u.getD k default).1<x)→pG u x=k
 | [],k,hk,_,_=>by simp at hk;simp[pG,hk]
 |p::u,0,_,_,h2=>by
  have:=h2 (by simp);rw[pG,jL,zf (by simpa using this)];rfl
 |p::u,k+1,hk,h1,h2=>by
  have h0:=h1 0 (by omega);rw[pG,jL,zt (by simpa using h0)];have:=aEy (u:=u) (k:=k) (by simpa using hk) (fun j hj=>by simpa using h1 (j+1) (by omega)) (fun h=>by simpa using h2 (by simpa using h));rw[pG]at this;simp[this]
theorem aKb{u:LSub}(h:AscU u){i j:Nat}(hij:i<j)(hj:j<u.length):(u.getD i default).1<(u.getD j default).1:=by
 have:=dQ.1 h i j (by omega) hj hij;simpa[List.getD,hj,show i<u.length by omega]using this
theorem aWc{u:LSub}{x:Str}:pG u x≤u.length:=by rw[pG];exact(List.takeWhile_sublist _).length_le
theorem aVz{u:LSub}{x:Str}(h:AscU u):mOf u x=if pG u x<u.length∧(u.getD (pG u x) default).1=x then some (u.getD (pG u x) default).2 else none:=by
 induction u with
 |nil=>rfl
 |cons p u ih=>
  have h2:=(gH.1 h).1;have ih:=ih (gH.1 h).2;rw[mOf,nY];by_cases hp:p.1<x
  ·have hne:¬p.1=x:=fun e=>by rw[e]at hp;exact lO x hp
   have e:pG (p::u) x=pG u x+1:=by rw[pG,jL,zt hp];rfl
   rw[zf hne,e];rw[mOf]at ih;simp only[aQ,Nat.add_lt_add_iff_right,dE];exact ih
  ·have e:pG (p::u) x=0:=by rw[pG,jL,zf hp];rfl
   rw[e];by_cases he:p.1=x
   ·rw[zt he];simp[he]
   ·rw[zf he];have hn:∀q∈u,¬q.1=x:=fun q hq e=>hp (by rw[← e];exact h2 q hq);have:u.find? (fun p=>decide (p.1=x))=none:=J0.2 fun q hq=>by simpa using hn q hq
    rw[this];simp[he]
theorem cCc{x:Int}(h1:0≤x)(h2:x≤9223372036854775807):IntKind.u64.wrap x=x:=by
 simp only[IntKind.wrap,IntKind.signed,IntKind.bits];simp;omega
theorem bKh(p:LPr)(x:Str): CT 198 [.agg (prT p),.s x] (.i .i64 (tP p.1 x)):=by
 refine eG cZ Tryz.func198 g0 ?_
 ·simp -implicitDefEqProofs (disch:=omega) only[Tryz.f198,go_sem,List.replicate,simprocAttr,prT,aW];(refine zy1 (zA2 @prT.eq_1 @aW) (aYs p.1 x) ?_;repeat' first|exact trivial|refine zJ ?_ ?_|refine zH fun hc=>?_);all_goals exact bV rfl rfl
theorem aJq{a b:Str}:decide (tP a b<0)=decide (a<b):=by rw[fA];simp only[decide_eq_true_eq];exact I2
theorem bQz{a b:Str}:decide (tP a b=0)=decide (a=b):=by rw[fA];simp only[decide_eq_true_eq];exact uR
def aSb(u:LSub)(x:Str):Bool:=decide (pG u x<u.length)&&decide ((u.getD (pG u x) default).1=x)
theorem bXf(u:LSub)(x:Str)(ha:AscU u)(hl:u.length≤1000000000): CT 197 [avu u,.s x,.fn 198 [] []] (.tup [.i .i64 (pG u x:Nat),.b (aSb u x)]):=by
 refine eG cZ Tryz.func197 g0 ?_
 ·generalize hR:((.tup [.i .i64 (pG u x:Nat),.b (aSb u x)]):AV)=R;simp -implicitDefEqProofs (disch:=omega) only[Tryz.f197,go_sem,List.replicate,simprocAttr,avu];refine dF (fun(q:Nat×Nat)=>(rp 9 .k (.v (.i .i64 (q.1:Nat))::.v (.i .i64 (q.2:Nat))::.j::.k::.k::.k::(rp 20 .j (rp 14 .k []))))) (fun q=>[]) (fun q=>q.1≤q.2∧q.2≤u.length∧(∀j,j<q.1→(u.getD j default).1<x)∧(q.2<u.length→¬(u.getD q.2 default).1<x)) (fun q=>q.2-q.1) ((0,u.length)) ⟨bJ _,bK _,fun j h=>by omega,fun h=>by omega⟩ rfl (by simp[hZ]) ?_;rintro⟨lo,hi⟩ j ⟨h1,h2,h3,h4⟩;dsimp only at h1 h2 h3 h4;by_cases hlt:lo<hi
  ·have hki:(lo:Int)<((hi:Nat):Int):=by omega
   have w1:IntKind.i64.wrap ((lo:Int)+(hi:Int))=(((lo+hi:Nat)):Int):=by rw[wrap64 (by omega) (by omega)];omega
   have w2:IntKind.u64.wrap (((lo+hi:Nat)):Int)=(((lo+hi:Nat)):Int):=cCc (by omega) (by omega);have w3:(((lo+hi:Nat)):Int) / 2=(((lo+hi) / 2:Nat):Int):=by omega
   have w4:IntKind.i64.wrap (((lo+hi) / 2:Nat):Int)=(((lo+hi) / 2:Nat):Int):=wrap64 (by omega) (by omega);generalize hm:(lo+hi) / 2=m at *
   have hml:m<u.length:=by omega
   have c:=bKh (u.getD m default) x;simp -implicitDefEqProofs (disch:=omega) only[zt hki,w1,w2,w3,w4,go_sem,simprocAttr];(repeat'(first|refine gT ?_ ?_|refine gF ?_ ?_|refine gC ?_ ?_|((refine dA (c) ?_ ?_;(focus(simp -implicitDefEqProofs (disch:=omega) only[zt hki,w1,w2,w3,w4,aJq,zdB,go_sem,simprocAttr];done)));simp -implicitDefEqProofs (disch:=omega) only[zt hki,w1,w2,w3,w4,aJq,go_sem,simprocAttr])|refine bX (by omega) ?_|(intro hr;have hc:=hr;(try simp only[zdz]at hc);simp -implicitDefEqProofs (disch:=omega) only[hr,zt hki,w1,w2,w3,w4,aJq,go_sem,simprocAttr];(try clear hr))))
   ·refine⟨(m+1,hi),⟨by dsimp only;omega,h2,fun j hj=>?_,h4⟩,by dsimp only;omega,by dsimp only;congr 1,rfl⟩;dsimp only at hj;rcases Nat.lt_succ_iff_lt_or_eq.1 hj with h|rfl
    ·exact mS (aKb ha h hml) hc
    ·exact hc
   ·exact⟨(lo,m),⟨by dsimp only;omega,by dsimp only;omega,h3,fun _=>hc⟩,by dsimp only;omega,rfl,rfl⟩
  ·have hki:¬(lo:Int)<((hi:Nat):Int):=by omega
   obtain rfl:lo=hi:=by omega
   have hlow:=aEy h2 h3 h4;by_cases hn:lo<u.length
   ·have hni:(lo:Int)<((u.length:Nat):Int):=by omega
    have c:=bKh (u.getD lo default) x;have e:aSb u x=decide ((u.getD lo default).1=x):=by rw[aSb,hlow,zt hn,aI]
    rw[e,hlow]at hR;refine zh (zA2 (zf hki) (zt hni)) ?_;(refine zy1 (zA2 (zf hki) (zA2 (zt hni) @bQz)) c ?_;repeat' first|exact trivial|refine zJ ?_ ?_|refine zH fun hc=>?_);all_goals subst hR
    all_goals exact bV rfl rfl
   ·have hni:¬(lo:Int)<((u.length:Nat):Int):=by omega
    have e:aSb u x=false:=by rw[aSb,hlow,zf hn];rfl
    rw[e,hlow]at hR;refine zh (zA2 (zf hki) (zf hni)) ?_;(refine zx0 (zA2 (zf hki) (zf hni)) ?_;repeat' first|exact trivial|refine zJ ?_ ?_|refine zH fun hc=>?_);all_goals subst hR
    all_goals exact bV rfl rfl
theorem bKl(u:LSub)(x:Str)(ha:AscU u)(hl:u.length≤1000000000): CT 128 [avu u,.s x] (.tup [.i .i64 (pG u x:Nat),.b (aSb u x)]):=by
 refine eG cZ Tryz.func128 g0 ?_
 ·generalize hR:((.tup [.i .i64 (pG u x:Nat),.b (aSb u x)]):AV)=R;simp -implicitDefEqProofs (disch:=omega) only[Tryz.f128,go_sem,List.replicate,simprocAttr,avu];have c:=bXf u x ha hl;simp only[avu]at c;(refine zt1 c ?_;repeat' first|exact trivial|refine zJ ?_ ?_|refine zH fun hc=>?_);all_goals subst hR
  all_goals exact bV rfl rfl
theorem aIf{k:Nat}{u:LSub}(h:k<u.length):((u.flatMap prT).drop (k*7+1)).take 6=aP (u.getD k default).2:=by
 have:=bIz h;rw[prT]at this;have e:((u.flatMap prT).drop (k*7+1)).take 6=(((u.flatMap prT).drop (k*7)).take 7).drop 1:=by
  rw[List.drop_take,pV]
 rw[e,this];rfl
attribute [go_sem] aIf
theorem bOz{u:LSub}{x:Str}(h:AscU u):mOf u x=if aSb u x=true then some (u.getD (pG u x) default).2 else none:=by
 rw[aVz h,aSb];simp only[aA,decide_eq_true_eq]
theorem aYo(u:LSub)(x:Str)(ha:AscU u)(hl:u.length≤1000000000): CT 68 [avu u,.s x] (T3 (mOf u x)):=by
 refine eG cZ Tryz.func68 g0 ?_
 ·generalize hR:((T3 (mOf u x)):AV)=R;simp -implicitDefEqProofs (disch:=omega) only[Tryz.f68,go_sem,List.replicate,simprocAttr,avu];have c:=bKl u x ha hl;simp only[avu]at c;rw[bOz ha]at hR;rcases mQ (aSb u x)with hp|hp
  ·rw[hp,if_pos rfl,T3,elT,aW]at hR;rw[hp]at c;have hlt:pG u x<u.length:=by rw[aSb,aA,decide_eq_true_eq]at hp;exact hp.1
   generalize pG u x=k at *
   (refine zy1 (zA2 @prT.eq_1 @aW) c ?_;repeat' first|exact trivial|refine zJ ?_ ?_|refine zH fun hc=>?_);subst hR;exact bV rfl (by simp[pers,persL,avt,iL])
  ·rw[hp,if_neg Bool.false_ne_true,T3,elT,aW]at hR;rw[hp]at c;(refine zy1 (zA2 @prT.eq_1 @aW) c ?_;repeat' first|exact trivial|refine zJ ?_ ?_|refine zH fun hc=>?_);subst hR;exact .inr ⟨by exact⟨⟨rfl,rfl,rfl,rfl,rfl,rfl,trivial⟩,rfl,trivial⟩,fI,fun i hi=>absurd hi (by show ¬i ∈ [];simp)⟩
theorem bXn(u:LSub)(hl:u.length≤1000000): CT 131 [avu u] (.own 7 (u.flatMap prT) u.length):=by
 refine eG cZ Tryz.func131 g0 ?_
 ·simp -implicitDefEqProofs (disch:=omega) only[Tryz.f131,go_sem,List.replicate,simprocAttr,avu];have b1:(u.length*112≤140737488355328)=True:=eq_true (by omega);have b2:(u.length≤140737488355328)=True:=eq_true (by omega);refine bJh (fun h=>?_) ?_
  ·have:u=[]:=List.eq_nil_of_length_eq_zero h;subst this;refine zg ?_;(refine zs0 ?_;repeat' first|exact trivial|refine zJ ?_ ?_|refine zH fun hc=>?_);all_goals exact .inr ⟨⟨rfl,rfl⟩,fI,fun i hi=>by cases hi⟩
  ·refine zh (zA2 b1 (zA2 b2 @iB)) ?_;(refine zx0 (zA2 b1 (zA2 b2 @iB)) ?_;repeat' first|exact trivial|refine zJ ?_ ?_|refine zH fun hc=>?_);exact .inr ⟨⟨rfl,rfl,_,rfl,by rw[iB];omega,by rw[bG,bE (by rw[iB];omega)],lZ⟩,by simp[dJ],by simp[dJ,kH]⟩
end Go.Proofs.YtdjcggcjlphdoaaGreatDoor
