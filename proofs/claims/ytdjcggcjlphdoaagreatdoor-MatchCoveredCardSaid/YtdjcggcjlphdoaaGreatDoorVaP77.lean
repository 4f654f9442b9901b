/-
  Functions of the chapter, as plain functions of what they are given; no condition.
-/
import Derived.Test.YtdjcggcjlphdoaaGreatDoorVaP75
import Derived.Test.YtdjcggcjlphdoaaGreatDoorTeP73
import Derived.Test.YtdjcggcjlphdoaaGreatDoorTeP72
import Derived.Test.YtdjcggcjlphdoaaGreatDoorVcP71
set_option maxRecDepth 100000
set_option linter.unusedSimpArgs false
set_option linter.unusedVariables false
set_option maxHeartbeats 4000000
namespace Go.Proofs.YtdjcggcjlphdoaaGreatDoor
open Go Go.Vo
open Nat (reduceAdd reduceSub reduceMul reduceLeDiff reduceLT reduceEqDiff)
open Int (reduceNeg)
theorem aIc(u:Nat):Lib.decDigits u=if u<10 then [UInt8.ofNat (48+u)]else Lib.decDigits (u / 10)++[UInt8.ofNat (48+u % 10)]:=by
 rw[Lib.decDigits];split<;>rfl
theorem aIb{a b:Nat}(ha:a<10)(hb:b<10)(h:UInt8.ofNat (48+a)=UInt8.ofNat (48+b)):a=b:=by
 have:=congrArg UInt8.toNat h;simp only[UInt8.toNat_ofNat']at this;omega
theorem bDd(u:Nat):Lib.decDigits u ≠ []:=by
 rw[aIc];split<;>simp
theorem bHd:∀(n:Nat) (u v:Nat),u≤n→Lib.decDigits u=Lib.decDigits v→u=v:=by
 intro n;induction n with
 |zero=>
  intro u v hu h;have hu0:u=0:=by omega
  subst hu0;rw[aIc 0,if_pos (by omega),aIc v]at h;split at h
  ·rename_i hv;exact aIb (by omega) hv (yM h).1
  ·have:=congrArg List.length h;have h2:=bDd (v / 10);have h3:0<(Lib.decDigits (v / 10)).length:=fE.2 h2;simp only[List.length_append,bF,bZ]at this;omega
 |succ n ih=>
  intro u v hu h;rw[aIc u,aIc v]at h;split at h<;>split at h
  ·exact aIb (by assumption) (by assumption) (yM h).1
  ·have:=congrArg List.length h;have h3:0<(Lib.decDigits (v / 10)).length:=fE.2 (bDd _);simp only[List.length_append,bF,bZ]at this;omega
  ·have:=congrArg List.length h;have h3:0<(Lib.decDigits (u / 10)).length:=fE.2 (bDd _);simp only[List.length_append,bF,bZ]at this;omega
  ·obtain⟨e1,e2⟩:=List.append_inj' h rfl;have i1:=ih (u / 10) (v / 10) (by omega) e1;have i2:=aIb (Q8 _ (by decide)) (Q8 _ (by decide)) (yM e2).1;omega
theorem bDe:∀(n u:Nat),u≤n→∀c∈Lib.decDigits u,48≤c.toNat∧c.toNat≤57:=by
 have one:∀a,a<10→48≤(UInt8.ofNat (48+a)).toNat∧(UInt8.ofNat (48+a)).toNat≤57:=fun a h=>by
  simp only[UInt8.toNat_ofNat'];omega
 intro n;induction n with
 |zero=>
  intro u hu c hc;rw[aIc,if_pos (by omega)]at hc;rw[aP.1 hc];exact one _ (by omega)
 |succ n ih=>
  intro u hu c hc;rw[aIc]at hc;split at hc
  ·rw[aP.1 hc];exact one _ (by assumption)
  ·rcases cQ.1 hc with hc|hc
   ·exact ih (u / 10) (by omega) c hc
   ·rw[aP.1 hc];exact one _ (Q8 _ (by decide))
theorem bMe(n:Int):Lib.itoa n ≠ []:=by
 unfold Lib.itoa;split
 ·simp
 ·exact bDd _
theorem bCh{n m:Int}(h:Lib.itoa n=Lib.itoa m):n=m:=by
 unfold Lib.itoa at h;have no:∀u:Nat,∀l,Lib.decDigits u=45::l→False:=fun u l e=>by
  have:=bDe u u (bV _) 45 (by rw[e];simp);exact absurd this.1 (by decide)
 split at h<;>split at h
 ·have:=bHd _ _ _ (bV _) (yM h).2;omega
 ·exact(no _ _ h.symm).elim
 ·exact(no _ _ h).elim
 ·have:=bHd _ _ _ (bV _) h;omega
def AscU(u:LSub):Prop:=u.Pairwise fun p q=>p.1<q.1
def oO(u:LSub)(x:Str):Nat:=(u.takeWhile fun p=>decide (p.1<x)).length
theorem aDo{x:Str}:∀{u:LSub} {k:Nat},k≤u.length→(∀j,j<k→(u.getD j default).1<x)→(k<u.length→¬(u.getD k default).1<x)→oO u x=k
 | [],k,hk,_,_=>by simp at hk;simp[oO,hk]
 |p::u,0,_,_,h2=>by
  have:=h2 (by simp);rw[oO,jB,zf (by simpa using this)];rfl
 |p::u,k+1,hk,h1,h2=>by
  have h0:=h1 0 (by omega);rw[oO,jB,zt (by simpa using h0)];have:=aDo (u:=u) (k:=k) (by simpa using hk) (fun j hj=>by simpa using h1 (j+1) (by omega)) (fun h=>by simpa using h2 (by simpa using h));rw[oO]at this;simp[this]
theorem aXo{u:LSub}(h:AscU u){i j:Nat}(hij:i<j)(hj:j<u.length):(u.getD i default).1<(u.getD j default).1:=by
 have:=eS.1 h i j (by omega) hj hij;simpa[List.getD,hj,show i<u.length by omega]using this
theorem aTs{u:LSub}{x:Str}:oO u x≤u.length:=by rw[oO];exact(List.takeWhile_sublist _).length_le
theorem aTq{u:LSub}{x:Str}(h:AscU u):mOf u x=if oO u x<u.length∧(u.getD (oO u x) default).1=x then some (u.getD (oO u x) default).2 else none:=by
 induction u with
 |nil=>rfl
 |cons p u ih=>
  have h2:=(List.pairwise_cons.1 h).1;have ih:=ih (List.pairwise_cons.1 h).2;rw[mOf,zX];by_cases hp:p.1<x
  ·have hne:¬p.1=x:=fun e=>by rw[e]at hp;exact pB x hp
   have e:oO (p::u) x=oO u x+1:=by rw[oO,jB,zt hp];rfl
   rw[zf hne,e];rw[mOf]at ih;simp only[bF,Nat.add_lt_add_iff_right,dF];exact ih
  ·have e:oO (p::u) x=0:=by rw[oO,jB,zf hp];rfl
   rw[e];by_cases he:p.1=x
   ·rw[zt he];simp[he]
   ·rw[zf he];have hn:∀q∈u,¬q.1=x:=fun q hq e=>hp (by rw[← e];exact h2 q hq);have:u.find? (fun p=>decide (p.1=x))=none:=F7.2 fun q hq=>by simpa using hn q hq
    rw[this];simp[he]
theorem bXt{x:Int}(h1:0≤x)(h2:x≤9223372036854775807):IntKind.u64.wrap x=x:=by
 simp only[IntKind.wrap,IntKind.signed,IntKind.bits];simp;omega
theorem bHe(p:LPr)(x:Str): CT 198 [.agg (prT p),.s x] (.i .i64 (sE p.1 x)):=by
 refine dO dE Tryz.func198 g0 ?_
 ·simp -implicitDefEqProofs (disch:=omega) only[Tryz.f198,go_sem,List.replicate,simprocAttr,prT,aL];(refine zy1 (zA2 @prT.eq_1 @aL) (aWa p.1 x) ?_;repeat' first|exact trivial|refine zJ ?_ ?_|refine zH fun hc=>?_);all_goals exact bR rfl rfl
theorem bNx{a b:Str}:decide (sE a b<0)=decide (a<b):=by rw[gA];simp only[decide_eq_true_eq];exact E9
theorem bNy{a b:Str}:decide (sE a b=0)=decide (a=b):=by rw[gA];simp only[decide_eq_true_eq];exact tG
def aPn(u:LSub)(x:Str):Bool:=decide (oO u x<u.length)&&decide ((u.getD (oO u x) default).1=x)
theorem bTj(u:LSub)(x:Str)(ha:AscU u)(hl:u.length≤1000000000): CT 197 [avu u,.s x,.fn 198 [] []] (.tup [.i .i64 (oO u x:Nat),.b (aPn u x)]):=by
 refine dO dE Tryz.func197 g0 ?_
 ·generalize hR:((.tup [.i .i64 (oO u x:Nat),.b (aPn u x)]):AV)=R;simp -implicitDefEqProofs (disch:=omega) only[Tryz.f197,go_sem,List.replicate,simprocAttr,avu];refine dV (fun(q:Nat×Nat)=>(rp 9 .k (.v (.i .i64 (q.1:Nat))::.v (.i .i64 (q.2:Nat))::.j::.k::.k::.k::(rp 20 .j (rp 14 .k []))))) (fun q=>[]) (fun q=>q.1≤q.2∧q.2≤u.length∧(∀j,j<q.1→(u.getD j default).1<x)∧(q.2<u.length→¬(u.getD q.2 default).1<x)) (fun q=>q.2-q.1) ((0,u.length)) ⟨bX _,bV _,fun j h=>by omega,fun h=>by omega⟩ rfl (by simp[iS]) ?_;rintro⟨lo,hi⟩ j ⟨h1,h2,h3,h4⟩;dsimp only at h1 h2 h3 h4;by_cases hlt:lo<hi
  ·have hki:(lo:Int)<((hi:Nat):Int):=by omega
   have w1:IntKind.i64.wrap ((lo:Int)+(hi:Int))=(((lo+hi:Nat)):Int):=by rw[wrap64 (by omega) (by omega)];omega
   have w2:IntKind.u64.wrap (((lo+hi:Nat)):Int)=(((lo+hi:Nat)):Int):=bXt (by omega) (by omega);have w3:(((lo+hi:Nat)):Int) / 2=(((lo+hi) / 2:Nat):Int):=by omega
   have w4:IntKind.i64.wrap (((lo+hi) / 2:Nat):Int)=(((lo+hi) / 2:Nat):Int):=wrap64 (by omega) (by omega);generalize hm:(lo+hi) / 2=m at *
   have hml:m<u.length:=by omega
   have c:=bHe (u.getD m default) x;refine zh (zA2 (zt hki) (zA2 w1 (zA2 w2 (zA2 w3 w4)))) ?_;(refine zy1 (zA2 (zt hki) (zA2 w1 (zA2 w2 (zA2 w3 (zA2 w4 @bNx))))) c ?_;repeat' first|exact trivial|refine zJ ?_ ?_|refine zH fun hc=>?_)
   ·refine⟨(m+1,hi),⟨by dsimp only;omega,h2,fun j hj=>?_,h4⟩,by dsimp only;omega,by dsimp only;congr 1,rfl⟩;dsimp only at hj;rcases Q9.1 hj with h|rfl
    ·exact mD (aXo ha h hml) hc
    ·exact hc
   ·exact⟨(lo,m),⟨by dsimp only;omega,by dsimp only;omega,h3,fun _=>hc⟩,by dsimp only;omega,rfl,rfl⟩
  ·have hki:¬(lo:Int)<((hi:Nat):Int):=by omega
   obtain rfl:lo=hi:=by omega
   have hlow:=aDo h2 h3 h4;by_cases hn:lo<u.length
   ·have hni:(lo:Int)<((u.length:Nat):Int):=by omega
    have c:=bHe (u.getD lo default) x;have e:aPn u x=decide ((u.getD lo default).1=x):=by rw[aPn,hlow,zt hn,aR]
    rw[e,hlow]at hR;refine zh (zA2 (zf hki) (zt hni)) ?_;(refine zy1 (zA2 (zf hki) (zA2 (zt hni) @bNy)) c ?_;repeat' first|exact trivial|refine zJ ?_ ?_|refine zH fun hc=>?_);all_goals subst hR
    all_goals exact bR rfl rfl
   ·have hni:¬(lo:Int)<((u.length:Nat):Int):=by omega
    have e:aPn u x=false:=by rw[aPn,hlow,zf hn];rfl
    rw[e,hlow]at hR;refine zh (zA2 (zf hki) (zf hni)) ?_;(refine zx0 (zA2 (zf hki) (zf hni)) ?_;repeat' first|exact trivial|refine zJ ?_ ?_|refine zH fun hc=>?_);all_goals subst hR
    all_goals exact bR rfl rfl
theorem bHj(u:LSub)(x:Str)(ha:AscU u)(hl:u.length≤1000000000): CT 128 [avu u,.s x] (.tup [.i .i64 (oO u x:Nat),.b (aPn u x)]):=by
 refine dO dE Tryz.func128 g0 ?_
 ·generalize hR:((.tup [.i .i64 (oO u x:Nat),.b (aPn u x)]):AV)=R;simp -implicitDefEqProofs (disch:=omega) only[Tryz.f128,go_sem,List.replicate,simprocAttr,avu];have c:=bTj u x ha hl;simp only[avu]at c;(refine zt1 c ?_;repeat' first|exact trivial|refine zJ ?_ ?_|refine zH fun hc=>?_);all_goals subst hR
  all_goals exact bR rfl rfl
theorem aRz{k:Nat}{u:LSub}(h:k<u.length):((u.flatMap prT).drop (k*7+1)).take 6=aU (u.getD k default).2:=by
 have:=bFu h;rw[prT]at this;have e:((u.flatMap prT).drop (k*7+1)).take 6=(((u.flatMap prT).drop (k*7)).take 7).drop 1:=by
  rw[List.drop_take,mI]
 rw[e,this];rfl
attribute [go_sem] aRz
theorem bLt{u:LSub}{x:Str}(h:AscU u):mOf u x=if aPn u x=true then some (u.getD (oO u x) default).2 else none:=by
 rw[aTq h,aPn];simp only[aD,decide_eq_true_eq]
theorem aVz(u:LSub)(x:Str)(ha:AscU u)(hl:u.length≤1000000000): CT 68 [avu u,.s x] (P8 (mOf u x)):=by
 refine dO dE Tryz.func68 g0 ?_
 ·generalize hR:((P8 (mOf u x)):AV)=R;simp -implicitDefEqProofs (disch:=omega) only[Tryz.f68,go_sem,List.replicate,simprocAttr,avu];have c:=bHj u x ha hl;simp only[avu]at c;rw[bLt ha]at hR;rcases lY (aPn u x)with hp|hp
  ·rw[hp,if_pos rfl,P8,elT,aL]at hR;rw[hp]at c;have hlt:oO u x<u.length:=by rw[aPn,aD,decide_eq_true_eq]at hp;exact hp.1
   generalize oO u x=k at *
   (refine zy1 (zA2 @prT.eq_1 @aL) c ?_;repeat' first|exact trivial|refine zJ ?_ ?_|refine zH fun hc=>?_);subst hR;exact bR rfl (by simp[pers,persL,avt,gW])
  ·rw[hp,if_neg Bool.false_ne_true,P8,elT,aL]at hR;rw[hp]at c;(refine zy1 (zA2 @prT.eq_1 @aL) c ?_;repeat' first|exact trivial|refine zJ ?_ ?_|refine zH fun hc=>?_);subst hR;exact .inr ⟨by exact⟨⟨rfl,rfl,rfl,rfl,rfl,rfl,trivial⟩,rfl,trivial⟩,fL,fun i hi=>absurd hi (by show ¬i ∈ [];simp)⟩
theorem bTl(u:LSub)(hl:u.length≤1000000): CT 131 [avu u] (.own 7 (u.flatMap prT) u.length):=by
 refine dO dE Tryz.func131 g0 ?_
 ·simp -implicitDefEqProofs (disch:=omega) only[Tryz.f131,go_sem,List.replicate,simprocAttr,avu];have b1:(u.length*112≤140737488355328)=True:=eq_true (by omega);have b2:(u.length≤140737488355328)=True:=eq_true (by omega);refine bGb (fun h=>?_) ?_
  ·have:u=[]:=List.eq_nil_of_length_eq_zero h;subst this;refine zg ?_;(refine zs0 ?_;repeat' first|exact trivial|refine zJ ?_ ?_|refine zH fun hc=>?_);all_goals exact .inr ⟨⟨rfl,rfl⟩,fL,fun i hi=>by cases hi⟩
  ·refine zh (zA2 @b1 (zA2 @b2 @gR)) ?_;(refine zx0 (zA2 @b1 (zA2 @b2 @gR)) ?_;repeat' first|exact trivial|refine zJ ?_ ?_|refine zH fun hc=>?_);exact .inr ⟨⟨rfl,rfl,_,rfl,by rw[gR];omega,by rw[bK,bB (by rw[gR];omega)],nL⟩,by simp[dN],by simp[dN,kC]⟩
end Go.Proofs.YtdjcggcjlphdoaaGreatDoor
