/-
  Functions of the chapter, as plain functions of what they are given; no condition.
-/
import Derived.Test.YtdjcggcjlphdoaaGreatDoorVdP73
import Derived.Test.YtdjcggcjlphdoaaGreatDoorVcP74
import Derived.Test.YtdjcggcjlphdoaaGreatDoorVoP82
import Derived.Lib.ItoaLen
set_option maxRecDepth 100000
set_option linter.unusedSimpArgs false
set_option linter.unusedVariables false
set_option maxHeartbeats 4000000
namespace Go.Proofs.YtdjcggcjlphdoaaGreatDoor
open Go Go.Vo
open Nat (reduceAdd reduceSub reduceMul reduceLeDiff reduceLT reduceEqDiff)
open Int (reduceNeg)
def oI(t:LTerm):LTerm:=if t.kids.length=0∧0<t.rest.length then t.rest.getD 0 default else t
theorem bHh(t:LTerm)(hk:t.kids.length≤140737488355328)(hr:t.rest.length≤140737488355328): CT 138 [elT t] (elT (oI t)):=by
 refine dO dE Tryz.func138 g0 ?_
 ·simp -implicitDefEqProofs (disch:=omega) only[Tryz.f138,go_sem,List.replicate,simprocAttr,elT,aL];rw[oI];by_cases h1:t.kids.length=0
  ·have h1i:decide (((t.kids.length:Nat):Int)=0)=true:=zt (by omega);by_cases h2:0<t.rest.length
   ·have h2i:decide ((0:Int)<((t.rest.length:Nat):Int))=true:=zt (by omega);rw[if_pos ⟨h1,h2⟩];refine zh (zA2 h1i h2i) ?_;repeat refine bE (by omega) ?_
    exact .inl ⟨by simp[elT,aL,avt],by simp[pers,persL,gW]⟩
   ·have h2i:decide ((0:Int)<((t.rest.length:Nat):Int))=false:=zf (by omega);rw[if_neg (fun h=>h2 h.2)];refine zh (zA2 h1i h2i) ?_;exact .inl ⟨rfl,by simp[pers,persL,gW]⟩
  ·have h1i:decide (((t.kids.length:Nat):Int)=0)=false:=zf (by omega);rw[if_neg (fun h=>h1 h.1)];refine zh h1i ?_;exact .inl ⟨rfl,by simp[pers,persL,gW]⟩
theorem aAq{M:Md}{d:Option Nat}{os:List fZ}{K:List AV→List AObj→Prop}{env:List AV}{h:List AObj}{f:Nat}{fi ca:List AV}{u:LSub}{b:Bool}(hf:persL fi=true)(hc:persL ca=true)(c:Ctr Tryz.prog M.g f (fi++tmA u::ca) (.b b))(k:dM Tryz.prog M none os K (iE env d (.b b)) h) :
 zN Tryz.prog M none f (fi++AV.mapv ((u.map (·.1)).map .s) ((u.map (·.2)).map elT)::ca) d os K env h:=
 bJ c (by rw[cL,aQ,nS hf,nS hc,gN,if_pos (Y1 u)];rfl) k
theorem bTe(s:dK)(u:LSub)(ps qs:List LTerm)(f:Nat)(fi ca:List AV)(r:Bool)(hf:persL fi=true)(hc:persL ca=true)(h1:0<ps.length)(h2:0<qs.length)(c:CT 136 [.agg [bQ s],tmA u,avt (ps.drop 1),avt (qs.drop 1),.fn f fi ca] (.b r)): CT 207 [tmA u,.box [bQ s] 0,.box [avt ps] 0,.box [avt qs] 0,.box [.fn f fi ca] 0] (.b r):=by
 refine dO dE Tryz.func207 g0 ?_
 ·simp -implicitDefEqProofs (disch:=omega) only[Tryz.f207,go_sem,List.replicate,simprocAttr,tmA,avt];simp only[tmA,avt,dS]at c;refine⟨by omega,by omega,?_⟩;refine bJ c ?_ ?_
  ·have e1:(ps.flatMap aU).drop 6=(ps.drop 1).flatMap aU:=Vo.flat_drop (m:=6) (fun t=>by rw[aL];rfl) ps 1;have e2:(qs.flatMap aU).drop 6=(qs.drop 1).flatMap aU:=Vo.flat_drop (m:=6) (fun t=>by rw[aL];rfl) qs 1;simp -implicitDefEqProofs (disch:=omega) only[hf,hc,gS,cX,bQ,e1,e2,gW,go_sem,simprocAttr]
  refine zg ?_;exact bR rfl rfl
theorem bNj(s:dK)(u:LSub)(qs:List LTerm)(f:Nat)(fi ca:List AV)(r:Bool)(hf:persL fi=true)(hc:persL ca=true)(c:CT f (fi++tmA u::ca) (.b r)): CT 136 [.agg [bQ s],tmA u,avt [],avt qs,.fn f fi ca] (.b r):=by
 refine dO dE Tryz.func136 g0 ?_
 ·simp -implicitDefEqProofs (disch:=omega) only[Tryz.f136,go_sem,List.replicate,simprocAttr,tmA,avt];refine aAq hf hc c ?_;refine zg ?_;exact bR rfl rfl
theorem bNk(s:dK)(u:LSub)(ps qs:List LTerm)(f:Nat)(fi ca:List AV)(r:Bool)(hf:persL fi=true)(hc:persL ca=true)(h1:0<ps.length)(h2:0<qs.length)(c:CT 74 [.agg [bQ s],tmA u,elT (ps.getD 0 default),elT (qs.getD 0 default),.fn 207 [] [.box [bQ s] 0,.box [avt ps] 0,.box [avt qs] 0,.box [.fn f fi ca] 0]] (.b r)): CT 136 [.agg [bQ s],tmA u,avt ps,avt qs,.fn f fi ca] (.b r):=by
 refine dO dE Tryz.func136 g0 ?_
 ·simp -implicitDefEqProofs (disch:=omega) only[Tryz.f136,go_sem,List.replicate,simprocAttr,tmA,avt];simp only[tmA,avt]at c;have h1i:decide (((ps.length:Nat):Int)=0)=false:=zf (by omega);refine zh h1i ?_;repeat refine bE (by omega) ?_
  refine bJ c ?_ ?_
  ·simp -implicitDefEqProofs (disch:=omega) only[hf,hc,gS,cX,elT,aL,bQ,avt,go_sem,simprocAttr]
  refine zg ?_;exact bR rfl rfl
theorem bNh(s:dK)(u:LSub)(p q:LTerm)(n:Int)(f:Nat)(fi ca:List AV)(r:Bool)(hf:persL fi=true)(hc:persL ca=true)(hr:p.rest.length=0)(c:CT f (fi++tmA u::ca) (.b r)): CT 137 [tmA u,.box (tmC p) 0,.box [.fn f fi ca] 0,.box [bQ s] 0,.box (tmC q) 0,.box [.i .i64 n] 0] (.b r):=by
 refine dO dE Tryz.func137 g0 ?_
 ·simp -implicitDefEqProofs (disch:=omega) only[Tryz.f137,go_sem,List.replicate,simprocAttr,tmA];have hri:decide (((p.rest.length:Nat):Int)=0)=true:=zt (by omega);refine zh hri ?_;refine aAq hf hc c ?_;refine zg ?_;exact bR rfl rfl
def uV(ks rs:List LTerm):LTerm:=.mk 7 0 [] [] ks rs
def aHl(ks rs:List LTerm):LTerm:=.mk 8 0 [] [] ks rs
theorem bNi(s:dK)(u:LSub)(p q:LTerm)(n:Nat)(f:Nat)(fi ca:List AV)(r:Bool)(hf:persL fi=true)(hc:persL ca=true)(hr:0<p.rest.length)(hn:n≤q.kids.length)(hql:q.kids.length≤1466015503701)(hrl:q.rest.length≤1466015503701)(c:CT 134 [.agg [bQ s],tmA u,elT (p.rest.getD 0 default),elT (oI (uV (q.kids.drop n) q.rest)),.fn f fi ca] (.b r)): CT 137 [tmA u,.box (tmC p) 0,.box [.fn f fi ca] 0,.box [bQ s] 0,.box (tmC q) 0,.box [.i .i64 (n:Nat)] 0] (.b r):=by
 refine dO dE Tryz.func137 g0 ?_
 ·simp -implicitDefEqProofs (disch:=omega) only[Tryz.f137,go_sem,List.replicate,simprocAttr,tmA];have hri:decide (((p.rest.length:Nat):Int)=0)=false:=zf (by omega);have c2:=bHh (uV (q.kids.drop n) q.rest) (by rw[uV,show(LTerm.mk 7 0 [] [] (q.kids.drop n) q.rest).kids=q.kids.drop n from rfl,dS];omega) (by show q.rest.length≤_;omega);have e1:(q.kids.flatMap aU).drop (n*6)=(q.kids.drop n).flatMap aU:=Vo.flat_drop (fun t=>by rw[aL];rfl) q.kids n;simp only[tmA]at c;generalize oI (uV (q.kids.drop n) q.rest)=T at *
  refine zh hri ?_;repeat refine bE (by omega) ?_
  rw[e1];refine bJ c2 ?_ ?_
  ·simp -implicitDefEqProofs (disch:=omega) only[elT,uV,aL,avt,dS,LTerm.kids,LTerm.rest,LTerm.kind,LTerm.n,LTerm.text,LTerm.sort,go_sem,simprocAttr]
  refine zh (zA2 @elT.eq_1 (zA2 @aL @avt.eq_1)) ?_;refine bJ c ?_ ?_
  ·simp -implicitDefEqProofs (disch:=omega) only[hf,hc,gS,cX,elT,aL,bQ,avt,go_sem,simprocAttr]
  refine zg ?_;exact bR rfl rfl
theorem bRf{M:Nat}:persL (List.replicate M (AV.b false))=true:=by
 induction M with
 |zero=>rfl
 |succ M ih=>rw[fT,persL,ih];rfl
theorem bNn(s:dK)(u:LSub)(p q:LTerm)(f:Nat)(fi ca:List AV)(r:Bool)(hf:persL fi=true)(hc:persL ca=true)(h6:p.kind=6)(c:CT 134 [.agg [bQ s],tmA u,elT p,elT q,.fn f fi ca] (.b r)): CT 74 [.agg [bQ s],tmA u,elT p,elT q,.fn f fi ca] (.b r):=by
 refine dO dE Tryz.func74 g0 ?_
 ·simp -implicitDefEqProofs (disch:=omega) only[Tryz.f74,go_sem,List.replicate,simprocAttr,tmA,elT,aL];simp only[tmA]at c;refine zh (zt h6) ?_;refine bJ c ?_ ?_
  ·simp -implicitDefEqProofs (disch:=omega) only[hf,hc,gS,cX,elT,aL,bQ,avt,go_sem,simprocAttr]
  refine zg ?_;exact bR rfl rfl
theorem bNo(s:dK)(u:LSub)(p q:LTerm)(f:Nat)(fi ca:List AV)(h6:¬p.kind=6)(hne:¬(p.kind=q.kind∧p.n=q.n∧p.text=q.text)): CT 74 [.agg [bQ s],tmA u,elT p,elT q,.fn f fi ca] (.b false):=by
 refine dO dE Tryz.func74 g0 ?_
 ·simp -implicitDefEqProofs (disch:=omega) only[Tryz.f74,go_sem,List.replicate,simprocAttr,tmA,elT,aL];refine zh (zf h6) ?_;by_cases h1:p.kind=q.kind
  ·by_cases h2:p.n=q.n
   ·have h3:¬p.text=q.text:=fun h=>hne ⟨h1,h2,h⟩;simp -implicitDefEqProofs (disch:=omega) only[zt h1,zt h2,zf h3,aA,aB,go_sem,simprocAttr];exact bR rfl rfl
   ·simp -implicitDefEqProofs (disch:=omega) only[zt h1,zf h2,aA,aB,go_sem,simprocAttr];exact bR rfl rfl
  ·simp -implicitDefEqProofs (disch:=omega) only[zf h1,aA,aB,go_sem,simprocAttr];exact bR rfl rfl
theorem bNp(s:dK)(u:LSub)(p q:LTerm)(f:Nat)(fi ca:List AV)(r:Bool)(hf:persL fi=true)(hc:persL ca=true)(h8:p.kind=8)(h1:p.kind=q.kind)(h2:p.n=q.n)(h3:p.text=q.text)(hql:q.kids.length≤1000000)(c:CT 135 [.agg [bQ s],tmA u,elT p,elT q,.sl (List.replicate (q.kids.length / 2) (.b false)) (q.kids.length / 2),.i .i64 0,.fn f fi ca] (.b r)): CT 74 [.agg [bQ s],tmA u,elT p,elT q,.fn f fi ca] (.b r):=by
 refine gI (rx:=true) (th:=fun _=>none) dE Tryz.func74 g0 ?_
 ·simp -implicitDefEqProofs (disch:=omega) only[Tryz.f74,go_sem,List.replicate,simprocAttr,tmA,elT,aL];simp only[tmA]at c;have h6:¬p.kind=6:=by omega
  simp -implicitDefEqProofs (disch:=omega) only[zf h6,zt h1,zt h2,zt h3,zt h8,aA,aB,go_sem,simprocAttr];have hw:IntKind.i64.wrap (((q.kids.length:Nat):Int).tdiv 2)=((q.kids.length / 2:Nat):Int):=by rw[show((q.kids.length:Nat):Int).tdiv 2=((q.kids.length / 2:Nat):Int)from rfl,wrap64 (by omega) (by omega)]
  refine zh hw ?_;have hT:List.take (q.kids.length / 2) (List.replicate (q.kids.length / 2) (AV.b false))=List.replicate (q.kids.length / 2) (AV.b false):=bB (by simp);refine⟨⟨by omega,by omega,by have:=hql;simp;omega,by have:=hql;simp;omega⟩,?_⟩;refine bJ c ?_ ?_
  ·simp -implicitDefEqProofs (disch:=omega) only[hf,hc,gS,cX,elT,aL,bQ,avt,hT,bRf,go_sem,simprocAttr]
  refine zg ?_;exact bR rfl rfl
theorem bNq(s:dK)(u:LSub)(p q:LTerm)(f:Nat)(fi ca:List AV)(r:Bool)(hf:persL fi=true)(hc:persL ca=true)(h6:¬p.kind=6)(h8:¬p.kind=8)(h1:p.kind=q.kind)(h2:p.n=q.n)(h3:p.text=q.text)(hpl:p.kids.length≤q.kids.length)(hx:p.rest.length=0→p.kids.length=q.kids.length∧q.rest.length=0)(hql:q.kids.length≤1000000)(c:CT 136 [.agg [bQ s],tmA u,avt p.kids,avt (q.kids.take p.kids.length),.fn 137 [] [.box (tmC p) 0,.box [.fn f fi ca] 0,.box [bQ s] 0,.box (tmC q) 0,.box [.i .i64 (p.kids.length:Nat)] 0]] (.b r)): CT 74 [.agg [bQ s],tmA u,elT p,elT q,.fn f fi ca] (.b r):=by
 refine gI (rx:=true) (th:=fun _=>none) dE Tryz.func74 g0 ?_
 ·simp -implicitDefEqProofs (disch:=omega) only[Tryz.f74,go_sem,List.replicate,simprocAttr,tmA,elT,aL];simp only[tmA,avt]at c;have e1:(q.kids.flatMap aU).take (p.kids.length*6)=(q.kids.take p.kids.length).flatMap aU:=Vo.flat_take (fun t=>by rw[aL];rfl) q.kids p.kids.length;simp -implicitDefEqProofs (disch:=omega) only[zf h6,zt h1,zt h2,zt h3,zf h8,aA,aB,go_sem,simprocAttr];have g1:decide (((q.kids.length:Nat):Int)<((p.kids.length:Nat):Int))=false:=zf (by omega);by_cases hr:p.rest.length=0
  ·have g2:decide (((p.rest.length:Nat):Int)=0)=true:=zt (by omega);have g3:decide (((p.kids.length:Nat):Int)<((q.kids.length:Nat):Int))=false:=zf (by have:=(hx hr).1;omega);have g4:decide ((0:Int)<((q.rest.length:Nat):Int))=false:=zf (by have:=(hx hr).2;omega);refine zh (zA2 g1 (zA2 g2 (zA2 g3 g4))) ?_;repeat refine bE (by omega) ?_
   rw[bB (show q.kids.length≤p.kids.length by have:=(hx hr).1;omega)]at c;refine bJ c ?_ ?_
   ·simp -implicitDefEqProofs (disch:=omega) only[hf,hc,gS,cX,elT,aL,bQ,avt,(hx hr).1,go_sem,simprocAttr]
   refine zg ?_;exact bR rfl rfl
  ·have g2:decide (((p.rest.length:Nat):Int)=0)=false:=zf (by omega);refine zh (zA2 g1 g2) ?_;repeat refine bE (by omega) ?_
   refine bJ c ?_ ?_
   ·simp -implicitDefEqProofs (disch:=omega) only[hf,hc,gS,cX,elT,aL,bQ,avt,cN,Nat.min_eq_left hpl,go_sem,simprocAttr]
   refine zg ?_;exact bR rfl rfl
theorem bNm(s:dK)(u:LSub)(p q:LTerm)(f:Nat)(fi ca:List AV)(h6:¬p.kind=6)(h8:¬p.kind=8)(h1:p.kind=q.kind)(h2:p.n=q.n)(h3:p.text=q.text)(hx:q.kids.length<p.kids.length∨(p.rest.length=0∧¬(p.kids.length=q.kids.length∧q.rest.length=0))): CT 74 [.agg [bQ s],tmA u,elT p,elT q,.fn f fi ca] (.b false):=by
 refine gI (rx:=true) (th:=fun _=>none) dE Tryz.func74 g0 ?_
 ·simp -implicitDefEqProofs (disch:=omega) only[Tryz.f74,go_sem,List.replicate,simprocAttr,tmA,elT,aL];simp -implicitDefEqProofs (disch:=omega) only[zf h6,zt h1,zt h2,zt h3,zf h8,aA,aB,go_sem,simprocAttr];by_cases hlt:q.kids.length<p.kids.length
  ·have g1:decide (((q.kids.length:Nat):Int)<((p.kids.length:Nat):Int))=true:=zt (by omega);refine zh g1 ?_;exact bR rfl rfl
  ·have g1:decide (((q.kids.length:Nat):Int)<((p.kids.length:Nat):Int))=false:=zf (by omega);obtain⟨hr,hx⟩:=hx.resolve_left hlt;have g2:decide (((p.rest.length:Nat):Int)=0)=true:=zt (by omega);by_cases hl2:p.kids.length<q.kids.length
   ·have g3:decide (((p.kids.length:Nat):Int)<((q.kids.length:Nat):Int))=true:=zt (by omega);refine zh (zA2 g1 (zA2 g2 g3)) ?_;exact bR rfl rfl
   ·have g3:decide (((p.kids.length:Nat):Int)<((q.kids.length:Nat):Int))=false:=zf (by omega);have g4:decide ((0:Int)<((q.rest.length:Nat):Int))=true:=zt (by omega);refine zh (zA2 g1 (zA2 g2 (zA2 g3 g4))) ?_;exact bR rfl rfl
theorem xC:∀{l:List Bool},persL (l.map AV.b)=true
 | []=>rfl
 |b::l=>by rw[aQ,persL,xC];rfl
theorem bTf(s:dK)(u:LSub)(p q:LTerm)(tk:List Bool)(i:Int)(f:Nat)(fi ca:List AV)(r:Bool)(hf:persL fi=true)(hc:persL ca=true)(hi:0≤i∧i≤1000000000)(c:CT 135 [.agg [bQ s],tmA u,elT p,elT q,.sl (tk.map .b) tk.length,.i .i64 (i+2),.fn f fi ca] (.b r)): CT 206 [tmA u,.box [bQ s] 0,.box (tmC p) 0,.box (tmC q) 0,.box [.sl (tk.map .b) tk.length] 0,.box [.i .i64 i] 0,.box [.fn f fi ca] 0] (.b r):=by
 refine dO dE Tryz.func206 g0 ?_
 ·simp -implicitDefEqProofs (disch:=omega) only[Tryz.f206,go_sem,List.replicate,simprocAttr,tmA];simp only[tmA]at c;have hw:IntKind.i64.wrap (i+2)=i+2:=wrap64 (by omega) (by omega);refine bJ c ?_ ?_
  ·simp -implicitDefEqProofs (disch:=omega) only[hf,hc,gS,cX,elT,aL,bQ,avt,xC,go_sem,simprocAttr]
  refine zg ?_;exact bR rfl rfl
theorem bTg(s:dK)(u:LSub)(p q:LTerm)(tk:List Bool)(i j:Nat)(f:Nat)(fi ca:List AV)(r:Bool)(hf:persL fi=true)(hc:persL ca=true)(hi:i+1<p.kids.length)(hj:2*j+1<q.kids.length)(hpl:p.kids.length≤1000000)(hql:q.kids.length≤1000000)(c:CT 74 [.agg [bQ s],tmA u,elT (p.kids.getD (i+1) default),elT (q.kids.getD (2*j+1) default),.fn 206 [] [.box [bQ s] 0,.box (tmC p) 0,.box (tmC q) 0,.box [.sl (tk.map .b) tk.length] 0,.box [.i .i64 (i:Nat)] 0,.box [.fn f fi ca] 0]] (.b r)): CT 205 [tmA u,.box [bQ s] 0,.box (tmC p) 0,.box [.i .i64 (i:Nat)] 0,.box (tmC q) 0,.box [.i .i64 (j:Nat)] 0,.box [.sl (tk.map .b) tk.length] 0,.box [.fn f fi ca] 0] (.b r):=by
 refine gI (rx:=true) (th:=fun _=>none) dE Tryz.func205 g0 ?_
 ·simp -implicitDefEqProofs (disch:=omega) only[Tryz.f205,go_sem,List.replicate,simprocAttr,tmA];simp only[tmA]at c;have hw1:IntKind.i64.wrap (((i:Nat):Int)+1)=((i+1:Nat):Int):=by rw[wrap64 (by omega) (by omega)];omega
  have hw2:IntKind.i64.wrap (2*((j:Nat):Int))=((2*j:Nat):Int):=by rw[wrap64 (by omega) (by omega)];omega
  have hw3:IntKind.i64.wrap (((2*j:Nat):Int)+1)=((2*j+1:Nat):Int):=by rw[wrap64 (by omega) (by omega)];omega
  have h2e':((2:Int)*(j:Int)+1).toNat=2*j+1:=by omega
  repeat refine bE (by omega) ?_
  refine bJ c ?_ ?_
  ·simp -implicitDefEqProofs (disch:=omega) only[h2e',hf,hc,gS,cX,elT,aL,bQ,avt,xC,go_sem,simprocAttr]
  refine zg ?_;exact bR rfl rfl
theorem bTh(s:dK)(u:LSub)(p q:LTerm)(tk:List Bool)(f:Nat)(fi ca:List AV)(r:Bool)(hf:persL fi=true)(hc:persL ca=true)(htk:tk.length=q.kids.length / 2)(hev:q.kids.length % 2=0)(hql:q.kids.length≤1000000)(hrl:q.rest.length≤1000000)(c0:p.rest.length=0→(leftOf q.kids tk).length=0→q.rest.length=0→CT f (fi++tmA u::ca) (.b r))(c1:p.rest.length=0→¬((leftOf q.kids tk).length=0∧q.rest.length=0)→r=false)(c2:0<p.rest.length→CT 134 [.agg [bQ s],tmA u,elT (p.rest.getD 0 default),elT (oI (aHl (leftOf q.kids tk) q.rest)),.fn f fi ca] (.b r)): CT 203 [.agg [bQ s],tmA u,elT p,elT q,.sl (tk.map .b) tk.length,.fn f fi ca] (.b r):=by
 refine dO dE Tryz.func203 g0 ?_
 ·simp -implicitDefEqProofs (disch:=omega) only[Tryz.f203,go_sem,List.replicate,simprocAttr,tmA,elT,aL];refine dV (fun(v:Nat×AV×List AObj)=>(rp 14 .k (.j::.j::(rp 5 .k (.v (.i .i64 (v.1:Nat))::(rp 25 .j (rp 29 .k []))))))) (fun v=>(.box false [bQ s]::.box false (tmC p)::.box false (tmC q)::.box false [.i .i64 8,.i .i64 0,.s [],.s [],v.2.1,.sl (q.rest.flatMap aU) q.rest.length]::v.2.2)) (fun v=>v.1≤tk.length∧jU 6 4 v.2.2 v.2.1 ((leftOf (q.kids.take (2*v.1)) (tk.take v.1)).flatMap aU) (leftOf (q.kids.take (2*v.1)) (tk.take v.1)).length) (fun v=>tk.length-v.1) ((0,.e0,[])) ⟨bX _,jN⟩ rfl (by simp[iS]) ?_;rintro⟨e,ks,g⟩ j ⟨he,hok⟩;dsimp only at he hok;by_cases het:e<tk.length
  ·have hei:(e:Int)<((tk.length:Nat):Int):=by omega
   have hls:=K7 (show q.kids.length=2*tk.length by omega) het;have h2e:((2:Int)*(e:Int)).toNat=2*e:=by omega
   have h2e':((2:Int)*(e:Int)+1).toNat=2*e+1:=by omega
   have hkl:=qG (ks:=q.kids.take (2*e)) (tk:=tk.take e);rw[cN]at hkl;cases hx:tk.getD e false with
   |true=>
    rw[hx,if_pos rfl,List.append_nil]at hls;simp -implicitDefEqProofs (disch:=omega) only[zt hei,hx,aA,go_sem,simprocAttr];repeat refine bE (by omega) ?_
    refine⟨(e+1,ks,g),⟨by dsimp only;omega,by dsimp only;rw[hls];exact hok⟩,by dsimp only;omega,rfl,by simp⟩
   |false=>
    rw[hx,if_neg (by simp)]at hls;simp -implicitDefEqProofs (disch:=omega) only[zt hei,hx,aB,h2e,h2e',eX,aJ,aM,List.append_nil,go_sem,simprocAttr];repeat refine bE (by omega) ?_
    refine fN (pre:=[.box false [.box (eZ s) 0],.box false (tmC p),.box false (tmC q),.box false [.i .i64 8,.i .i64 0,.s [],.s [],ks,.sl (q.rest.flatMap aU) q.rest.length]]) (g:=g) (more:=[.arr false 6 ([.i .i64 ((q.kids.getD (2*e) default)).kind,.i .i64 ((q.kids.getD (2*e) default)).n,.s ((q.kids.getD (2*e) default)).text,.s ((q.kids.getD (2*e) default)).sort,.sl (((q.kids.getD (2*e) default)).kids.flatMap aU) ((q.kids.getD (2*e) default)).kids.length,.sl (((q.kids.getD (2*e) default)).rest.flatMap aU) ((q.kids.getD (2*e) default)).rest.length]++[.i .i64 ((q.kids.getD (2*e+1) default)).kind,.i .i64 ((q.kids.getD (2*e+1) default)).n,.s ((q.kids.getD (2*e+1) default)).text,.s ((q.kids.getD (2*e+1) default)).sort,.sl (((q.kids.getD (2*e+1) default)).kids.flatMap aU) ((q.kids.getD (2*e+1) default)).kids.length,.sl (((q.kids.getD (2*e+1) default)).rest.flatMap aU) ((q.kids.getD (2*e+1) default)).rest.length])]) (news:=[.i .i64 ((q.kids.getD (2*e) default)).kind,.i .i64 ((q.kids.getD (2*e) default)).n,.s ((q.kids.getD (2*e) default)).text,.s ((q.kids.getD (2*e) default)).sort,.sl (((q.kids.getD (2*e) default)).kids.flatMap aU) ((q.kids.getD (2*e) default)).kids.length,.sl (((q.kids.getD (2*e) default)).rest.flatMap aU) ((q.kids.getD (2*e) default)).rest.length]++[.i .i64 ((q.kids.getD (2*e+1) default)).kind,.i .i64 ((q.kids.getD (2*e+1) default)).n,.s ((q.kids.getD (2*e+1) default)).text,.s ((q.kids.getD (2*e+1) default)).sort,.sl (((q.kids.getD (2*e+1) default)).kids.flatMap aU) ((q.kids.getD (2*e+1) default)).kids.length,.sl (((q.kids.getD (2*e+1) default)).rest.flatMap aU) ((q.kids.getD (2*e+1) default)).rest.length]) (m:=2) hok rfl ?_ bHb bFe bFj bIc rfl (by decide) ?_ ?_ ⟨by omega,by omega⟩ ?_
    ·simp only[aC,aE,cM]
    ·exact zu
    ·exact zu
    intro out' g' ho' _;rcases ho' with⟨_,_,h3⟩|⟨i1,rfl,hi1,hl1⟩
    ·omega
    refine zg ?_;have hlen:(leftOf (q.kids.take (2*(e+1))) (tk.take (e+1))).length=(leftOf (q.kids.take (2*e)) (tk.take e)).length+2:=by rw[hls,List.length_append];rfl
    have hcel:(leftOf (q.kids.take (2*(e+1))) (tk.take (e+1))).flatMap aU=(leftOf (q.kids.take (2*e)) (tk.take e)).flatMap aU++([.i .i64 ((q.kids.getD (2*e) default)).kind,.i .i64 ((q.kids.getD (2*e) default)).n,.s ((q.kids.getD (2*e) default)).text,.s ((q.kids.getD (2*e) default)).sort,.sl (((q.kids.getD (2*e) default)).kids.flatMap aU) ((q.kids.getD (2*e) default)).kids.length,.sl (((q.kids.getD (2*e) default)).rest.flatMap aU) ((q.kids.getD (2*e) default)).rest.length]++[.i .i64 ((q.kids.getD (2*e+1) default)).kind,.i .i64 ((q.kids.getD (2*e+1) default)).n,.s ((q.kids.getD (2*e+1) default)).text,.s ((q.kids.getD (2*e+1) default)).sort,.sl (((q.kids.getD (2*e+1) default)).kids.flatMap aU) ((q.kids.getD (2*e+1) default)).kids.length,.sl (((q.kids.getD (2*e+1) default)).rest.flatMap aU) ((q.kids.getD (2*e+1) default)).rest.length]):=by
     rw[hls,List.flatMap_append,List.flatMap_cons,List.flatMap_cons,List.flatMap_nil,List.append_nil,aL,aL];rfl
    refine⟨(e+1,.hs (i1+4) 0 ((leftOf (q.kids.take (2*e)) (tk.take e)).length+2) false,g'),⟨by dsimp only;omega,.inr ⟨i1,by dsimp only;rw[hlen],?_,?_⟩⟩,by dsimp only;omega,rfl,?_⟩
    ·dsimp only;rw[hcel];exact hi1
    ·dsimp only;rw[hcel,hlen];exact hl1
    ·simp
  ·have hei:¬(e:Int)<((tk.length:Nat):Int):=by omega
   obtain rfl:e=tk.length:=by omega
   rw[aDr (show q.kids.length=2*tk.length by omega)]at hok;have hLl:=qG (ks:=q.kids) (tk:=tk);generalize leftOf q.kids tk=L at *
   by_cases hr:p.rest.length=0
   ·have g2:decide (((p.rest.length:Nat):Int)=0)=true:=zt (by omega);by_cases hL:L.length=0
    ·by_cases hq:q.rest.length=0
     ·have cY:=c0 hr hL hq;have g4:decide (((q.rest.length:Nat):Int)=0)=true:=zt (by omega);have g3:decide (((L.length:Nat):Int)=0)=true:=zt (by omega);rcases hok with⟨rfl,hk2,hk3⟩|⟨i0,rfl,hk2,hk3⟩
      ·refine zh (zA2 (zf hei) (zA2 g2 g4)) ?_;refine aAq hf hc cY ?_;refine zg ?_;exact bR rfl rfl
      ·refine zh (zA2 (zf hei) (zA2 g2 (zA2 g3 (zA2 g4 hk2)))) ?_;refine aAq hf hc cY ?_;refine zg ?_;exact bR rfl rfl
     ·have hr0:=c1 hr (fun h=>hq h.2);subst hr0;have g4:decide (((q.rest.length:Nat):Int)=0)=false:=zf (by omega);have g3:decide (((L.length:Nat):Int)=0)=true:=zt (by omega);rcases hok with⟨rfl,hk2,hk3⟩|⟨i0,rfl,hk2,hk3⟩
      ·refine zh (zA2 (zf hei) (zA2 g2 g4)) ?_;exact bR rfl rfl
      ·refine zh (zA2 (zf hei) (zA2 g2 (zA2 g3 (zA2 g4 hk2)))) ?_;exact bR rfl rfl
    ·have hr0:=c1 hr (fun h=>hL h.1);subst hr0;have g3:decide (((L.length:Nat):Int)=0)=false:=zf (by omega);rcases hok with⟨rfl,hk2,hk3⟩|⟨i0,rfl,hk2,hk3⟩
     ·exact absurd hk3 (by omega)
     ·refine zh (zA2 (zf hei) (zA2 g2 (zA2 g3 hk2))) ?_;exact bR rfl rfl
   ·have g2:decide (((p.rest.length:Nat):Int)=0)=false:=zf (by omega);have cV:=c2 (by omega);have cR:=bHh (aHl L q.rest) (by show L.length≤_;omega) (by show q.rest.length≤_;omega);simp only[tmA]at cV;generalize oI (aHl L q.rest)=T at *
    rcases hok with⟨rfl,hk2,hk3⟩|⟨i0,rfl,hk2,hk3⟩
    ·obtain rfl:L=[]:=eE.1 hk3;refine zh (zA2 (zf hei) g2) ?_;repeat refine bE (by omega) ?_
     refine bJ cR ?_ ?_
     ·simp -implicitDefEqProofs (disch:=omega) only[elT,aHl,aL,avt,LTerm.kids,LTerm.rest,LTerm.kind,LTerm.n,LTerm.text,LTerm.sort,List.flatMap_nil,bZ,gW,go_sem,simprocAttr]
     refine zh (zA2 @elT.eq_1 (zA2 @aL @avt.eq_1)) ?_;refine bJ cV ?_ ?_
     ·simp -implicitDefEqProofs (disch:=omega) only[hf,hc,gS,cX,elT,aL,bQ,avt,go_sem,simprocAttr]
     refine zg ?_;exact bR rfl rfl
    ·have hw:List.take (L.length*6) (L.flatMap aU)=L.flatMap aU:=bB (by omega);refine zh (zA2 (zf hei) (zA2 g2 hk2)) ?_;repeat refine bE (by omega) ?_
     refine bJ cR ?_ ?_
     ·simp -implicitDefEqProofs (disch:=omega) only[elT,aHl,aL,avt,LTerm.kids,LTerm.rest,LTerm.kind,LTerm.n,LTerm.text,LTerm.sort,List.flatMap_nil,bZ,gW,hk2,hw,hk3,go_sem,simprocAttr]
     refine zh (zA2 @elT.eq_1 (zA2 @aL @avt.eq_1)) ?_;refine bJ cV ?_ ?_
     ·simp -implicitDefEqProofs (disch:=omega) only[hf,hc,gS,cX,elT,aL,bQ,avt,go_sem,simprocAttr]
     refine zg ?_;exact bR rfl rfl
theorem lZ{n:Nat}{R:Nat→Bool}(h:∀a,a<n→R a=false):(List.range n).any R=false:=by
 rw[gV];intro a ha;rw[h a (eC.1 ha)];simp
theorem mX{n j:Nat}{R:Nat→Bool}(hj:j<n)(h:R j=true):(List.range n).any R=true:=pK.2 ⟨j,eC.2 hj,h⟩
def C2(u:LSub)(k:LTerm):Option LTerm:=if k.kind=6 then mOf u k.text else some k
def wV(u:LSub)(k key:LTerm):Bool:=match C2 u k with
 |some o => !decide (o=key)
 |none=>false
theorem bNl(s:dK)(u:LSub)(p q:LTerm)(tk:List Bool)(i:Nat)(f:Nat)(fi ca:List AV)(r:Bool)(hf:persL fi=true)(hc:persL ca=true)(hi:i=p.kids.length)(c:CT 203 [.agg [bQ s],tmA u,elT p,elT q,.sl (tk.map .b) tk.length,.fn f fi ca] (.b r)): CT 135 [.agg [bQ s],tmA u,elT p,elT q,.sl (tk.map .b) tk.length,.i .i64 (i:Nat),.fn f fi ca] (.b r):=by
 refine dO dE Tryz.func135 g0 ?_
 ·simp -implicitDefEqProofs (disch:=omega) only[Tryz.f135,go_sem,List.replicate,simprocAttr,tmA,elT,aL];simp only[tmA]at c;have hii:decide (((i:Nat):Int)=((p.kids.length:Nat):Int))=true:=zt (by omega);refine zh hii ?_;refine bJ c ?_ ?_
  ·simp -implicitDefEqProofs (disch:=omega) only[hf,hc,gS,cX,elT,aL,bQ,avt,xC,go_sem,simprocAttr]
  refine zg ?_;exact bR rfl rfl
theorem bTk(s : dK)(u:LSub)(p q:LTerm)(tk:List Bool)(i:Nat)(f:Nat)(fi ca:List AV)(R:Nat→Bool)(hf:persL fi=true)(hc:persL ca=true)(hu:∀x∈u,OkT x.2)(op:OkT p)(oq:OkT q)(hi:i<p.kids.length)(hpl:p.kids.length≤1000000)(htk:tk.length=q.kids.length / 2)(hev:q.kids.length % 2=0)(hql:q.kids.length≤1000000)(h0:∀j,j<tk.length→(tk.getD j false||wV u (p.kids.getD i default) (q.kids.getD (2*j) default))=true→R j=false)(h1:∀j,j<tk.length→(tk.getD j false||wV u (p.kids.getD i default) (q.kids.getD (2*j) default))=false→CT 74 [.agg [bQ s],tmA u,elT (p.kids.getD i default),elT (q.kids.getD (2*j) default),.fn 205 [] [.box [bQ s] 0,.box (tmC p) 0,.box [.i .i64 (i:Nat)] 0,.box (tmC q) 0,.box [.i .i64 (j:Nat)] 0,.box [.sl ((tk.set j true).map .b) tk.length] 0,.box [.fn f fi ca] 0]] (.b (R j))): CT 135 [.agg [bQ s],tmA u,elT p,elT q,.sl (tk.map .b) tk.length,.i .i64 (i:Nat),.fn f fi ca] (.b ((List.range tk.length).any R)):=by
 refine dO dE Tryz.func135 g0 ?_
 ·simp -implicitDefEqProofs (disch:=omega) only[Tryz.f135,go_sem,List.replicate,simprocAttr,tmA,elT,aL];have hii:decide (((i:Nat):Int)=((p.kids.length:Nat):Int))=false:=zf (by omega);have ok:=op.kid _ (cS (d:=default) hi);simp only[tmA]at h1;by_cases h6:(p.kids.getD i default).kind=6
  ·cases ho:mOf u (p.kids.getD i default).text with
   |none=>
    have k1:=sY ho;simp -implicitDefEqProofs (disch:=omega) only[hii,zt h6,aA,jM,xR,k1,go_sem,simprocAttr];repeat refine bE (by omega) ?_
    refine dV (fun(v:Nat×List AObj)=>(rp 14 .k (.j::.k::.k::.k::.j::.j::.j::.j::(rp 30 .k (.v (.i .i64 (v.1:Nat))::(rp 34 .j [])))))) (fun v=>(.box false [bQ s]::.box false (tmC p)::.box false (tmC q)::.box false [.i .i64 (i:Nat)]::.box false [.fn f fi ca]::.box false (tmC ((p.kids.getD i default)))::.box false ([.i .i64 0,.i .i64 0,.s [],.s [],.e0,.e0])::v.2)) (fun v=>v.1≤tk.length∧∀a,a<v.1→R a=false) (fun v=>tk.length-v.1) ((0,[])) ⟨bX _,fun a h=>absurd h (aIz a)⟩ rfl (by simp[iS]) ?_;rintro⟨j,g⟩ jj ⟨hj,hR⟩;dsimp only at hj hR;by_cases hjt:j<tk.length
    ·have hji:decide ((j:Int)<((tk.length:Nat):Int))=true:=zt (by omega);have h2e:((2:Int)*(j:Int)).toNat=2*j:=by omega
     have hsk:wV u (p.kids.getD i default) (q.kids.getD (2*j) default)=false:=by rw[wV,C2,if_pos h6,ho]
     cases hx:tk.getD j false with
     |true=>
      have hr:=h0 j hjt (by rw[hx];rfl);refine zh (zA2 hji (zA2 hx h2e)) ?_;repeat refine bE (by omega) ?_
      refine⟨(j+1,_),⟨by dsimp only;omega,fun a ha=>?_⟩,by dsimp only;omega,rfl,by simp⟩;rcases fP a j with h|h
      ·exact hR a h
      ·obtain rfl:a=j:=by dsimp only at ha;omega
       exact hr
     |false=>
      have cj:=h1 j hjt (by rw[hx,hsk];rfl);simp -implicitDefEqProofs (disch:=omega) only[hji,hx,h2e,aB,go_sem,simprocAttr];repeat refine bE (by omega) ?_
      refine bJ (V0 tk (by omega)) ?_ ?_
      ·exact zu
      refine zg ?_;repeat refine bE (by omega) ?_
      rw[pW hjt];have hsl:(tk.length≤(tk.set j true).length)=True:=eq_true (by simp);have hst:(tk.set j true).take tk.length=tk.set j true:=bB (by simp);refine bJ cj ?_ ?_
      ·simp -implicitDefEqProofs (disch:=omega) only[hf,hc,gS,cX,elT,aL,bQ,avt,xC,hsl,hst,go_sem,simprocAttr]
      refine zg ?_;cases hr:R j with
      |true=>
       refine zh hr ?_;exact bR (by rw[mX hjt hr]) rfl
      |false=>
       refine zh hr ?_;refine⟨(j+1,_),⟨by dsimp only;omega,fun a ha=>?_⟩,by dsimp only;omega,rfl,by simp⟩;rcases fP a j with h|h
       ·exact hR a h
       ·obtain rfl:a=j:=by dsimp only at ha;omega
        exact hr
    ·have hji:decide ((j:Int)<((tk.length:Nat):Int))=false:=zf (by omega);obtain rfl:j=tk.length:=by omega
     refine zh hji ?_;exact bR (by rw[lZ hR]) rfl
   |some bo =>
    have obo:=aTp hu ho;have hbo:C2 u (p.kids.getD i default)=some bo:=by rw[C2,if_pos h6,ho]
    obtain⟨j1,k1,k2⟩:=sX ho;simp -implicitDefEqProofs (disch:=omega) only[hii,zt h6,aA,jM,xR,k1,k2,go_sem,simprocAttr];repeat refine bE (by omega) ?_
    refine dV (fun(v:Nat×List AObj)=>(rp 14 .k (.j::.k::.k::.k::.j::.j::.j::.j::(rp 30 .k (.v (.i .i64 (v.1:Nat))::(rp 34 .j [])))))) (fun v=>(.box false [bQ s]::.box false (tmC p)::.box false (tmC q)::.box false [.i .i64 (i:Nat)]::.box false [.fn f fi ca]::.box false (tmC ((p.kids.getD i default)))::.box false ((tmC bo))::v.2)) (fun v=>v.1≤tk.length∧∀a,a<v.1→R a=false) (fun v=>tk.length-v.1) ((0,[])) ⟨bX _,fun a h=>absurd h (aIz a)⟩ rfl (by simp[iS]) ?_;rintro⟨j,g⟩ jj ⟨hj,hR⟩;dsimp only at hj hR;by_cases hjt:j<tk.length
    ·have hji:decide ((j:Int)<((tk.length:Nat):Int))=true:=zt (by omega);have h2e:((2:Int)*(j:Int)).toNat=2*j:=by omega
     have hk:=hql;have oqk:=oq.kid _ (cS (d:=default) (show 2*j<q.kids.length by omega));have hsk:wV u (p.kids.getD i default) (q.kids.getD (2*j) default) = !decide (bo=q.kids.getD (2*j) default):=by rw[wV,hbo]
     have c5:=M8 bo (q.kids.getD (2*j) default) obo oqk;cases hx:tk.getD j false with
     |true=>
      have hr:=h0 j hjt (by rw[hx];rfl);refine zh (zA2 hji (zA2 hx h2e)) ?_;repeat refine bE (by omega) ?_
      refine⟨(j+1,_),⟨by dsimp only;omega,fun a ha=>?_⟩,by dsimp only;omega,rfl,by simp⟩;rcases fP a j with h|h
      ·exact hR a h
      ·obtain rfl:a=j:=by dsimp only at ha;omega
       exact hr
     |false =>
      simp -implicitDefEqProofs (disch:=omega) only[hji,hx,h2e,aB,go_sem,simprocAttr];repeat refine bE (by omega) ?_
      refine bJ c5 ?_ ?_
      ·exact zv (zA2 @elT.eq_1 @aL)
      by_cases hoq:bo=q.kids.getD (2*j) default
      ·have cj:=h1 j hjt (by rw[hx,hsk,zt hoq];rfl);simp -implicitDefEqProofs (disch:=omega) only[zt hoq,aA,go_sem,simprocAttr];refine bJ (V0 tk (by omega)) ?_ ?_
       ·exact zu
       refine zg ?_;repeat refine bE (by omega) ?_
       rw[pW hjt];have hsl:(tk.length≤(tk.set j true).length)=True:=eq_true (by simp);have hst:(tk.set j true).take tk.length=tk.set j true:=bB (by simp);refine bJ cj ?_ ?_
       ·simp -implicitDefEqProofs (disch:=omega) only[hf,hc,gS,cX,elT,aL,bQ,avt,xC,hsl,hst,go_sem,simprocAttr]
       refine zg ?_;cases hr:R j with
       |true=>
        refine zh hr ?_;exact bR (by rw[mX hjt hr]) rfl
       |false=>
        refine zh hr ?_;refine⟨(j+1,_),⟨by dsimp only;omega,fun a ha=>?_⟩,by dsimp only;omega,rfl,by simp⟩;rcases fP a j with h|h
        ·exact hR a h
        ·obtain rfl:a=j:=by dsimp only at ha;omega
         exact hr
      ·have hr:=h0 j hjt (by rw[hx,hsk,zf hoq];rfl);simp -implicitDefEqProofs (disch:=omega) only[zf hoq,aB,go_sem,simprocAttr];refine⟨(j+1,_),⟨by dsimp only;omega,fun a ha=>?_⟩,by dsimp only;omega,rfl,by simp⟩;rcases fP a j with h|h
       ·exact hR a h
       ·obtain rfl:a=j:=by dsimp only at ha;omega
        exact hr
    ·have hji:decide ((j:Int)<((tk.length:Nat):Int))=false:=zf (by omega);obtain rfl:j=tk.length:=by omega
     refine zh hji ?_;exact bR (by rw[lZ hR]) rfl
  ·have hbo:C2 u (p.kids.getD i default)=some (p.kids.getD i default):=by rw[C2,if_neg h6]
   obtain⟨bo,hbe⟩:∃b,b=p.kids.getD i default:=⟨_,rfl⟩;have obo:OkT bo:=hbe▸ok;have hbo:C2 u (p.kids.getD i default)=some bo:=by rw[hbo,hbe]
   cases ho:mOf u (p.kids.getD i default).text with
   |none=>
    have k1:=sY ho;simp -implicitDefEqProofs (disch:=omega) only[hii,zf h6,aB,jM,xR,k1,go_sem,simprocAttr];repeat refine bE (by omega) ?_
    refine dV (fun(v:Nat×List AObj)=>(rp 14 .k (.j::.k::.k::.k::.j::.j::.j::.j::(rp 30 .k (.v (.i .i64 (v.1:Nat))::(rp 34 .j [])))))) (fun v=>(.box false [bQ s]::.box false (tmC p)::.box false (tmC q)::.box false [.i .i64 (i:Nat)]::.box false [.fn f fi ca]::.box false (tmC ((p.kids.getD i default)))::.box false (tmC ((p.kids.getD i default)))::v.2)) (fun v=>v.1≤tk.length∧∀a,a<v.1→R a=false) (fun v=>tk.length-v.1) ((0,[])) ⟨bX _,fun a h=>absurd h (aIz a)⟩ rfl (by simp[iS]) ?_;rintro⟨j,g⟩ jj ⟨hj,hR⟩;dsimp only at hj hR;by_cases hjt:j<tk.length
    ·have hji:decide ((j:Int)<((tk.length:Nat):Int))=true:=zt (by omega);have h2e:((2:Int)*(j:Int)).toNat=2*j:=by omega
     have hk:=hql;have oqk:=oq.kid _ (cS (d:=default) (show 2*j<q.kids.length by omega));have hsk:wV u (p.kids.getD i default) (q.kids.getD (2*j) default) = !decide (bo=q.kids.getD (2*j) default):=by rw[wV,hbo]
     have c5:=M8 bo (q.kids.getD (2*j) default) obo oqk;cases hx:tk.getD j false with
     |true=>
      have hr:=h0 j hjt (by rw[hx];rfl);refine zh (zA2 hji (zA2 hx h2e)) ?_;repeat refine bE (by omega) ?_
      refine⟨(j+1,_),⟨by dsimp only;omega,fun a ha=>?_⟩,by dsimp only;omega,rfl,by simp⟩;rcases fP a j with h|h
      ·exact hR a h
      ·obtain rfl:a=j:=by dsimp only at ha;omega
       exact hr
     |false =>
      simp -implicitDefEqProofs (disch:=omega) only[hji,hx,h2e,aB,go_sem,simprocAttr];repeat refine bE (by omega) ?_
      refine bJ c5 ?_ ?_
      ·exact zv (zA2 @elT.eq_1 (zA2 @aL hbe))
      by_cases hoq:bo=q.kids.getD (2*j) default
      ·have cj:=h1 j hjt (by rw[hx,hsk,zt hoq];rfl);simp -implicitDefEqProofs (disch:=omega) only[zt hoq,aA,go_sem,simprocAttr];refine bJ (V0 tk (by omega)) ?_ ?_
       ·exact zu
       refine zg ?_;repeat refine bE (by omega) ?_
       rw[pW hjt];have hsl:(tk.length≤(tk.set j true).length)=True:=eq_true (by simp);have hst:(tk.set j true).take tk.length=tk.set j true:=bB (by simp);refine bJ cj ?_ ?_
       ·simp -implicitDefEqProofs (disch:=omega) only[hf,hc,gS,cX,elT,aL,bQ,avt,xC,hsl,hst,go_sem,simprocAttr]
       refine zg ?_;cases hr:R j with
       |true=>
        refine zh hr ?_;exact bR (by rw[mX hjt hr]) rfl
       |false=>
        refine zh hr ?_;refine⟨(j+1,_),⟨by dsimp only;omega,fun a ha=>?_⟩,by dsimp only;omega,rfl,by simp⟩;rcases fP a j with h|h
        ·exact hR a h
        ·obtain rfl:a=j:=by dsimp only at ha;omega
         exact hr
      ·have hr:=h0 j hjt (by rw[hx,hsk,zf hoq];rfl);simp -implicitDefEqProofs (disch:=omega) only[zf hoq,aB,go_sem,simprocAttr];refine⟨(j+1,_),⟨by dsimp only;omega,fun a ha=>?_⟩,by dsimp only;omega,rfl,by simp⟩;rcases fP a j with h|h
       ·exact hR a h
       ·obtain rfl:a=j:=by dsimp only at ha;omega
        exact hr
    ·have hji:decide ((j:Int)<((tk.length:Nat):Int))=false:=zf (by omega);obtain rfl:j=tk.length:=by omega
     refine zh hji ?_;exact bR (by rw[lZ hR]) rfl
   |some o1 =>
    obtain⟨j1,k1,k2⟩:=sX ho;simp -implicitDefEqProofs (disch:=omega) only[hii,zf h6,aB,jM,xR,k1,k2,go_sem,simprocAttr];repeat refine bE (by omega) ?_
    refine dV (fun(v:Nat×List AObj)=>(rp 14 .k (.j::.k::.k::.k::.j::.j::.j::.j::(rp 30 .k (.v (.i .i64 (v.1:Nat))::(rp 34 .j [])))))) (fun v=>(.box false [bQ s]::.box false (tmC p)::.box false (tmC q)::.box false [.i .i64 (i:Nat)]::.box false [.fn f fi ca]::.box false (tmC ((p.kids.getD i default)))::.box false (tmC ((p.kids.getD i default)))::v.2)) (fun v=>v.1≤tk.length∧∀a,a<v.1→R a=false) (fun v=>tk.length-v.1) ((0,[])) ⟨bX _,fun a h=>absurd h (aIz a)⟩ rfl (by simp[iS]) ?_;rintro⟨j,g⟩ jj ⟨hj,hR⟩;dsimp only at hj hR;by_cases hjt:j<tk.length
    ·have hji:decide ((j:Int)<((tk.length:Nat):Int))=true:=zt (by omega);have h2e:((2:Int)*(j:Int)).toNat=2*j:=by omega
     have hk:=hql;have oqk:=oq.kid _ (cS (d:=default) (show 2*j<q.kids.length by omega));have hsk:wV u (p.kids.getD i default) (q.kids.getD (2*j) default) = !decide (bo=q.kids.getD (2*j) default):=by rw[wV,hbo]
     have c5:=M8 bo (q.kids.getD (2*j) default) obo oqk;cases hx:tk.getD j false with
     |true=>
      have hr:=h0 j hjt (by rw[hx];rfl);refine zh (zA2 hji (zA2 hx h2e)) ?_;repeat refine bE (by omega) ?_
      refine⟨(j+1,_),⟨by dsimp only;omega,fun a ha=>?_⟩,by dsimp only;omega,rfl,by simp⟩;rcases fP a j with h|h
      ·exact hR a h
      ·obtain rfl:a=j:=by dsimp only at ha;omega
       exact hr
     |false =>
      simp -implicitDefEqProofs (disch:=omega) only[hji,hx,h2e,aB,go_sem,simprocAttr];repeat refine bE (by omega) ?_
      refine bJ c5 ?_ ?_
      ·exact zv (zA2 @elT.eq_1 (zA2 @aL hbe))
      by_cases hoq:bo=q.kids.getD (2*j) default
      ·have cj:=h1 j hjt (by rw[hx,hsk,zt hoq];rfl);simp -implicitDefEqProofs (disch:=omega) only[zt hoq,aA,go_sem,simprocAttr];refine bJ (V0 tk (by omega)) ?_ ?_
       ·exact zu
       refine zg ?_;repeat refine bE (by omega) ?_
       rw[pW hjt];have hsl:(tk.length≤(tk.set j true).length)=True:=eq_true (by simp);have hst:(tk.set j true).take tk.length=tk.set j true:=bB (by simp);refine bJ cj ?_ ?_
       ·simp -implicitDefEqProofs (disch:=omega) only[hf,hc,gS,cX,elT,aL,bQ,avt,xC,hsl,hst,go_sem,simprocAttr]
       refine zg ?_;cases hr:R j with
       |true=>
        refine zh hr ?_;exact bR (by rw[mX hjt hr]) rfl
       |false=>
        refine zh hr ?_;refine⟨(j+1,_),⟨by dsimp only;omega,fun a ha=>?_⟩,by dsimp only;omega,rfl,by simp⟩;rcases fP a j with h|h
        ·exact hR a h
        ·obtain rfl:a=j:=by dsimp only at ha;omega
         exact hr
      ·have hr:=h0 j hjt (by rw[hx,hsk,zf hoq];rfl);simp -implicitDefEqProofs (disch:=omega) only[zf hoq,aB,go_sem,simprocAttr];refine⟨(j+1,_),⟨by dsimp only;omega,fun a ha=>?_⟩,by dsimp only;omega,rfl,by simp⟩;rcases fP a j with h|h
       ·exact hR a h
       ·obtain rfl:a=j:=by dsimp only at ha;omega
        exact hr
    ·have hji:decide ((j:Int)<((tk.length:Nat):Int))=false:=zf (by omega);obtain rfl:j=tk.length:=by omega
     refine zh hji ?_;exact bR (by rw[lZ hR]) rfl
abbrev CF:=LSub→LTerm→LTerm→List LSub
def M9(C:CF):LSub→List LTerm→List LTerm→List LSub
 |u,[],_=>[u]
 |u,p::ps,q::qs=>(C u p q).flatMap fun v=>M9 C v ps qs
 |_,_::_,[]=>[]
def aWg(s:dK)(v:LSub)(p q:LTerm):List LSub:=if p.rest.length=0 then [v]else(G5 s v (p.rest.getD 0 default) (oI (uV (q.kids.drop p.kids.length) q.rest))).toList
def wB(s:dK)(u:LSub)(p q:LTerm)(tk:List Bool):List LSub:=
 if p.rest.length=0 then(if(leftOf q.kids tk).length=0∧q.rest.length=0 then [u]else [])else(G5 s u (p.rest.getD 0 default) (oI (aHl (leftOf q.kids tk) q.rest))).toList
def Q5(C:CF)(s:dK)(p q:LTerm):Nat→LSub→List Bool→List LSub
 |0,u,tk=>wB s u p q tk
 |m + 1,u,tk=>(List.range tk.length).flatMap fun j=>if(tk.getD j false||wV u (p.kids.getD (p.kids.length-2*(m+1)) default) (q.kids.getD (2*j) default))=true then []else
    (C u (p.kids.getD (p.kids.length-2*(m+1)) default) (q.kids.getD (2*j) default)).flatMap fun a=>(C a (p.kids.getD (p.kids.length-2*(m+1)+1) default) (q.kids.getD (2*j+1) default)).flatMap fun b=>Q5 C s p q m b (tk.set j true)
def oF(s:dK):Nat→CF
 |0,_,_,_=>[]
 |n + 1,u,p,q=>if p.kind=6 then(G5 s u p q).toList
  else if p.kind=q.kind∧p.n=q.n∧p.text=q.text then(
   if p.kind=8 then Q5 (oF s n) s p q (p.kids.length / 2) u (List.replicate (q.kids.length / 2) false)
   else if q.kids.length<p.kids.length∨(p.rest.length=0∧¬(p.kids.length=q.kids.length∧q.rest.length=0))then []
   else(M9 (oF s n) u p.kids (q.kids.take p.kids.length)).flatMap fun v=>aWg s v p q)
  else []
def O7(u:LSub):Prop:=∀x∈u,OkT x.2
def aFr(l:List LSub):Prop:=∀u∈l,O7 u
theorem aGb{s:dK}{u:LSub}{p q:LTerm}(hu:O7 u)(hq:OkT q):aFr (G5 s u p q).toList:=by
 intro v hv;rw[G5]at hv;split at hv
 ·split at hv
  ·simp at hv;exact hv▸hu
  ·split at hv
   ·split at hv
    ·simp at hv;exact hv▸hu
    ·simp at hv
   ·simp at hv;rw[hv];intro x hx;rcases cQ.1 hx with hx|hx
    ·exact hu x hx
    ·rw[aP.1 hx];exact hq
 ·simp at hv
theorem aKe{k:Int}{ks rs:List LTerm}(hk:0≤k∧k≤100)(h:∀t∈ks,OkT t)(hr:∀t∈rs,OkT t)(hl:ks.length≤1466015503701)(hl2:rs.length≤1466015503701):OkT (.mk k 0 [] [] ks rs):=
 .mk (by simp[LTerm.text]) (by simp[LTerm.sort]) (by simp[LTerm.n]) (by simp[LTerm.n]) hl hl2 h hr
theorem aJs{t:LTerm}(h:OkT t):OkT (oI t):=by
 rw[oI];split
 ·rename_i hh;exact h.rst _ (cS hh.2)
 ·exact h
theorem zC:∀{ks:List LTerm} {tk:List Bool} {x:LTerm},x∈leftOf ks tk→x∈ks
 |a :: b::l,c::tk,x,h=>by
  rw[leftOf]at h;split at h
  ·exact bU _ (bU _ (zC h))
  ·rcases dA.1 h with rfl|h
   ·exact dC
   ·rcases dA.1 h with rfl|h
    ·exact bU _ dC
    ·exact bU _ (bU _ (zC h))
 | [],_,_,h=>by cases h
 | [_],_,_,h=>by cases h
 |_::_::_,[],_,h=>by cases h
theorem okL{q:LTerm}{n:Nat}(h:OkT q):OkT (oI (uV (q.kids.drop n) q.rest)):=
 aJs (aKe (by omega) (fun t ht=>h.kid t (gK ht)) h.rst (by have:=h.kids;rw[dS];omega) h.rest)
theorem okM{q:LTerm}{tk:List Bool}(h:OkT q):OkT (oI (aHl (leftOf q.kids tk) q.rest)):=
 aJs (aKe (by omega) (fun t ht=>h.kid t (zC ht)) h.rst (by have:=h.kids;have:=qG (ks:=q.kids) (tk:=tk);omega) h.rest)
def evB(t:LTerm):Bool := !decide (t.kind=8)||decide (t.kids.length % 2=0)
structure QOk(q:LTerm):Prop where
 ok:OkT q
 sz:nodesT q≤1000000
 ev:wfT evB q=true
theorem QOk.kid{q k:LTerm}(h:QOk q)(hk:k∈q.kids):QOk k:=
 ⟨h.ok.kid k hk,by have:=(iI hk).1;have:=eW q;have:=h.sz;omega,(eN.1 h.ev).2 k hk⟩
theorem QOk.even{q:LTerm}(h:QOk q)(h8:q.kind=8):q.kids.length % 2=0:=by
 have:=(eN.1 h.ev).1;rw[evB,zt h8]at this;simpa using this
theorem QOk.kl{q:LTerm}(h:QOk q):q.kids.length≤1000000:=by have:=lO q.kids;have:=eW q;have:=h.sz;omega
theorem QOk.rl{q:LTerm}(h:QOk q):q.rest.length≤1000000:=by have:=eW q;have:=h.sz;omega
def COk(C:CF)(p:LTerm):Prop:=∀u q,O7 u→QOk q→aFr (C u p q)
theorem aAn{C:CF}:∀{ps qs:List LTerm} {u:LSub},(∀p∈ps,COk C p)→(∀q∈qs,QOk q)→O7 u→aFr (M9 C u ps qs)
 | [],_,u,_,_,hu=>fun v hv=>by rw[M9,aP]at hv;exact hv▸hu
 |p::ps,q::qs,u,hC,hq,hu=>fun v hv=>by
  rw[M9]at hv;obtain⟨a,ha,hv⟩:=cH.1 hv;exact aAn (fun p' hp=>hC p' (bU _ hp)) (fun q' hq'=>hq q' (bU _ hq')) (hC p dC u q hu (hq q dC) a ha) v hv
 |_::_,[],_,_,_,_=>fun v hv=>by rw[M9]at hv;cases hv
theorem aLp{C:CF}{s:dK}{p q:LTerm}(hC:∀p'∈p.kids,COk C p')(hev:p.kids.length % 2=0)(heq:q.kids.length % 2=0)(hq:QOk q):∀{m:Nat} {u:LSub} {tk:List Bool},2*m≤p.kids.length→tk.length=q.kids.length / 2→O7 u→aFr (Q5 C s p q m u tk)
 |0,u,tk,_,_,hu=>fun v hv=>by
  rw[Q5,wB]at hv;split at hv
  ·split at hv
   ·rw[aP]at hv;exact hv▸hu
   ·cases hv
  ·exact aGb hu (okM hq.ok) v hv
 |m+1,u,tk,hm,htk,hu=>fun v hv=>by
  rw[Q5]at hv;obtain⟨j,hj,hv⟩:=cH.1 hv;have hj:=eC.1 hj;split at hv
  ·cases hv
  obtain⟨a,ha,hv⟩:=cH.1 hv;obtain⟨b,hb,hv⟩:=cH.1 hv;have ha':=hC _ (cS (by omega)) u _ hu (hq.kid (cS (by omega))) a ha;have hb':=hC _ (cS (by omega)) a _ ha' (hq.kid (cS (by omega))) b hb;exact aLp hC hev heq hq (by omega) (by simpa using htk) hb' v hv
theorem aAm{s:dK}:∀(n:Nat) (p:LTerm),OkN p→∀(u:LSub) (q:LTerm),O7 u→QOk q→aFr (oF s n u p q):=by
 intro n;induction n with
 |zero=>intro p _ u q _ _ v hv;cases hv
 |succ n ih=>
  intro p hp u q hu hq;rw[oF];split
  ·exact aGb hu hq.ok
  ·split
   ·rename_i h6 he;split
    ·rename_i h8;have hqe:=hq.even (he.1▸h8);exact aLp (fun p' hp' u' q' hu' hq'=>ih p' (hp.kid hp') u' q' hu' hq') (hp.even h8) hqe hq (by have:=hp.even h8;omega) (by simp) hu
    ·split
     ·intro v hv;cases hv
     ·intro v hv;obtain⟨a,ha,hv⟩:=cH.1 hv;have hua:=aAn (fun p' hp' u' q' hu' hq'=>ih p' (hp.kid hp') u' q' hu' hq') (fun q' hq'=>hq.kid (dI hq')) hu a ha;rw[aWg]at hv;split at hv
      ·rw[aP]at hv;exact hv▸hua
      ·exact aGb hua (okL hq.ok) v hv
   ·intro v hv;cases hv
def YOk(f:Nat)(fi ca:List AV)(B:LSub→Bool)(l:List LSub):Prop:=persL fi=true∧persL ca=true∧∀v∈l,CT f (fi++tmA v::ca) (.b (B v))
def bXn(s:dK)(n:Nat)(p:LTerm):Prop:=
 ∀(u:LSub) (q:LTerm) (f:Nat) (fi ca:List AV) (B:LSub→Bool),O7 u→QOk q→YOk f fi ca B (oF s n u p q) →
  CT 74 [.agg [bQ s],tmA u,elT p,elT q,.fn f fi ca] (.b ((oF s n u p q).any B))
theorem bXx{s:dK}{u:LSub}{p q:LTerm}{f:Nat}{fi ca:List AV}{B:LSub→Bool}(hm:Small s)(hu:O7 u)(op:OkT p)(oq:OkT q)(hY:YOk f fi ca B (G5 s u p q).toList) :
 CT 134 [.agg [bQ s],tmA u,elT p,elT q,.fn f fi ca] (.b ((G5 s u p q).toList.any B)):=by
 have c:=bHi s u p q f fi ca B hm hu op oq hY.1 hY.2.1 (fun v hv=>hY.2.2 v (by rw[hv];simp));have e:bXc (G5 s u p q) B=(G5 s u p q).toList.any B:=by cases G5 s u p q<;>simp[bXc]
 exact e▸c
theorem aGw(t:LTerm):pers (.box (tmC t) 0)=true:=by have:=rW t;rwa[aL]at this
theorem Y2{s:dK}:pers (.box [bQ s] 0)=true:=by have:=oJ (s:=s);simp only[pers,persL,bQ]at this ⊢;rw[this];rfl
theorem aSh{l:List Bool}{n:Nat}:pers (.box [.sl (l.map .b) n] 0)=true:=by rw[pers,persL,pers,xC];rfl
theorem aSg{n:Int}:pers (.box [.i .i64 n] 0)=true:=rfl
theorem aJz{f:Nat}{fi ca:List AV}(hf:persL fi=true)(hc:persL ca=true):pers (.box [.fn f fi ca] 0)=true:=by rw[pers,persL,pers,hf,hc];rfl
theorem bRg{l:List LTerm}:pers (.box [avt l] 0)=true:=by rw[pers,persL,avt,pers,gW];rfl
theorem bSb{s:dK}{n:Nat}(hm:Small s):∀(ps qs:List LTerm) (u:LSub) (f:Nat) (fi ca:List AV) (B:LSub→Bool),(∀p∈ps,bXn s n p∧OkN p)→(∀q∈qs,QOk q)→ps.length≤qs.length→O7 u→YOk f fi ca B (M9 (oF s n) u ps qs) →
 CT 136 [.agg [bQ s],tmA u,avt ps,avt qs,.fn f fi ca] (.b ((M9 (oF s n) u ps qs).any B))
 | [],qs,u,f,fi,ca,B,_,_,_,_,hY=>by
   have c:=bNj s u qs f fi ca (B u) hY.1 hY.2.1 (hY.2.2 u (by rw[M9];exact aP.2 rfl));rw[M9,fD,gE,aK];exact c
 |p::ps,q::qs,u,f,fi,ca,B,hC,hq,hl,hu,hY=>by
  have hp:=hC p dC;have hqq:=hq q dC;rw[M9,wG];refine bNk s u (p::ps) (q::qs) f fi ca _ hY.1 hY.2.1 (by simp) (by simp) (hp.1 u q _ _ _ (fun v=>(M9 (oF s n) v ps qs).any B) hu hqq ⟨rfl,?_,fun v hv=>?_⟩)
  ·simp only[persL,Y2,bRg,aJz hY.1 hY.2.1,cX]
  ·exact bTe s v (p::ps) (q::qs) f fi ca _ hY.1 hY.2.1 (by simp) (by simp) (bSb hm ps qs v f fi ca B (fun p' hp'=>hC p' (bU _ hp')) (fun q' hq'=>hq q' (bU _ hq')) (by simpa using hl) (aAm n p hp.2 u q hu hqq v hv) ⟨hY.1,hY.2.1,fun w hw=>hY.2.2 w (by rw[M9];exact cH.2 ⟨v,hv,hw⟩)⟩)
 |_::_,[],_,_,_,_,_,_,_,hl,_,_=>by simp at hl
theorem bZc{s:dK}{u:LSub}{p q:LTerm}{tk:List Bool}{f:Nat}{fi ca:List AV}{B:LSub→Bool}(hm:Small s)(hu:O7 u)(op:OkT p)(hq:QOk q)(h8:q.kind=8)(htk:tk.length=q.kids.length / 2)(hY:YOk f fi ca B (wB s u p q tk)) :
 CT 203 [.agg [bQ s],tmA u,elT p,elT q,.sl (tk.map .b) tk.length,.fn f fi ca] (.b ((wB s u p q tk).any B)):=by
 rw[wB]at hY ⊢;refine bTh s u p q tk f fi ca _ hY.1 hY.2.1 htk (hq.even h8) hq.kl hq.rl (fun h1 h2 h3=>?_) (fun h1 h2=>?_) (fun h1=>?_)
 ·rw[if_pos h1,if_pos ⟨h2,h3⟩]at hY ⊢;rw[fD,gE,aK];exact hY.2.2 u (aP.2 rfl)
 ·rw[if_pos h1,if_neg h2];rfl
 ·rw[if_neg (by omega)]at hY ⊢;exact bXx hm hu (op.rst _ (cS h1)) (okM hq.ok) hY
theorem cDb{s:dK}{n:Nat}{p q:LTerm}(hm:Small s)(hp:OkN p)(h8:p.kind=8)(hpl:p.kids.length≤1000000)(hq:QOk q)(hq8:q.kind=8)(hC:∀p'∈p.kids,bXn s n p'):∀(m:Nat) (u:LSub) (tk:List Bool) (f:Nat) (fi ca:List AV) (B:LSub→Bool),2*m≤p.kids.length→tk.length=q.kids.length / 2→O7 u→YOk f fi ca B (Q5 (oF s n) s p q m u tk) →
 CT 135 [.agg [bQ s],tmA u,elT p,elT q,.sl (tk.map .b) tk.length,.i .i64 ((p.kids.length-2*m:Nat):Int),.fn f fi ca] (.b ((Q5 (oF s n) s p q m u tk).any B))
 |0,u,tk,f,fi,ca,B,_,htk,hu,hY=>bNl s u p q tk _ f fi ca _ hY.1 hY.2.1 (by omega) (bZc hm hu hp.1 hq hq8 htk hY)
 |m + 1,u,tk,f,fi,ca,B,hml,htk,hu,hY=>by
  have hev:=hp.even h8;have hqe:=hq.even hq8;have hi:p.kids.length-2*(m+1)<p.kids.length:=by omega
  rw[Q5,wG];generalize hR:(fun j=>List.any (if(tk.getD j false||wV u (p.kids.getD (p.kids.length-2*(m+1)) default) (q.kids.getD (2*j) default))=true then []else(oF s n u (p.kids.getD (p.kids.length-2*(m+1)) default) (q.kids.getD (2*j) default)).flatMap fun a=>(oF s n a (p.kids.getD (p.kids.length-2*(m+1)+1) default) (q.kids.getD (2*j+1) default)).flatMap fun b=>Q5 (oF s n) s p q m b (tk.set j true)) B)=R;refine bTk s u p q tk _ f fi ca R hY.1 hY.2.1 hu hp.1 hq.ok hi hpl htk hqe hq.kl (fun j hj h=>?_) (fun j hj h=>?_)
  ·rw[← hR];dsimp only;rw[if_pos h];rfl
  ·have e:R j=(oF s n u (p.kids.getD (p.kids.length-2*(m+1)) default) (q.kids.getD (2*j) default)).any fun a=>(oF s n a (p.kids.getD (p.kids.length-2*(m+1)+1) default) (q.kids.getD (2*j+1) default)).any fun b=>(Q5 (oF s n) s p q m b (tk.set j true)).any B:=by
    rw[← hR];dsimp only;rw[if_neg (by rw[h];simp),wG];congr 1;funext a;rw[wG]
   have hk:=cS (d:=default) hi;have hv:=cS (l:=p.kids) (d:=default) (show p.kids.length-2*(m+1)+1<p.kids.length by omega);have hqk:=hq.kid (cS (l:=q.kids) (d:=default) (show 2*j<q.kids.length by omega));have hqv:=hq.kid (cS (l:=q.kids) (d:=default) (show 2*j+1<q.kids.length by omega));rw[e];refine hC _ hk u _ _ _ _ (fun a=>(oF s n a (p.kids.getD (p.kids.length-2*(m+1)+1) default) (q.kids.getD (2*j+1) default)).any fun b=>(Q5 (oF s n) s p q m b (tk.set j true)).any B) hu hqk ⟨rfl,?_,fun a ha=>?_⟩
   ·simp only[persL,Y2,aGw,aSg,aSh,aJz hY.1 hY.2.1,cX]
   have hua:=aAm n _ (hp.kid hk) u _ hu hqk a ha;have c1:=hC _ hv a (q.kids.getD (2*j+1) default) 206 [] [.box [bQ s] 0,.box (tmC p) 0,.box (tmC q) 0,.box [.sl ((tk.set j true).map .b) (tk.set j true).length] 0,.box [.i .i64 ((p.kids.length-2*(m+1):Nat):Int)] 0,.box [.fn f fi ca] 0] (fun b=>(Q5 (oF s n) s p q m b (tk.set j true)).any B) hua hqv ⟨rfl,?_,fun b hb=>?_⟩
   ·have:=bTg s a p q (tk.set j true) (p.kids.length-2*(m+1)) j f fi ca _ hY.1 hY.2.1 (by omega) (by omega) hpl hq.kl c1;rw[List.length_set]at this;exact this
   ·simp only[persL,Y2,aGw,aSg,aSh,aJz hY.1 hY.2.1,cX]
   ·have hub:=aAm n _ (hp.kid hv) a _ hua hqv b hb;have c2:=cDb hm hp h8 hpl hq hq8 hC m b (tk.set j true) f fi ca B (by omega) (by simpa using htk) hub ⟨hY.1,hY.2.1,fun w hw=>hY.2.2 w ?_⟩
    ·refine bTf s b p q (tk.set j true) _ f fi ca _ hY.1 hY.2.1 (by omega) ?_;rw[show(((p.kids.length-2*(m+1):Nat):Int)+2)=((p.kids.length-2*m:Nat):Int) by omega];exact c2
    ·rw[Q5];refine cH.2 ⟨j,eC.2 hj,?_⟩;rw[if_neg (by rw[h];simp)];exact cH.2 ⟨a,ha,cH.2 ⟨b,hb,hw⟩⟩
theorem cDf{s:dK}(hm:Small s):∀(n:Nat) (p:LTerm),OkN p→nodesT p≤n→n≤1000000→bXn s n p
 |0,p,hp,h,_=>by rw[eW]at h;omega
 |n + 1,p,hp,h,hn=>by
  intro u q f fi ca B hu hq hY;have hno:=eW p;have hkl:=lO p.kids;have hC:∀p'∈p.kids,bXn s n p':=fun p' hp'=>cDf hm n p' (hp.kid hp') (by have:=(iI hp').1;omega) (by omega);by_cases h6:p.kind=6
  ·have e:oF s (n+1) u p q=(G5 s u p q).toList:=by rw[oF,if_pos h6]
   rw[e]at hY ⊢;exact bNn s u p q f fi ca _ hY.1 hY.2.1 h6 (bXx hm hu hp.1 hq.ok hY)
  by_cases he:p.kind=q.kind∧p.n=q.n∧p.text=q.text
  ·obtain⟨e1,e2,e3⟩:=he
   by_cases h8:p.kind=8
   ·have e:oF s (n+1) u p q=Q5 (oF s n) s p q (p.kids.length / 2) u (List.replicate (q.kids.length / 2) false):=by rw[oF,if_neg h6,if_pos ⟨e1,e2,e3⟩,if_pos h8]
    rw[e]at hY ⊢;have c:=cDb hm hp h8 (by omega) hq (e1▸h8) hC (p.kids.length / 2) u (List.replicate (q.kids.length / 2) false) f fi ca B (by omega) (by simp) hu hY;rw[show p.kids.length-2*(p.kids.length / 2)=0 by have:=hp.even h8;omega,List.map_replicate,List.length_replicate]at c;exact bNp s u p q f fi ca _ hY.1 hY.2.1 h8 e1 e2 e3 hq.kl c
   ·by_cases hx:q.kids.length<p.kids.length∨(p.rest.length=0∧¬(p.kids.length=q.kids.length∧q.rest.length=0))
    ·have e:oF s (n+1) u p q=[]:=by rw[oF,if_neg h6,if_pos ⟨e1,e2,e3⟩,if_neg h8,if_pos hx]
     rw[e];exact bNm s u p q f fi ca h6 h8 e1 e2 e3 hx
    ·have e:oF s (n+1) u p q=(M9 (oF s n) u p.kids (q.kids.take p.kids.length)).flatMap fun v=>aWg s v p q:=by rw[oF,if_neg h6,if_pos ⟨e1,e2,e3⟩,if_neg h8,if_neg hx]
     rw[e]at hY ⊢;rw[wG];have hle:p.kids.length≤q.kids.length:=by omega
     refine bNq s u p q f fi ca _ hY.1 hY.2.1 h6 h8 e1 e2 e3 hle (fun hr=>by
      have:p.kids.length=q.kids.length∧q.rest.length=0:=P2 fun hh=>hx (.inr ⟨hr,hh⟩);exact this) hq.kl ?_
     refine bSb hm p.kids (q.kids.take p.kids.length) u _ _ _ (fun v=>(aWg s v p q).any B) (fun p' hp'=>⟨hC p' hp',hp.kid hp'⟩) (fun q' hq'=>hq.kid (dI hq')) (by rw[cN];omega) hu ⟨rfl,?_,fun v hv=>?_⟩
     ·simp only[persL,Y2,aGw,aSg,aJz hY.1 hY.2.1,cX]
     ·have huv:=aAn (fun p' hp' u' q' hu' hq'=>aAm n p' (hp.kid hp') u' q' hu' hq') (fun q' hq'=>hq.kid (dI hq')) hu v hv;have hYv:YOk f fi ca B (aWg s v p q):=⟨hY.1,hY.2.1,fun w hw=>hY.2.2 w (cH.2 ⟨v,hv,hw⟩)⟩;dsimp only;unfold aWg at hYv ⊢;by_cases hr:p.rest.length=0
      ·rw[if_pos hr]at hYv ⊢;rw[fD,gE,aK];exact bNh s v p q _ f fi ca _ hY.1 hY.2.1 hr (hYv.2.2 v (aP.2 rfl))
      ·rw[if_neg hr]at hYv ⊢;exact bNi s v p q p.kids.length f fi ca _ hY.1 hY.2.1 (by omega) hle (by have:=hq.kl;omega) (by have:=hq.rl;omega) (bXx hm huv (hp.1.rst _ (cS (by omega))) (okL hq.ok) hYv)
  ·have e:oF s (n+1) u p q=[]:=by rw[oF,if_neg h6,if_neg he]
   rw[e];exact bNo s u p q f fi ca h6 he
mutual
def alT:LTerm→Nat→LTerm×Nat
 | .mk k n x so ks rs,c=>if k=6∧x=[95]then(.mk k n (95::Lib.itoa ((c+1:Nat):Int)) so ks rs,c+1)else(.mk k n x so (alL ks c).1 rs,(alL ks c).2)
def alL:List LTerm→Nat→List LTerm×Nat
 | [],c=>([],c)
 |t::l,c=>((alT t c).1::(alL l (alT t c).2).1,(alL l (alT t c).2).2)
end
theorem vK(t:LTerm)(c:Nat):alT t c=if t.kind=6∧t.text=[95]then(.mk t.kind t.n (95::Lib.itoa ((c+1:Nat):Int)) t.sort t.kids t.rest,c+1)else(.mk t.kind t.n t.text t.sort (alL t.kids c).1 t.rest,(alL t.kids c).2):=by cases t;rw[alT];rfl
theorem tT:∀(l:List LTerm) (c:Nat),(alL l c).1.length=l.length
 | [],c=>by rw[alL]
 |t::l,c=>by rw[alL,bF,bF,tT l]
theorem aYi:∀(a b:List LTerm) (c:Nat),alL (a++b) c=((alL a c).1++(alL b (alL a c).2).1,(alL b (alL a c).2).2)
 | [],b,c=>by rw[aE];simp[alL]
 |t::a,b,c=>by rw[aC,alL,aYi a b,alL];rfl
mutual
theorem bIi:∀(t:LTerm) (c:Nat),(alT t c).2≤c+nodesT t
 | .mk k n x so ks rs,c=>by
   have h:=alL_le ks c;have e:nodesT (.mk k n x so ks rs)=1+rs.length+nodesL ks:=by rw[nodesT]
   rw[alT,e];split
   ·dsimp only;omega
   ·dsimp only;omega
theorem alL_le:∀(l:List LTerm) (c:Nat),(alL l c).2≤c+nodesL l
 | [],c=>by rw[alL];omega
 |t::l,c=>by
  have h1:=bIi t c;have h2:=alL_le l (alT t c).2;have e:nodesL (t::l)=nodesT t+nodesL l:=by rw[nodesL]
  rw[alL,e];dsimp only;omega
end
theorem aMo{l:List LTerm}{k c:Nat}(h:k<l.length):alL (l.take (k+1)) c=((alL (l.take k) c).1++[(alT (l.getD k default) (alL (l.take k) c).2).1],(alT (l.getD k default) (alL (l.take k) c).2).2):=by
 rw[fI h,aYi,alL,alL]
theorem aWs{N:DR}{f:FuncId}{A A0:List AV}{r:AV}{d:Option Nat}{os:List fZ}{K:List AV→List AObj→Prop}{env:List AV}{cells cells':List AV}{t:List AObj}(c:ACalls Tryz.prog G0 f A0 [.box false cells] (fun r0 h1=>r0=r∧h1=[.box false cells']))(hp:persL cells=true)(hp':persL cells'=true)(hr:pers r=true)
 (hA:A=renL (emb [0] (.box false cells::t).length) A0) (hn:¬N.old 0) (k:dM Tryz.prog (pl G0) (some N) os K (iE env d r) (.box false cells'::t)):bPj Tryz.prog (pl G0) N f A d os K env (.box false cells::t):=
 bVz (yG 0 g0 c hp hp' hr rfl hA) rfl (aKt hn) k
theorem aUj(n:Nat)(h:n≤9000000):(Lib.itoa ((n:Nat):Int)).length≤21:=Lib.itoa_length_le _ (by omega) (by omega)
theorem vV:∀{a b:List LTerm},nodesL (a++b)=nodesL a+nodesL b
 | [],b=>by rw[aE,nodesL];omega
 |t::a,b=>by rw[aC,nodesL,nodesL,vV];omega
theorem T3(t:LTerm):nodesL [t]=nodesT t:=by simp[nodesL]
def AlK(R:LTerm×Nat)(r:AV)(h':List AObj):Prop:=iA dep h' r=elT R.1∧∃z,Vo.freeze (eL dep h' r) h'=[.box false [.i .i64 (R.2:Nat)]]++z
theorem bEo{R:LTerm×Nat}{z:List AObj}:AlK R (elT R.1) (.box false [.i .i64 (R.2:Nat)]::z):=by
 have hp:pers (elT R.1)=true:=by rw[elT,pers,rW]
 refine⟨by rw[gN,if_pos hp],z,?_⟩;rw[show eL dep (.box false [.i .i64 (R.2:Nat)]::z) (elT R.1)=[] by rw[show dep=8+1 from rfl,eL,if_pos hp]];rfl
theorem aYd{k n:Int}{x so:Str}{ks rs:List LTerm}{c:Nat}{out:AV}{g:List AObj}{B1 B2:AObj}(ho:jU 6 3 g out (ks.flatMap aU) ks.length) :
 AlK (.mk k n x so ks rs,c) (.agg [.i .i64 k,.i .i64 n,.s x,.s so,out,.sl (rs.flatMap aU) rs.length]) (.box false [.i .i64 (c:Nat)]::B1::B2::g):=by
 rcases ho with⟨rfl,h2,h3⟩|⟨i,rfl,hi,hl⟩
 ·obtain rfl:ks=[]:=eE.1 h3;refine⟨?_,B1::B2::g,?_⟩
  ·rw[gN];simp[pers,persL,rV,elT,aL,avt,gW,LTerm.kind,LTerm.n,LTerm.text,LTerm.sort,LTerm.kids,LTerm.rest,iA]
  ·rw[xA,bPk,if_pos (by simp[aOi,pers,gW])];rfl
 ·have hg:(AObj.box false [.i .i64 (c:Nat)]::B1::B2::g)[i+3]? = some (.arr false 6 (ks.flatMap aU)):=by simpa using hi
  have hd:((ks.flatMap aU).drop 0).take (ks.length*6)=ks.flatMap aU:=by rw[bK,bB (by omega)]
  have hp:persL (ks.flatMap aU)=true:=gW;have hle:(0+ks.length*6≤(ks.flatMap aU).length)=True:=eq_true (by omega);refine⟨?_,((AObj.box false [.i .i64 (c:Nat)]::B1::B2::g).modify (i+3) AObj.fz).tail,?_⟩
  ·have e:iA 8 (AObj.box false [.i .i64 (c:Nat)]::B1::B2::g) (.hs (i+3) 0 ks.length false)=.sl (ks.flatMap aU) ks.length:=by
    rw[iA];simp only[pers,aI,if_false,hg,hd,hp,if_true,hle]
   rw[gN];simp only[pers,persL,rV,aI,aT,aS,if_false,aQ,aZ,e,elT,aL,avt,LTerm.kind,LTerm.n,LTerm.text,LTerm.sort,LTerm.kids,LTerm.rest];simp[iA,pers,gW]
  ·have e:eL dep (AObj.box false [.i .i64 (c:Nat)]::B1::B2::g) (.agg [.i .i64 k,.i .i64 n,.s x,.s so,.hs (i+3) 0 ks.length false,.sl (rs.flatMap aU) rs.length])=[i+3]:=by
    rw[show dep=8+1 from rfl,eL];simp only[pers,persL,aI,aT,aS,if_false,List.flatMap_cons,List.flatMap_nil];simp[eL,pers,hg,hp,gW,bB (show(ks.flatMap aU).length≤ks.length*6 by omega)]
   rw[e];simp[Vo.freeze]
def AlC(t:LTerm):Prop:=∀(c:Nat),c+nodesT t≤1000000→ACalls Tryz.prog G0 75 [elT t,.ptr 0 0] [.box false [.i .i64 (c:Nat)]] (fun r h'=>r=elT (alT t c).1∧h'=[.box false [.i .i64 ((alT t c).2:Nat)]])
theorem bWm(t:LTerm)(c:Nat)(ht:OkT t)(hk:∀k∈t.kids,AlC k)(hc:c+nodesT t≤1000000): ACalls Tryz.prog G0 75 [elT t,.ptr 0 0] [.box false [.i .i64 (c:Nat)]] (AlK (alT t c)):=by
 refine mB (rx:=true) (th:=fun i=>if i=10 then some ⟨none,[0],true,false,false,[],[41],0⟩else none) dE Tryz.func75 ?_
 ·simp -implicitDefEqProofs (disch:=omega) only[Tryz.f75,bF,bZ,eF,aC,aE,aIx,List.replicate,simprocAttr,elT,aL];have hkl:=lO t.kids;have hno:=eW t;by_cases h6:t.kind=6
  ·by_cases h95:t.text=[95]
   ·have e:alT t c=(.mk t.kind t.n (95::Lib.itoa ((c+1:Nat):Int)) t.sort t.kids t.rest,c+1):=by rw[vK,if_pos ⟨h6,h95⟩]
    rw[e];have hw:IntKind.i64.wrap (((c:Nat):Int)+1)=((c+1:Nat):Int):=by rw[wrap64 (by omega) (by omega)];omega
    have c2:=bUj ((c+1:Nat):Int) (by omega) (by omega);have hln:=aUj (c+1) (by omega);refine zh (zA2 (zt h6) (zA2 (zt h95) hw)) ?_;refine bJ c2 ?_ ?_
    ·exact zu
    have b1:(1+(Lib.itoa ((c+1:Nat):Int)).length≤140737488355328)=True:=eq_true (by omega);refine zh @b1 ?_;have q:=fun z=>bEo (R:=(.mk t.kind t.n (95::Lib.itoa ((c+1:Nat):Int)) t.sort t.kids t.rest,c+1)) (z:=z);simp only[elT,aL]at q;exact q _
   ·have h95i:¬(t.kind=6∧t.text=[95]):=fun h=>h95 h.2;refine zh (zA2 (zt h6) (zf h95)) ?_;refine dV (fun(v:Nat×AV×List AObj)=>(rp 7 .k (.j::(rp 25 .k (.v (.i .i64 (v.1:Nat))::(rp 12 .j [.k])))))) (fun v=>(.box false [.i .i64 ((alL (t.kids.take v.1) c).2:Nat)]::.box false [.i .i64 t.kind,.i .i64 t.n,.s t.text,.s t.sort,v.2.1,.sl (t.rest.flatMap aU) t.rest.length]::.box false [.i .i64 0,.i .i64 0,.s [],.s [],.e0,.e0]::v.2.2)) (fun v=>v.1≤t.kids.length∧jU 6 3 v.2.2 v.2.1 ((alL (t.kids.take v.1) c).1.flatMap aU) (alL (t.kids.take v.1) c).1.length) (fun v=>t.kids.length-v.1) ((0,.e0,[])) ⟨bX _,jN⟩ rfl (by simp[iS]) ?_;rintro⟨k,out,g⟩ j ⟨hk1,hb⟩;dsimp only at hk1 hb;by_cases hlt:k<t.kids.length
    ·have hki:decide ((k:Int)<((t.kids.length:Nat):Int))=true:=zt (by omega);have hm:=cS (d:=default) hlt;have hsz:=alL_le (t.kids.take k) c;have hnt:=iU (l:=t.kids) (k:=k+1);have hnd:nodesL (t.kids.take (k+1))=nodesL (t.kids.take k)+nodesT (t.kids.getD k default):=by rw[fI hlt,vV,T3]
     have cc:=hk _ hm (alL (t.kids.take k) c).2 (by omega);have hs:=aMo (c:=c) hlt;have hll:=tT (t.kids.take k) c;rw[cN]at hll;refine zh hki ?_;repeat refine bE (by omega) ?_
     refine aWs cc rfl rfl (by rw[elT,pers,rW]) (by simp only[elT,aL,avt,renL,ren,renL_pers _ _ gW,aAf]) (by simp[DR.old]) ?_;generalize alT (t.kids.getD k default) (alL (t.kids.take k) c).2=T at *
     refine zh (zA2 @elT.eq_1 (zA2 @aL (zA2 @avt.eq_1 (zA2 @pZ (zA2 @aJ.{0} (zA2 @aM.{0} @List.append_nil.{0})))))) ?_;refine fN (pre:=[.box false [.i .i64 (T.2:Nat)],.box false [.i .i64 t.kind,.i .i64 t.n,.s t.text,.s t.sort,out,.sl (t.rest.flatMap aU) t.rest.length],.box false [.i .i64 0,.i .i64 0,.s [],.s [],.e0,.e0]]) (g:=g) (more:=[.box false (tmC ((t.kids.getD k default)))]) (news:=(tmC T.1)) (m:=1) hb rfl ?_ bHb bFe bFj bIc rfl (by decide) ?_ ?_ ⟨by omega,by omega⟩ ?_
     ·simp only[aC,aE,cM]
     ·exact zu
     ·exact zu
     intro out' g' ho' _;rcases ho' with⟨_,_,h3⟩|⟨i1,rfl,hi1,hl1⟩
     ·omega
     refine zg ?_;refine⟨(k+1,.hs (i1+3) 0 ((alL (t.kids.take k) c).1.length+1) false,g'),⟨by dsimp only;omega,.inr ⟨i1,by dsimp only;rw[hs];simp,?_,?_⟩⟩,by dsimp only;omega,?_,?_⟩
     ·dsimp only;rw[hs,List.flatMap_append,List.flatMap_cons,List.flatMap_nil,List.append_nil,aL];exact hi1
     ·dsimp only;rw[hs,List.flatMap_append,List.flatMap_cons,List.flatMap_nil,List.append_nil,aL];simpa using hl1
     ·simp[hs]
     ·simp
    ·have hki:decide ((k:Int)<((t.kids.length:Nat):Int))=false:=zf (by omega);obtain rfl:k=t.kids.length:=by omega
     rw[bB (bV _)]at hb;have e:alT t c=(.mk t.kind t.n t.text t.sort (alL t.kids c).1 t.rest,(alL t.kids c).2):=by rw[vK,if_neg h95i]
     have htk:t.kids.take t.kids.length=t.kids:=bB (bV _);refine zh (zA2 hki htk) ?_;rw[e];exact aYd hb
  ·have h95i:¬(t.kind=6∧t.text=[95]):=fun h=>h6 h.1;refine zh (zf h6) ?_;refine dV (fun(v:Nat×AV×List AObj)=>(rp 7 .k (.j::(rp 25 .k (.v (.i .i64 (v.1:Nat))::(rp 12 .j [.k])))))) (fun v=>(.box false [.i .i64 ((alL (t.kids.take v.1) c).2:Nat)]::.box false [.i .i64 t.kind,.i .i64 t.n,.s t.text,.s t.sort,v.2.1,.sl (t.rest.flatMap aU) t.rest.length]::.box false [.i .i64 0,.i .i64 0,.s [],.s [],.e0,.e0]::v.2.2)) (fun v=>v.1≤t.kids.length∧jU 6 3 v.2.2 v.2.1 ((alL (t.kids.take v.1) c).1.flatMap aU) (alL (t.kids.take v.1) c).1.length) (fun v=>t.kids.length-v.1) ((0,.e0,[])) ⟨bX _,jN⟩ rfl (by simp[iS]) ?_;rintro⟨k,out,g⟩ j ⟨hk1,hb⟩;dsimp only at hk1 hb;by_cases hlt:k<t.kids.length
   ·have hki:decide ((k:Int)<((t.kids.length:Nat):Int))=true:=zt (by omega);have hm:=cS (d:=default) hlt;have hsz:=alL_le (t.kids.take k) c;have hnt:=iU (l:=t.kids) (k:=k+1);have hnd:nodesL (t.kids.take (k+1))=nodesL (t.kids.take k)+nodesT (t.kids.getD k default):=by rw[fI hlt,vV,T3]
    have cc:=hk _ hm (alL (t.kids.take k) c).2 (by omega);have hs:=aMo (c:=c) hlt;have hll:=tT (t.kids.take k) c;rw[cN]at hll;refine zh hki ?_;repeat refine bE (by omega) ?_
    refine aWs cc rfl rfl (by rw[elT,pers,rW]) (by simp only[elT,aL,avt,renL,ren,renL_pers _ _ gW,aAf]) (by simp[DR.old]) ?_;generalize alT (t.kids.getD k default) (alL (t.kids.take k) c).2=T at *
    refine zh (zA2 @elT.eq_1 (zA2 @aL (zA2 @avt.eq_1 (zA2 @pZ (zA2 @aJ.{0} (zA2 @aM.{0} @List.append_nil.{0})))))) ?_;refine fN (pre:=[.box false [.i .i64 (T.2:Nat)],.box false [.i .i64 t.kind,.i .i64 t.n,.s t.text,.s t.sort,out,.sl (t.rest.flatMap aU) t.rest.length],.box false [.i .i64 0,.i .i64 0,.s [],.s [],.e0,.e0]]) (g:=g) (more:=[.box false (tmC ((t.kids.getD k default)))]) (news:=(tmC T.1)) (m:=1) hb rfl ?_ bHb bFe bFj bIc rfl (by decide) ?_ ?_ ⟨by omega,by omega⟩ ?_
    ·simp only[aC,aE,cM]
    ·exact zu
    ·exact zu
    intro out' g' ho' _;rcases ho' with⟨_,_,h3⟩|⟨i1,rfl,hi1,hl1⟩
    ·omega
    refine zg ?_;refine⟨(k+1,.hs (i1+3) 0 ((alL (t.kids.take k) c).1.length+1) false,g'),⟨by dsimp only;omega,.inr ⟨i1,by dsimp only;rw[hs];simp,?_,?_⟩⟩,by dsimp only;omega,?_,?_⟩
    ·dsimp only;rw[hs,List.flatMap_append,List.flatMap_cons,List.flatMap_nil,List.append_nil,aL];exact hi1
    ·dsimp only;rw[hs,List.flatMap_append,List.flatMap_cons,List.flatMap_nil,List.append_nil,aL];simpa using hl1
    ·simp[hs]
    ·simp
   ·have hki:decide ((k:Int)<((t.kids.length:Nat):Int))=false:=zf (by omega);obtain rfl:k=t.kids.length:=by omega
    rw[bB (bV _)]at hb;have e:alT t c=(.mk t.kind t.n t.text t.sort (alL t.kids c).1 t.rest,(alL t.kids c).2):=by rw[vK,if_neg h95i]
    have htk:t.kids.take t.kids.length=t.kids:=bB (bV _);refine zh (zA2 hki htk) ?_;rw[e];exact aYd hb
theorem alC:∀(n:Nat) (t:LTerm),OkT t→nodesT t≤n→AlC t
 |0,t,_,h=>by rw[eW]at h;omega
 |n+1,t,ht,h=>fun c hc=>by
  have hno:=eW t;refine rL g0 (bWm t c ht (fun k hk=>alC n k (ht.kid k hk) (by have:=(iI hk).1;omega)) hc) (by rw[elT,pers,rW]) rfl (bV _)
mutual
theorem aFn:∀(t:LTerm) (c:Nat),nodesT (alT t c).1=nodesT t
 | .mk k n x so ks rs,c=>by
   have h:=alL_nodes ks c;rw[alT];split
   ·dsimp only;rw[nodesT,nodesT]
   ·dsimp only;rw[nodesT,nodesT,h]
theorem alL_nodes:∀(l:List LTerm) (c:Nat),nodesL (alL l c).1=nodesL l
 | [],c=>by rw[alL]
 |t::l,c=>by
  have h1:=aFn t c;have h2:=alL_nodes l (alT t c).2;rw[alL];dsimp only;rw[nodesL,nodesL,h1,h2]
end
theorem bIh:∀(n:Nat) (t:LTerm) (c:Nat),nodesT t≤n→c+nodesT t≤1000000→OkT t→OkT (alT t c).1
 |0,t,c,h,_,_=>by rw[eW]at h;omega
 |n + 1,t,c,h,hc,ht=>by
  have hno:=eW t;rw[vK];split
  ·have hl:=aUj (c+1) (by omega);exact .mk (by simp only[LTerm.text,bF];omega) ht.sort ht.nlo ht.nhi ht.kids ht.rest ht.kid ht.rst
  ·refine .mk ht.text ht.sort ht.nlo ht.nhi (by show(alL t.kids c).1.length≤_;rw[tT];exact ht.kids) ht.rest ?_ ht.rst;have go:∀(l:List LTerm) (c:Nat),(∀k∈l,OkT k)→nodesL l≤n→c+nodesL l≤1000000→∀k∈(alL l c).1,OkT k:=by
    intro l;induction l with
    |nil=>intro c _ _ _ k hk;rw[alL]at hk;cases hk
    |cons a l ih=>
     intro c ho hn hcc k hk;rw[nodesL]at hn hcc;rw[alL]at hk;rcases dA.1 hk with rfl|hk
     ·exact bIh n a c (by omega) (by omega) (ho a dC)
     ·exact ih _ (fun k hk=>ho k (bU _ hk)) (by omega) (by have:=bIi a c;omega) k hk
   exact go t.kids c ht.kid (by omega) (by omega)
mutual
theorem bIj:∀(t:LTerm) (c:Nat),wfT evB (alT t c).1=wfT evB t
 | .mk k n x so ks rs,c=>by
   have h:=alL_ev ks c;have hl:=tT ks c;rw[alT];split
   ·dsimp only;rw[wfT,wfT];rfl
   ·dsimp only;rw[wfT,wfT,h];have e:evB (.mk k n x so (alL ks c).1 rs)=evB (.mk k n x so ks rs):=by
     show(!decide (k=8)||decide ((alL ks c).1.length % 2=0))=_;rw[hl];rfl
    rw[e]
theorem alL_ev:∀(l:List LTerm) (c:Nat),wfL evB (alL l c).1=wfL evB l
 | [],c=>by rw[alL]
 |t::l,c=>by
  have h1:=bIj t c;have h2:=alL_ev l (alT t c).2;rw[alL];dsimp only;rw[wfL,wfL,h1,h2]
end
theorem bGx{t:LTerm}:∀(n:Nat) (t:LTerm),nodesT t≤n→wfT nodeB t=true→wfT evB t=true
 |0,t,h,_=>by rw[eW]at h;omega
 |n + 1,t,h,hw=>by
  have hno:=eW t;have hw':=eN.1 hw;refine eN.2 ⟨?_,fun k hk=>bGx (t:=t) n k (by have:=(iI hk).1;omega) (hw'.2 k hk)⟩;rw[evB];by_cases h8:t.kind=8
  ·have e:=hw'.1;rw[nodeB]at e;simp only[h8,(by decide:¬(8:Int)=1),(by decide:¬(8:Int)=2),(by decide:¬(8:Int)=3),(by decide:¬(8:Int)=4),(by decide:¬(8:Int)=5),(by decide:¬(8:Int)=6),(by decide:¬(8:Int)=7),if_false,if_true,aD,decide_eq_true_eq]at e;rw[zt e.1.2,bH]
  ·rw[zf h8];rfl
theorem cHg{t:LTerm}(ht:OkN t)(hn:nodesT t≤100000):QOk (alT t 0).1:=
 ⟨bIh (nodesT t) t 0 (bV _) (by omega) ht.1,by rw[aFn];omega,by rw[bIj];exact bGx (t:=t) _ t (bV _) ht.2⟩
def lX(s:dK)(p q:LTerm):Bool×Int:=if D3 s p=true∧D3 s q=true then(!(oF s (nodesT p) [] p (alT q 0).1).isEmpty,0)else(false,2)
theorem bHk(u:LSub): CT 76 [tmA u] (.b true):=by
 refine dO dE Tryz.func76 g0 ?_
 ·simp -implicitDefEqProofs (disch:=omega) only[Tryz.f76,go_sem,List.replicate,simprocAttr,tmA];(refine zs0 ?_;repeat' first|exact trivial|refine zJ ?_ ?_|refine zH fun hc=>?_);all_goals exact bR rfl rfl
theorem bVy{N:DR}{f:FuncId}{A A0:List AV}{r:AV}{d:Option Nat}{os:List fZ}{K:List AV→List AObj→Prop}{env:List AV}{cells cells':List AV}{h:List AObj}(id:Nat)(c:ACalls Tryz.prog G0 f A0 [.box false cells] (fun r0 h1=>r0=r∧h1=[.box false cells']))(hp:persL cells=true)(hp':persL cells'=true)(hr:pers r=true)
 (hid:h[id]? = some (.box false cells)) (hA:A=renL (emb [id] h.length) A0) (hn:¬N.old id) (k:dM Tryz.prog (pl G0) (some N) os K (iE env d r) (h.set id (.box false cells'))):bPj Tryz.prog (pl G0) N f A d os K env h:=
 bVz (yG id g0 c hp hp' hr hid hA) rfl (aKt hn) k
theorem aVd{h:List AObj}{b:Bool}{o:Int}:Vo.Fin h (.tup [.b b,.i .i64 o]) (.tup [.b b,.i .i64 o]):=.inl ⟨rfl,rfl⟩
theorem bHm(s:dK)(p q:LTerm)(hm:Small s)(hs:OkS s)(op:OkT p)(oq:OkT q)(hnp:nodesT p≤100000)(hnq:nodesT q≤100000): CT 31 [.agg (dW s),elT p,elT q] (.tup [.b (lX s p q).1,.i .i64 (lX s p q).2]):=by
 refine R8 (rx:=true) (th:=fun i=>if i=5 then some ⟨none,[3],false,false,false,[],[27],0⟩else none) dE Tryz.func31 g0 ?_
 ·generalize hR:((.tup [.b (lX s p q).1,.i .i64 (lX s p q).2]):AV)=R;simp -implicitDefEqProofs (disch:=omega) only[Tryz.f31,go_sem,List.replicate,simprocAttr,elT,aL];have c1:=V3 s p hm hs op;have c1q:=V3 s q hm hs oq;rw[lX]at hR;by_cases hp:D3 s p=true
  ·rw[hp]at c1;by_cases hq:D3 s q=true
   ·rw[hq]at c1q;rw[if_pos ⟨hp,hq⟩]at hR;have hv:iH s=true:=by rw[D3,aD]at hp;exact hp.1
    have c2:=aAk s hm (iP hv);have onp:OkN p:=⟨op,uA (yW hp)⟩;have onq:OkN q:=⟨oq,uA (yW hq)⟩;have cA:=alC (nodesT q) q oq (bV _) 0 (by omega);have cC:=cDf hm (nodesT p) p onp (bV _) (by omega) [] (alT q 0).1 76 [] [] (fun _=>true) (fun x hx=>by cases hx) (cHg onq hnq) ⟨rfl,rfl,fun v _=>bHk v⟩;rw[show(oF s (nodesT p) [] p (alT q 0).1).any (fun _=>true) = !(oF s (nodesT p) [] p (alT q 0).1).isEmpty by cases oF s (nodesT p) [] p (alT q 0).1<;>simp]at cC;generalize (!(oF s (nodesT p) [] p (alT q 0).1).isEmpty)=b at *
    generalize alT q 0=T at *
    (repeat'(first|refine gT ?_ ?_|refine gF ?_ ?_|refine gC ?_ ?_|((first|(refine bJ (c1) ?_ ?_;(focus(simp -implicitDefEqProofs (disch:=omega) only[aA,zdB,go_sem,simprocAttr];done)))|(refine bJ (c1q) ?_ ?_;(focus(simp -implicitDefEqProofs (disch:=omega) only[aA,zdB,go_sem,simprocAttr];done)))|(refine bJ (c2) ?_ ?_;(focus(simp -implicitDefEqProofs (disch:=omega) only[aA,zdB,go_sem,simprocAttr];done))));simp -implicitDefEqProofs (disch:=omega) only[aA,go_sem,simprocAttr])|refine bE (by omega) ?_|(intro hr;have hc:=hr;(try simp only[zdz]at hc);simp -implicitDefEqProofs (disch:=omega) only[hr,aA,go_sem,simprocAttr];(try clear hr))));refine bVy 3 cA rfl rfl (by rw[elT,pers,rW]) rfl (by simp only[elT,aL,avt,renL,ren,renL_pers _ _ gW,aAf]) (by simp[DR.old]) ?_;refine zg ?_;refine bJ cC ?_ ?_
    ·exact zv (zA2 @elT.eq_1 (zA2 @aL (zA2 @avt.eq_1 (zA2 @tmA.eq_1 (zA2 @bQ.eq_1 @aZ.{0,0})))))
    refine zg ?_;subst hR;exact aVd
   ·rw[dG.2 hq]at c1q;rw[if_neg (fun h=>hq h.2)]at hR;(repeat'(first|refine gT ?_ ?_|refine gF ?_ ?_|refine gC ?_ ?_|((first|(refine bJ (c1) ?_ ?_;(focus(simp -implicitDefEqProofs (disch:=omega) only[aA,aB,zdB,go_sem,simprocAttr];done)))|(refine bJ (c1q) ?_ ?_;(focus(simp -implicitDefEqProofs (disch:=omega) only[aA,aB,zdB,go_sem,simprocAttr];done))));simp -implicitDefEqProofs (disch:=omega) only[aA,aB,go_sem,simprocAttr])|refine bE (by omega) ?_|(intro hr;have hc:=hr;(try simp only[zdz]at hc);simp -implicitDefEqProofs (disch:=omega) only[hr,aA,aB,go_sem,simprocAttr];(try clear hr))));subst hR;exact aVd
  ·rw[dG.2 hp]at c1;rw[if_neg (fun h=>hp h.1)]at hR;(repeat'(first|refine gT ?_ ?_|refine gF ?_ ?_|refine gC ?_ ?_|((refine bJ (c1) ?_ ?_;(focus(simp -implicitDefEqProofs (disch:=omega) only[aA,aB,zdB,go_sem,simprocAttr];done)));simp -implicitDefEqProofs (disch:=omega) only[aA,aB,go_sem,simprocAttr])|refine bE (by omega) ?_|(intro hr;have hc:=hr;(try simp only[zdz]at hc);simp -implicitDefEqProofs (disch:=omega) only[hr,aA,aB,go_sem,simprocAttr];(try clear hr))));subst hR;exact aVd
end Go.Proofs.YtdjcggcjlphdoaaGreatDoor
