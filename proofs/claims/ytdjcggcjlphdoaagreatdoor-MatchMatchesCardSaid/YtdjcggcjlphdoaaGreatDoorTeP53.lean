/-
  How terms are measured: plain laws; no condition beyond those that each theorem names.
-/
import Derived.Test.YtdjcggcjlphdoaaGreatDoorTeP52
import Derived.Test.YtdjcggcjlphdoaaGreatDoorSoP53
import Derived.Test.YtdjcggcjlphdoaaGreatDoorTeP51
import Derived.Test.YtdjcggcjlphdoaaGreatDoorVoP56
set_option maxRecDepth 100000
set_option linter.unusedSimpArgs false
set_option linter.unusedVariables false
set_option maxHeartbeats 4000000
namespace Go.Proofs.YtdjcggcjlphdoaaGreatDoor
open Go Go.Vo
open Nat (reduceAdd reduceSub reduceMul reduceLeDiff reduceLT reduceEqDiff)
open Int (reduceNeg)
def mE:Str:=[73,110,116]
def mM:Str:=[66,111,111,108]
def zF:Str:=[84,101,120,116]
def idS:Str:=[73,100]
def aOx(s:Str):List Str:=if s=[97,100,100]then [mE,mE]else if s=[115,117,98]then [mE,mE]else if s=[109,117,108]then [mE,mE]else if s=[100,105,118]then [mE,mE]else if s=[109,111,100]then [mE,mE]else if s=[108,116]then [mE,mE]else if s=[108,101]then [mE,mE]else if s=[103,116]then [mE,mE]else if s=[103,101]then [mE,mE]else if s=[110,101,103]then [mE]else if s=[116,101,120,116]then [mE]else if s=[101,113]then [rG,rG]else if s=[110,101]then [rG,rG]else if s=[97,110,100]then [mM,mM]else if s=[111,114]then [mM,mM]else if s=[110,111,116]then [mM]else if s=[112,105,99,107]then [mM,rG,rG]else if s=[99,97,116]then [zF,zF]else if s=[108,101,110,103,116,104]then [tW]else if s=[106,111,105,110]then [tW,tW]else if s=[103,101,116]then [J8,rG]else if s=[104,97,115]then [J8,rG]else if s=[100,101,108]then [J8,rG]else if s=[112,117,116]then [J8,rG,rG]else if s=[107,101,121,115]then [J8]else if s=[115,105,122,101]then [J8]else if s=[105,115]then [rG,zF]else [rG]
def zI(s:Str):Str:=if s=[97,100,100]then mE else if s=[115,117,98]then mE else if s=[109,117,108]then mE else if s=[100,105,118]then mE else if s=[109,111,100]then mE else if s=[110,101,103]then mE else if s=[108,101,110,103,116,104]then mE else if s=[115,105,122,101]then mE else if s=[99,97,116]then zF else if s=[116,101,120,116]then zF else if s=[106,111,105,110]then tW else if s=[107,101,121,115]then tW else if s=[112,117,116]then J8 else if s=[100,101,108]then J8 else if s=[112,105,99,107]then rG else if s=[103,101,116]then rG else mM
def N1(s:Str):List Str×Str:=if s=[97,100,100]then([mE,mE],mE)else if s=[115,117,98]then([mE,mE],mE)else if s=[109,117,108]then([mE,mE],mE)else if s=[100,105,118]then([mE,mE],mE)else if s=[109,111,100]then([mE,mE],mE)else if s=[110,101,103]then([mE],mE)else if s=[108,116]then([mE,mE],mM)else if s=[108,101]then([mE,mE],mM)else if s=[103,116]then([mE,mE],mM)else if s=[103,101]then([mE,mE],mM)else if s=[101,113]then([rG,rG],mM)else if s=[110,101]then([rG,rG],mM)else if s=[97,110,100]then([mM,mM],mM)else if s=[111,114]then([mM,mM],mM)else if s=[110,111,116]then([mM],mM)else if s=[112,105,99,107]then([mM,rG,rG],rG)else if s=[99,97,116]then([zF,zF],zF)else if s=[108,101,110,103,116,104]then([tW],mE)else if s=[116,101,120,116]then([mE],zF)else if s=[106,111,105,110]then([tW,tW],tW)else if s=[103,101,116]then([J8,rG],rG)else if s=[112,117,116]then([J8,rG,rG],J8)else if s=[104,97,115]then([J8,rG],mM)else if s=[100,101,108]then([J8,rG],J8)else if s=[107,101,121,115]then([J8],tW)else if s=[115,105,122,101]then([J8],mE)else if s=[105,115]then([rG,zF],mM)else([rG],mM)
def strs:List AV→List Str
 | .s x::l=>x::strs l
 |_=>[]
theorem aCa{H:List AObj}{i:Nat}{fz t:Bool}{l:List Str}(h1:H[i]? = some (.arr fz 1 (l.map .s))):avs l=gJ dep H (.hs i 0 l.length t):=by
 simp only[fS,pers,rQ,h1,aE,if_false,dU,aXg,cZ,bT,if_true,bA];rw[aS (by simp)];simp only[jW,if_true,avs]
theorem aKt{H:List AObj}{i n:Nat}{cells:List AV}{fz t:Bool}{l:List Str}(h1:H[i]? = some (.arr fz 1 cells))(hl:l=strs cells)(hc:(strs cells).map .s=cells)(hn:n=(strs cells).length):Fin H (.hs i 0 n t) (avs l):=by
 rw[← hl]at hc hn;rw[← hc]at h1;subst hn;exact .inr ⟨aCa h1,by simp[cX,avs],by simp[cX,avs]⟩
theorem aEh{H:List AObj}{i n:Nat}{cells:List AV}{fz t:Bool}{l:List Str}{r r':Str}(h1:H[i]? = some (.arr fz 1 cells))(hl:(l,r')=(strs cells,r))(hc:(strs cells).map .s=cells)(hn:n=(strs cells).length):Fin H (.tup [.hs i 0 n t,.s r]) (.tup [avs l,.s r']):=by
 injection hl with hl hr;rw[← hl]at hc hn;rw[← hc]at h1;subst hn hr;exact .inr ⟨⟨aCa h1,rfl,trivial⟩,by simp[cX,finIdsL,avs],by simp[cX,finIdsL,avs]⟩
theorem bTe(s:Str): CT 256 [.s s] (avs (aOx s)):=by
 refine aZ cI Tryz.func256 g0 ?_
 ·skip;(refine zs0 ?_;repeat' first|exact trivial|refine zJ ?_ ?_|refine zH fun hc=>?_);all_goals first
   |(subst hc;exact aKt rfl (by decide +kernel) rfl rfl)
   |(simp only[aOx, *,if_false];exact aKt rfl rfl rfl rfl)
theorem bTd(s:Str): CT 257 [.s s] (.s (zI s)):=by
 refine aZ cI Tryz.func257 g0 ?_
 ·skip;(refine zs0 ?_;repeat' first|exact trivial|refine zJ ?_ ?_|refine zH fun hc=>?_);all_goals first
   |(subst hc;exact aV (congrArg AV.s (by decide +kernel)) rfl)
   |(simp only[zI, *,if_false];exact aV rfl rfl)
theorem bTi(s:Str): CT 262 [.s s] (.tup [avs (N1 s).1,.s (N1 s).2]):=by
 refine aZ cI Tryz.func262 g0 ?_
 ·skip;(refine zs0 ?_;repeat' first|exact trivial|refine zJ ?_ ?_|refine zH fun hc=>?_);all_goals first
   |(subst hc;exact aEh rfl (by decide +kernel) rfl rfl)
   |(simp only[N1, *,if_false];exact aEh rfl rfl rfl rfl)
def uD(x:Str):Option LOp:=if jO.contains x then some ⟨x,aOx x,zI x,[],0,0,[]⟩else none
theorem vB{H:List AObj}{o o':LOp}{a b a' b':Bool}(h:(o',a',b')=(o,a,b)):Fin H (.tup [.agg [.s o.name,.sl (o.args.map .s) o.args.length,.s o.sort,.sl (o.pieces.flatMap bZ) o.pieces.length,.i .i64 o.prec,.i .i64 o.assoc,.sl (o.strict.map (.i .i64)) o.strict.length],.b a,.b b]) (.tup [.agg [.s o'.name,.sl (o'.args.map .s) o'.args.length,.s o'.sort,.sl (o'.pieces.flatMap bZ) o'.pieces.length,.i .i64 o'.prec,.i .i64 o'.assoc,.sl (o'.strict.map (.i .i64)) o'.strict.length],.b a',.b b']):=by
 injection h with h1 h2;injection h2 with h2 h3;subst h1 h2 h3;exact aV rfl (by simp only[pers,persL,jW,jR,rV,dW])
theorem aUd{H:List AObj}{x r:Str}{l:List Str}:Fin H (.tup [.agg [.s x,.sl (l.map .s) l.length,.s r,.e0,.i .i64 0,.i .i64 0,.e0],.b true]) (.tup [elO ⟨x,l,r,[],0,0,[]⟩,.b true]):=
 .inr ⟨⟨⟨rfl,by show _=gJ dep H _;simp only[fS,pers,jW,if_true];rfl,rfl,rfl,rfl,rfl,rfl,trivial⟩,rfl,trivial⟩,by simp[elO,bG,cX,finIdsL,avs,avb,avi],by simp[elO,bG,cX,finIdsL,avs,avb,avi]⟩
theorem bTj(x:Str): CT 219 [.s x] (sW (uD x)):=by
 refine aZ cI Tryz.func219 g0 ?_
 ·skip;(refine zt3 (bLt x) (bTe x) (bTd x) ?_;repeat' first|exact trivial|refine zJ ?_ ?_|refine zH fun hc=>?_)
  ·rw[uD,if_neg (by rw[hc];simp)];exact aEg
  ·rw[uD,if_pos hc];exact aUd
def called(s:dF)(x:Str):LOp×Bool×Bool:=match X5 s x with
 |some o=>(o,false,true)
 |none=>match K8 s x with
  |some o=>(o,true,true)
  |none=>match uD x with
   |some o=>(o,true,true)
   |none=>(default,true,false)
theorem aVe(s:dF)(x:Str): CT 160 [cD s,.s x] (.tup [elO (called s x).1,.b (called s x).2.1,.b (called s x).2.2]):=by
 refine aZ cI Tryz.func160 g0 ?_
 ·skip;have c1:=bRh s x;have c2:=bZd s x;have c3:=bTj x;cases h1:X5 s x with
  |some o=>
   rw[h1]at c1;(repeat'(first|refine gT ?_ ?_|refine gF ?_ ?_|refine gC ?_ ?_|((refine bM (c1) ?_ ?_;(focus(simp -implicitDefEqProofs (disch:=omega) only[sW,zdB,go_sem,simprocAttr];done)));simp -implicitDefEqProofs (disch:=omega) only[sW,go_sem,simprocAttr])|refine aU (by omega) ?_|(intro hr;have hc:=hr;(try simp only[zdz]at hc);simp -implicitDefEqProofs (disch:=omega) only[hr,sW,go_sem,simprocAttr];(try clear hr))));exact vB (by simp only[called,h1])
  |none=>
  rw[h1]at c1;cases h2:K8 s x with
  |some o=>
   rw[h2]at c2;(repeat'(first|refine gT ?_ ?_|refine gF ?_ ?_|refine gC ?_ ?_|((first|(refine bM (c1) ?_ ?_;(focus(simp -implicitDefEqProofs (disch:=omega) only[sW,zdB,go_sem,simprocAttr];done)))|(refine bM (c2) ?_ ?_;(focus(simp -implicitDefEqProofs (disch:=omega) only[sW,zdB,go_sem,simprocAttr];done))));simp -implicitDefEqProofs (disch:=omega) only[sW,go_sem,simprocAttr])|refine aU (by omega) ?_|(intro hr;have hc:=hr;(try simp only[zdz]at hc);simp -implicitDefEqProofs (disch:=omega) only[hr,sW,go_sem,simprocAttr];(try clear hr))));exact vB (by simp only[called,h1,h2])
  |none=>
  rw[h2]at c2;cases h3:uD x with
  |some o=>
   rw[h3]at c3;(repeat'(first|refine gT ?_ ?_|refine gF ?_ ?_|refine gC ?_ ?_|((first|(refine bM (c1) ?_ ?_;(focus(simp -implicitDefEqProofs (disch:=omega) only[sW,zdB,go_sem,simprocAttr];done)))|(refine bM (c2) ?_ ?_;(focus(simp -implicitDefEqProofs (disch:=omega) only[sW,zdB,go_sem,simprocAttr];done)))|(refine bM (c3) ?_ ?_;(focus(simp -implicitDefEqProofs (disch:=omega) only[sW,zdB,go_sem,simprocAttr];done))));simp -implicitDefEqProofs (disch:=omega) only[sW,go_sem,simprocAttr])|refine aU (by omega) ?_|(intro hr;have hc:=hr;(try simp only[zdz]at hc);simp -implicitDefEqProofs (disch:=omega) only[hr,sW,go_sem,simprocAttr];(try clear hr))));exact vB (by simp only[called,h1,h2,h3])
  |none=>
   rw[h3]at c3;(repeat'(first|refine gT ?_ ?_|refine gF ?_ ?_|refine gC ?_ ?_|((first|(refine bM (c1) ?_ ?_;(focus(simp -implicitDefEqProofs (disch:=omega) only[sW,zdB,go_sem,simprocAttr];done)))|(refine bM (c2) ?_ ?_;(focus(simp -implicitDefEqProofs (disch:=omega) only[sW,zdB,go_sem,simprocAttr];done)))|(refine bM (c3) ?_ ?_;(focus(simp -implicitDefEqProofs (disch:=omega) only[sW,zdB,go_sem,simprocAttr];done))));simp -implicitDefEqProofs (disch:=omega) only[sW,go_sem,simprocAttr])|refine aU (by omega) ?_|(intro hr;have hc:=hr;(try simp only[zdz]at hc);simp -implicitDefEqProofs (disch:=omega) only[hr,sW,go_sem,simprocAttr];(try clear hr))));exact vB (by simp only[called,h1,h2,h3])
def jU(s:dF)(t:LTerm):Str:=if t.kind=1 then mE else if t.kind=2 then mM else if t.kind=3 then zF else if t.kind=4 then idS else if t.kind=7 then tW else if t.kind=8 then J8 else if t.kind=5 then(called s t.text).1.sort else if existsA s t.sort then t.sort else []
theorem aEs(s:dF)(t:LTerm): CT 119 [cD s,elT t] (.s (jU s t)):=by
 refine aZ cI Tryz.func119 g0 ?_
 ·skip;(refine zt2 (aVe s t.text) (aEp s t.sort) ?_;repeat' first|exact trivial|refine zJ ?_ ?_|refine zH fun hc=>?_);all_goals refine aV (congrArg AV.s ?_) rfl
  all_goals simp only[jU, *,if_true,if_false,aE,Int.reduceEq]
  all_goals rfl
def argsR2(s:dF)(x:Str):List Str×Str×Bool:=match X5 s x with
 |some o=>(o.args,o.sort,true)
 |none=>match K8 s x with
  |some o=>(o.args,o.sort,true)
  |none=>if jO.contains x then((N1 x).1,(N1 x).2,true)else([],[],false)
theorem L5{H:List AObj}{l l':List Str}{r r':Str}{b b':Bool}(h:(l',r',b')=(l,r,b)):Fin H (.tup [.sl (l.map .s) l.length,.s r,.b b]) (.tup [.sl (l'.map .s) l'.length,.s r',.b b']):=by
 injection h with h1 h2;injection h2 with h2 h3;subst h1 h2 h3;exact aV rfl (by simp only[pers,persL,jW,dW])
theorem aUf{H:List AObj}{l':List Str}{r r':Str}{b b':Bool}(h:(l',r',b')=([],r,b)):Fin H (.tup [.e0,.s r,.b b]) (.tup [.sl (l'.map .s) l'.length,.s r',.b b']):=by
 injection h with h1 h2;injection h2 with h2 h3;subst h1 h2 h3;exact .inr ⟨⟨rfl,rfl,rfl,trivial⟩,by simp[cX,finIdsL],by simp[cX,finIdsL]⟩
theorem bGd(s:dF)(x:Str)(hs:OkS s): CT 226 [.agg (bX s),.s x] (.tup [avs (argsR2 s x).1,.s (argsR2 s x).2.1,.b (argsR2 s x).2.2]):=by
 refine aZ cI Tryz.func226 g0 ?_
 ·skip;have c1:Ctr _ _ _ _ (iV (X5 s x)):=aLk s.ops x hs.ops;have c2:Ctr _ _ _ _ (iV (K8 s x)):=aLk s.funs x hs.funs;cases h1:X5 s x with
  |some o=>
   rw[h1]at c1;(repeat'(first|refine gT ?_ ?_|refine gF ?_ ?_|refine gC ?_ ?_|((refine bM (c1) ?_ ?_;(focus(simp -implicitDefEqProofs (disch:=omega) only[iV,zdB,go_sem,simprocAttr];done)));simp -implicitDefEqProofs (disch:=omega) only[iV,go_sem,simprocAttr])|refine aU (by omega) ?_|(intro hr;have hc:=hr;(try simp only[zdz]at hc);simp -implicitDefEqProofs (disch:=omega) only[hr,iV,go_sem,simprocAttr];(try clear hr))));exact L5 (by simp only[argsR2,h1])
  |none=>
  rw[h1]at c1;cases h2:K8 s x with
  |some o=>
   rw[h2]at c2;(repeat'(first|refine gT ?_ ?_|refine gF ?_ ?_|refine gC ?_ ?_|((first|(refine bM (c1) ?_ ?_;(focus(simp -implicitDefEqProofs (disch:=omega) only[iV,zdB,go_sem,simprocAttr];done)))|(refine bM (c2) ?_ ?_;(focus(simp -implicitDefEqProofs (disch:=omega) only[iV,zdB,go_sem,simprocAttr];done))));simp -implicitDefEqProofs (disch:=omega) only[iV,go_sem,simprocAttr])|refine aU (by omega) ?_|(intro hr;have hc:=hr;(try simp only[zdz]at hc);simp -implicitDefEqProofs (disch:=omega) only[hr,iV,go_sem,simprocAttr];(try clear hr))));exact L5 (by simp only[argsR2,h1,h2])
  |none=>
   rw[h2]at c2;(repeat'(first|refine gT ?_ ?_|refine gF ?_ ?_|refine gC ?_ ?_|((first|(refine bM (c1) ?_ ?_;(focus(simp -implicitDefEqProofs (disch:=omega) only[iV,zdB,go_sem,simprocAttr];done)))|(refine bM (c2) ?_ ?_;(focus(simp -implicitDefEqProofs (disch:=omega) only[iV,zdB,go_sem,simprocAttr];done)))|(refine bM (bLs x) ?_ ?_;(focus(simp -implicitDefEqProofs (disch:=omega) only[iV,zdB,go_sem,simprocAttr];done)))|(refine bM (bTi x) ?_ ?_;(focus(simp -implicitDefEqProofs (disch:=omega) only[iV,zdB,go_sem,simprocAttr];done))));simp -implicitDefEqProofs (disch:=omega) only[iV,go_sem,simprocAttr])|refine aU (by omega) ?_|(intro hr;have hc:=hr;(try simp only[zdz]at hc);simp -implicitDefEqProofs (disch:=omega) only[hr,iV,go_sem,simprocAttr];(try clear hr))))
   ·exact aUf (by simp only[argsR2,h1,h2,hc,aE,if_false])
   ·exact L5 (by simp only[argsR2,h1,h2,hc,if_true])
def ofR(s:dF)(t:LTerm):Str×Bool:=if t.kind=1 then(mE,true)else if t.kind=2 then(mM,true)else if t.kind=3 then(zF,true)else if t.kind=4 then(idS,true)else if t.kind=7 then(tW,true)else if t.kind=8 then(J8,true)else if t.kind=6 then(t.sort,jZ s t.sort)else((argsR2 s t.text).2.1,(argsR2 s t.text).2.2)
theorem aLi(s:dF)(t:LTerm)(hs:OkS s): CT 171 [.agg (bX s),elT t] (.tup [.s (ofR s t).1,.b (ofR s t).2]):=by
 refine aZ cI Tryz.func171 g0 ?_
 ·skip;(refine zt4 (bGd s t.text hs) bLq (E2 qH t.sort (by decide)) (E2 s.sorts t.sort hs.sorts) ?_;repeat' first|exact trivial|refine zJ ?_ ?_|refine zH fun hc=>?_);all_goals refine aV ?_ rfl
  all_goals simp only[ofR,jZ, *,if_true,if_false,aX,cV,Int.reduceEq]
  all_goals rfl
theorem kC(b:Bool):b=true∨b=false:=by cases b<;>simp
theorem aLj(l m:List LTerm)(hl:l.length≤1466015503701)(hm:m.length≤1466015503701)(ih:∀a∈l,∀b∈m,CT 24 [elT a,elT b] (.b (decide (a=b)))): CT 64 [avt l,avt m] (.b (decide (l=m))):=by
 refine cW cI Tryz.func64 g0 ?_
 ·simp -implicitDefEqProofs (disch:=omega) only[Tryz.f64,go_sem,List.replicate,simprocAttr,avt];(refine zs0 ?_;repeat' first|exact trivial|refine zJ ?_ ?_|refine zH fun hc=>?_)
  ·refine aV ?_ (by rfl);have:l≠m:=fun h=>by rw[h]at hc;exact hc rfl
   rw[zf this]
  refine cO (fun(k:Nat)=>(.k::.k::.k::.k::.j::.j::(rp 7 .k (.v (.i .i64 k)::(rp 13 .j []))))) (fun k=>[]) (fun k=>k≤l.length∧∀j,j<k→l.getD j default=m.getD j default) (fun k=>l.length-k) (0) ⟨aR _,fun j h=>by omega⟩ rfl (by simp[fO]) ?_;rintro k j ⟨hk,ha⟩;have o:k<l.length→k<m.length→CT 24 [elT (l.getD k default),elT (m.getD k default)] (.b (decide (l.getD k default=m.getD k default))):=fun h h'=>ih _ (cC h) _ (cC h');refine zg ?_;(refine zt1 o ?_;repeat' first|exact trivial|refine zJ ?_ ?_|refine zH fun hc=>?_)
  ·refine aV ?_ (by rfl);have:l≠m:=fun h=>by simp[h]at *
   rw[zf this]
  ·exact⟨k+1,⟨by omega,cR ha (by simpa using hc)⟩,by omega,by simp⟩
  ·refine aV ?_ (by rfl);have:l=m:=aHr (d:=default) (by omega) (fun j hj=>ha j (by omega));rw[zt this]
theorem aLc(l m:List LTerm)(hl:l.length≤1466015503701)(hm:m.length≤1466015503701)(ih:∀a∈l,∀b∈m,CT 69 [elT a,elT b] (.b (decide (a=b)))): CT 129 [avt l,avt m,.fn 69 [] []] (.b (decide (l=m))):=by
 refine cW cI Tryz.func129 g0 ?_
 ·simp -implicitDefEqProofs (disch:=omega) only[Tryz.f129,go_sem,List.replicate,simprocAttr,avt];(refine zs0 ?_;repeat' first|exact trivial|refine zJ ?_ ?_|refine zH fun hc=>?_)
  ·refine aV ?_ (by rfl);have:l≠m:=fun h=>by rw[h]at hc;exact hc rfl
   rw[zf this]
  refine gW (fun(k:Nat)=>(rp 6 .k (.j::.j::.j::.j::(rp 7 .k (.v (.i .i64 k)::(rp 14 .j [])))))) (fun k=>[]) (fun k=>k≤l.length∧∀j,j<k→l.getD j default=m.getD j default) (fun k=>l.length-k) (0) _ ⟨aR _,fun j h=>by omega⟩ rfl (by simp[fO]) ?_;rintro k g j ⟨hk,ha⟩;have o:k<l.length→k<m.length→CT 69 [elT (l.getD k default),elT (m.getD k default)] (.b (decide (l.getD k default=m.getD k default))):=fun h h'=>ih _ (cC h) _ (cC h');refine zg ?_;(refine zt1 o ?_;repeat' first|exact trivial|refine zJ ?_ ?_|refine zH fun hc=>?_)
  ·refine aV ?_ (by rfl);have:l≠m:=fun h=>by simp[h]at *
   rw[zf this]
  ·exact⟨k+1,_,⟨by omega,cR ha (by simpa using hc)⟩,by omega,rfl,by simp⟩
  ·refine aV ?_ (by rfl);have:l=m:=aHr (d:=default) (by omega) (fun j hj=>ha j (by omega));rw[zt this]
def aYm(a b:LTerm):Bool:=decide (a.kind=b.kind)&&decide (a.n=b.n)&&decide (a.text=b.text)&&decide (a.sort=b.sort)&&decide (a.kids=b.kids)&&decide (a.rest=b.rest)
theorem aIx(a b:LTerm):aYm a b=decide (a=b):=by
 rw[dK];simp only[aYm,aB,decide_eq_true_eq,LTerm.ext_iff,and_assoc]
theorem bCj(a b:LTerm)(ha:OkT a)(hb:OkT b)(ihk:∀x∈a.kids,∀y∈b.kids,CT 24 [elT x,elT y] (.b (decide (x=y))))(ihr:∀x∈a.rest,∀y∈b.rest,CT 24 [elT x,elT y] (.b (decide (x=y)))): CT 24 [elT a,elT b] (.b (decide (a=b))):=by
 refine aZ cI Tryz.func24 g0 ?_
 ·skip;have h1:=ha.kids;have h2:=ha.rest;have h3:=hb.kids;have h4:=hb.rest;rw[← aIx];(refine zt2 (aLj a.kids b.kids h1 h3 ihk) (aLj a.rest b.rest h2 h4 ihr) ?_;repeat' first|exact trivial|refine zJ ?_ ?_|refine zH fun hc=>?_);all_goals refine aV ?_ rfl
  all_goals simp only[aYm, *,decide_true,decide_false,Bool.true_and,Bool.false_and,Bool.and_true,Bool.and_false]
theorem U6(a:LTerm):∀(b:LTerm),OkT a→OkT b→CT 24 [elT a,elT b] (.b (decide (a=b))):=
 fG (Q:=fun a=>∀(b:LTerm),OkT a→OkT b→CT 24 [elT a,elT b] (.b (decide (a=b)))) (fun a hk hr b ha hb=>bCj a b ha hb (fun x hx y hy=>hk x hx y (ha.kid x hx) (hb.kid y hy)) (fun x hx y hy=>hr x hx y (ha.rst x hx) (hb.rst y hy))) a
theorem bCe(a b:LTerm)(ha:OkT a)(hb:OkT b)(ihk:∀x∈a.kids,∀y∈b.kids,CT 69 [elT x,elT y] (.b (decide (x=y))))(ihr:∀x∈a.rest,∀y∈b.rest,CT 69 [elT x,elT y] (.b (decide (x=y)))): CT 69 [elT a,elT b] (.b (decide (a=b))):=by
 refine aZ cI Tryz.func69 g0 ?_
 ·skip;have h1:=ha.kids;have h2:=ha.rest;have h3:=hb.kids;have h4:=hb.rest;rw[← aIx];(refine zt2 (aLc a.kids b.kids h1 h3 ihk) (aLc a.rest b.rest h2 h4 ihr) ?_;repeat' first|exact trivial|refine zJ ?_ ?_|refine zH fun hc=>?_);all_goals refine aV ?_ rfl
  all_goals simp only[aYm, *,decide_true,decide_false,Bool.true_and,Bool.false_and,Bool.and_true,Bool.and_false]
theorem aLe(a:LTerm):∀(b:LTerm),OkT a→OkT b→CT 69 [elT a,elT b] (.b (decide (a=b))):=
 fG (Q:=fun a=>∀(b:LTerm),OkT a→OkT b→CT 69 [elT a,elT b] (.b (decide (a=b)))) (fun a hk hr b ha hb=>bCe a b ha hb (fun x hx y hy=>hk x hx y (ha.kid x hx) (hb.kid y hy)) (fun x hx y hy=>hr x hx y (ha.rst x hx) (hb.rst y hy))) a
mutual
def O9:LTerm→LTerm→Int
 | .mk k n t s ks rs,.mk k' n' t' s' ks' rs'=>
   if sG k k'=0 then(if sG n n'=0 then(if rE t t'=0 then(if rE s s'=0 then(if ordPL ks ks'=0 then ordPL rs rs' else ordPL ks ks')else rE s s')else rE t t')else sG n n')else sG k k'
def ordPL:List LTerm→List LTerm→Int
 | [],[]=>0
 | [],_::_ => -1
 |_::_,[]=>1
 |a::l,b::m=>if O9 a b=0 then ordPL l m else O9 a b
end
mutual
def P4:LTerm→LTerm→Int
 | .mk k n t s ks rs,.mk k' n' t' s' ks' rs'=>
   if sG k k'=0 then(if k=1∨k=2 then sG n n' else if k=3∨k=4 then rE t t' else if k=6 then(if rE t t'=0 then rE s s' else rE t t')else if k=5 then(if rE t t'=0 then ordRL ks ks' else rE t t')else(if ordRL ks ks'=0 then ordRL rs rs' else ordRL ks ks'))else sG k k'
def ordRL:List LTerm→List LTerm→Int
 | [],[]=>0
 | [],_::_ => -1
 |_::_,[]=>1
 |a::l,b::m=>if P4 a b=0 then ordRL l m else P4 a b
end
theorem aGs(a b:LTerm):O9 a b=if sG a.kind b.kind=0 then(if sG a.n b.n=0 then(if rE a.text b.text=0 then(if rE a.sort b.sort=0 then(if ordPL a.kids b.kids=0 then ordPL a.rest b.rest else ordPL a.kids b.kids)else rE a.sort b.sort)else rE a.text b.text)else sG a.n b.n)else sG a.kind b.kind:=by
 cases a;cases b;rw[O9];rfl
theorem aSd(a b:LTerm):P4 a b=if sG a.kind b.kind=0 then(if a.kind=1∨a.kind=2 then sG a.n b.n else if a.kind=3∨a.kind=4 then rE a.text b.text else if a.kind=6 then(if rE a.text b.text=0 then rE a.sort b.sort else rE a.text b.text)else if a.kind=5 then(if rE a.text b.text=0 then ordRL a.kids b.kids else rE a.text b.text)else(if ordRL a.kids b.kids=0 then ordRL a.rest b.rest else ordRL a.kids b.kids))else sG a.kind b.kind:=by
 cases a;cases b;rw[P4];rfl
theorem aHu{a b:Int}(h:a<b):sG a b = -1:=if_pos h
theorem aHv{a b:Int}(h:b<a):sG a b=1:=by rw[sG,if_neg (by omega),if_pos h]
theorem aAg{a b:Int}(h:a=b):sG a b=0:=by rw[sG,if_neg (by omega),if_neg (by omega)]
theorem aJp{l m:List LTerm}{k:Nat}(h:k<l.length)(h':k<m.length):ordPL (l.drop k) (m.drop k)=if O9 (l.getD k default) (m.getD k default)=0 then ordPL (l.drop (k+1)) (m.drop (k+1))else O9 (l.getD k default) (m.getD k default):=by
 rw[dL h,dL h',ordPL];simp[List.getD,h,h']
theorem J2{l m:List LTerm}{k:Nat}(h:k=l.length∨k=m.length)(h1:k≤l.length)(h2:k≤m.length):ordPL (l.drop k) (m.drop k)=sG l.length m.length:=by
 by_cases h3:k<l.length
 ·rw[dL h3,cQ (l:=m) (by omega),ordPL,aHv (by omega)]
 ·by_cases h4:k<m.length
  ·rw[dL h4,cQ (l:=l) (by omega),ordPL,aHu (by omega)]
  ·rw[cQ (l:=l) (by omega),cQ (l:=m) (by omega),ordPL,aAg (by omega)]
theorem aJo{l m:List LTerm}{k:Nat}(h:k<l.length)(h':k<m.length):ordRL (l.drop k) (m.drop k)=if P4 (l.getD k default) (m.getD k default)=0 then ordRL (l.drop (k+1)) (m.drop (k+1))else P4 (l.getD k default) (m.getD k default):=by
 rw[dL h,dL h',ordRL];simp[List.getD,h,h']
theorem aDd{l m:List LTerm}{k:Nat}(h:k=l.length∨k=m.length)(h1:k≤l.length)(h2:k≤m.length):ordRL (l.drop k) (m.drop k)=sG l.length m.length:=by
 by_cases h3:k<l.length
 ·rw[dL h3,cQ (l:=m) (by omega),ordRL,aHv (by omega)]
 ·by_cases h4:k<m.length
  ·rw[dL h4,cQ (l:=l) (by omega),ordRL,aHu (by omega)]
  ·rw[cQ (l:=l) (by omega),cQ (l:=m) (by omega),ordRL,aAg (by omega)]
theorem aLd(l m:List LTerm)(hl:l.length≤1466015503701)(hm:m.length≤1466015503701)(ih:∀a∈l,∀b∈m,CT 166 [elT a,elT b] (.i .i64 (O9 a b))): CT 224 [avt l,avt m,.fn 166 [] []] (.i .i64 (ordPL l m)):=by
 refine cW cI Tryz.func224 g0 ?_
 ·simp -implicitDefEqProofs (disch:=omega) only[Tryz.f224,go_sem,List.replicate,simprocAttr,avt];refine gW (fun(k:Nat)=>(rp 6 .k (rp 5 .j (.k::.k::.v (.i .i64 k)::(rp 20 .j (rp 5 .k [])))))) (fun k=>[]) (fun k=>k≤l.length∧k≤m.length∧ordPL l m=ordPL (l.drop k) (m.drop k)) (fun k=>l.length-k) (0) _ ⟨aR _,aR _,rfl⟩ rfl (by simp[fO]) ?_;rintro k g j ⟨hk,hk2,he⟩;have o:k<l.length→k<m.length→CT 166 [elT (l.getD k default),elT (m.getD k default)] (.i .i64 (O9 (l.getD k default) (m.getD k default))):=fun h h'=>ih _ (cC h) _ (cC h');refine zg ?_;(refine zt1 o ?_;repeat' first|exact trivial|refine zJ ?_ ?_|refine zH fun hc=>?_)
  ·exact aV (congrArg _ (by rw[he,J2 (.inr (by omega)) hk hk2,aHv (by omega)])) rfl
  ·exact aV (congrArg _ (by rw[he,aJp (by omega) (by omega),if_neg hc])) rfl
  ·exact⟨k+1,_,⟨by omega,by omega,by rw[he,aJp (by omega) (by omega),if_pos hc]⟩,by omega,rfl,by simp⟩
  ·exact aV (congrArg _ (by rw[he,J2 (.inl (by omega)) hk hk2,aHu (by omega)])) rfl
  ·exact aV (congrArg _ (by rw[he,J2 (.inl (by omega)) hk hk2,aAg (by omega)])) rfl
theorem aLb(l m:List LTerm)(hl:l.length≤1466015503701)(hm:m.length≤1466015503701)(ih:∀a∈l,∀b∈m,CT 174 [elT a,elT b] (.i .i64 (P4 a b))): CT 229 [avt l,avt m] (.i .i64 (ordRL l m)):=by
 refine cW cI Tryz.func229 g0 ?_
 ·simp -implicitDefEqProofs (disch:=omega) only[Tryz.f229,go_sem,List.replicate,simprocAttr,avt];refine cO (fun(k:Nat)=>(.k::.k::.k::.k::.j::.v (.i .i64 k)::(rp 25 .j (rp 5 .k [])))) (fun k=>[]) (fun k=>k≤l.length∧k≤m.length∧ordRL l m=ordRL (l.drop k) (m.drop k)) (fun k=>l.length-k) (0) ⟨aR _,aR _,rfl⟩ rfl (by simp[fO]) ?_;rintro k j ⟨hk,hk2,he⟩;have o:k<l.length→k<m.length→CT 174 [elT (l.getD k default),elT (m.getD k default)] (.i .i64 (P4 (l.getD k default) (m.getD k default))):=fun h h'=>ih _ (cC h) _ (cC h');refine zg ?_;(refine zt2 o (aVb l.length m.length) ?_;repeat' first|exact trivial|refine zJ ?_ ?_|refine zH fun hc=>?_)
  ·exact aV (congrArg _ (by rw[he,aJo (by omega) (by omega),if_neg hc])) rfl
  ·exact⟨k+1,⟨by omega,by omega,by rw[he,aJo (by omega) (by omega),if_pos hc]⟩,by omega,by simp⟩
  ·exact aV (congrArg _ (by rw[he,aDd (.inr (by omega)) hk hk2])) rfl
  ·exact aV (congrArg _ (by rw[he,aDd (.inl (by omega)) hk hk2])) rfl
theorem bEk(a b:LTerm):(if orI [sG a.kind b.kind,sG a.n b.n,rE a.text b.text,rE a.sort b.sort]=0 then orI [ordPL a.kids b.kids,ordPL a.rest b.rest]else orI [sG a.kind b.kind,sG a.n b.n,rE a.text b.text,rE a.sort b.sort])=O9 a b:=by
 rw[aGs];by_cases h1:sG a.kind b.kind=0<;>by_cases h2:sG a.n b.n=0<;>by_cases h3:rE a.text b.text=0<;>by_cases h4:rE a.sort b.sort=0<;>by_cases h5:ordPL a.kids b.kids=0<;>by_cases h6:ordPL a.rest b.rest=0<;>simp only[orI,h1,h2,h3,h4,h5,h6,if_true,if_false]
theorem bCf(a b:LTerm)(ha:OkT a)(hb:OkT b)(ihk:∀x∈a.kids,∀y∈b.kids,CT 166 [elT x,elT y] (.i .i64 (O9 x y)))(ihr:∀x∈a.rest,∀y∈b.rest,CT 166 [elT x,elT y] (.i .i64 (O9 x y))): CT 166 [elT a,elT b] (.i .i64 (O9 a b)):=by
 refine aZ cI Tryz.func166 g0 ?_
 ·skip;have e:=aGs a b;(repeat'(first|refine gT ?_ ?_|refine gF ?_ ?_|refine gC ?_ ?_|((first|refine cF (bSx a.kind b.kind) ?_|refine cF (bSw a.n b.n) ?_|(refine bM (aVc a.text b.text) ?_ ?_;(focus(simp -implicitDefEqProofs (disch:=omega) only[aK,aT,bB,cH,Nat.reduceAdd,zdB,go_sem,simprocAttr];done)))|(refine bM (aVc a.sort b.sort) ?_ ?_;(focus(simp -implicitDefEqProofs (disch:=omega) only[aK,aT,bB,cH,Nat.reduceAdd,zdB,go_sem,simprocAttr];done)))|(refine bM (bGc [sG a.kind b.kind,sG a.n b.n,rE a.text b.text,rE a.sort b.sort] (by simp)) ?_ ?_;(focus(simp -implicitDefEqProofs (disch:=omega) only[aK,aT,bB,cH,Nat.reduceAdd,zdB,go_sem,simprocAttr];done)))|(refine bM (aLd a.kids b.kids ha.kids hb.kids ihk) ?_ ?_;(focus(simp -implicitDefEqProofs (disch:=omega) only[aK,aT,bB,cH,Nat.reduceAdd,zdB,go_sem,simprocAttr];done)))|(refine bM (aLd a.rest b.rest ha.rest hb.rest ihr) ?_ ?_;(focus(simp -implicitDefEqProofs (disch:=omega) only[aK,aT,bB,cH,Nat.reduceAdd,zdB,go_sem,simprocAttr];done)))|(refine bM (bGc [ordPL a.kids b.kids,ordPL a.rest b.rest] (by simp)) ?_ ?_;(focus(simp -implicitDefEqProofs (disch:=omega) only[aK,aT,bB,cH,Nat.reduceAdd,zdB,go_sem,simprocAttr];done))));simp -implicitDefEqProofs (disch:=omega) only[aK,aT,bB,cH,Nat.reduceAdd,go_sem,simprocAttr])|refine aU (by omega) ?_|(intro hr;have hc:=hr;(try simp only[zdz]at hc);simp -implicitDefEqProofs (disch:=omega) only[hr,aK,aT,bB,cH,Nat.reduceAdd,go_sem,simprocAttr];(try clear hr))));all_goals refine aV (congrArg _ ?_) rfl
  ·rw[← bEk a b,if_neg hc]
  ·rw[← bEk a b,if_pos hc]
theorem bCd(a b:LTerm)(ha:OkT a)(hb:OkT b)(ihk:∀x∈a.kids,∀y∈b.kids,CT 174 [elT x,elT y] (.i .i64 (P4 x y)))(ihr:∀x∈a.rest,∀y∈b.rest,CT 174 [elT x,elT y] (.i .i64 (P4 x y))): CT 174 [elT a,elT b] (.i .i64 (P4 a b)):=by
 refine aZ cI Tryz.func174 g0 ?_
 ·skip;have e:=aSd a b;(repeat'(first|refine gT ?_ ?_|refine gF ?_ ?_|refine gC ?_ ?_|((first|(refine bM (aVb a.kind b.kind) ?_ ?_;(focus(simp -implicitDefEqProofs (disch:=omega) only[zdB,go_sem,simprocAttr];done)))|(refine bM (aVb a.n b.n) ?_ ?_;(focus(simp -implicitDefEqProofs (disch:=omega) only[zdB,go_sem,simprocAttr];done)))|(refine bM (bGa a.text b.text) ?_ ?_;(focus(simp -implicitDefEqProofs (disch:=omega) only[zdB,go_sem,simprocAttr];done)))|(refine bM (bGa a.sort b.sort) ?_ ?_;(focus(simp -implicitDefEqProofs (disch:=omega) only[zdB,go_sem,simprocAttr];done)))|(refine bM (aLb a.kids b.kids ha.kids hb.kids ihk) ?_ ?_;(focus(simp -implicitDefEqProofs (disch:=omega) only[zdB,go_sem,simprocAttr];done)))|(refine bM (aLb a.rest b.rest ha.rest hb.rest ihr) ?_ ?_;(focus(simp -implicitDefEqProofs (disch:=omega) only[zdB,go_sem,simprocAttr];done))));simp -implicitDefEqProofs (disch:=omega) only[go_sem,simprocAttr])|refine aU (by omega) ?_|(intro hr;have hc:=hr;(try simp only[zdz]at hc);simp -implicitDefEqProofs (disch:=omega) only[hr,go_sem,simprocAttr];(try clear hr))));all_goals refine aV (congrArg _ ?_) rfl
  all_goals rw[e]
  all_goals(first|rw[if_pos (by assumption)]|rw[if_neg (by assumption)])
  all_goals simp only[*,if_true,if_false,Int.reduceEq,or_true,true_or,or_false,false_or,not_true_eq_false,not_false_eq_true]
theorem bTc(a b:LTerm)(ha:OkT a)(hb:OkT b):CT 166 [elT a,elT b] (.i .i64 (O9 a b)):=
 fG (Q:=fun a=>∀(b:LTerm),OkT a→OkT b→CT 166 [elT a,elT b] (.i .i64 (O9 a b))) (fun a hk hr b ha hb=>bCf a b ha hb (fun x hx y hy=>hk x hx y (ha.kid x hx) (hb.kid y hy)) (fun x hx y hy=>hr x hx y (ha.rst x hx) (hb.rst y hy))) a b ha hb
theorem bSz(a b:LTerm)(ha:OkT a)(hb:OkT b):CT 174 [elT a,elT b] (.i .i64 (P4 a b)):=
 fG (Q:=fun a=>∀(b:LTerm),OkT a→OkT b→CT 174 [elT a,elT b] (.i .i64 (P4 a b))) (fun a hk hr b ha hb=>bCd a b ha hb (fun x hx y hy=>hk x hx y (ha.kid x hx) (hb.kid y hy)) (fun x hx y hy=>hr x hx y (ha.rst x hx) (hb.rst y hy))) a b ha hb
theorem bJy:eK [95]=false:=by decide
theorem aZz:eK [36]=false:=by decide
theorem bJh{s:Str}(h:D4 s=true):eK s=false:=by
 simp only[D4,cM,decide_eq_true_eq]at h;rcases h with rfl|rfl<;>decide
theorem aZu(s:Str):eK s=true→¬s=[95]∧¬s=[36]:=by
 intro h;constructor<;>(rintro rfl;revert h;decide)
theorem aVd(t:LTerm)(ht:OkT t)(h6:t.kind=6): CT 193 [elT t] (.b (dQ t)):=by
 refine gX (rx:=true) (th:=fun i=>if i=19 then some ⟨some 1,[],false,false,false,[],[],0⟩else none) cI Tryz.func193 g0 ?_
 ·simp -implicitDefEqProofs (disch:=omega) only[Tryz.f193,go_sem,List.replicate,simprocAttr];have no1:=aZu t.text;(refine zy2 (zA2 h6 (zA2 @decide_true @decide_false)) (P9 t.text ht.text) (P9 t.sort ht.sort) ?_;repeat' first|exact trivial|refine zJ ?_ ?_|refine zH fun hc=>?_);all_goals try simp only[M8,M9,sI,sH]at *
  all_goals refine aV ?_ rfl
  all_goals(simp_all[dQ,D4,fX,bJy,aZz];done)
theorem aNf{t:LTerm}{so:Str}(hs:eK so=true)(h1:t.rest.length=1)(h6:(t.rest.getD 0 default).kind=6):(dQ (t.rest.getD 0 default)&&eK (t.rest.getD 0 default).text&&decide ((t.rest.getD 0 default).sort=so))=qA t so:=by
 have h0:t.rest.length≠0:=by omega
 generalize hr:t.rest.getD 0 default=r at *
 have h3:qA t so=(eK r.text&&decide (r.sort=so)&&fX r false true true false false):=by
  simp only[qA,hr,h1,h6,decide_true,Nat.one_ne_zero,decide_false,cV,Bool.true_and]
 rw[h3];have h4:dQ r=(if D4 r.text=true then decide (r.sort=bVz)&&fX r false true true false false else eK r.text&&eK r.sort&&fX r false true true false false):=by
  simp only[dQ,h6];rfl
 rw[h4];cases ho:D4 r.text with
 |true=>rw[bJh ho];simp
 |false=>
  by_cases hq:r.sort=so
  ·rw[hq,hs];cases eK r.text<;>cases fX r false true true false false<;>simp
  ·simp[hq]
theorem bFz(t:LTerm)(so:Str)(ht:OkT t)(hso:eK so=true): CT 243 [elT t,.s so] (.b (qA t so)):=by
 refine aZ cI Tryz.func243 g0 ?_
 ·skip;have h1:0<t.rest.length→OkT (t.rest.getD 0 default):=fun h=>ht.rst _ (cC h);have hA:=fun a b=>aNf (t:=t) hso a b;(repeat'(first|refine gT ?_ ?_|refine gF ?_ ?_|refine gC ?_ ?_|((first|(refine bM (aVd (t.rest.getD 0 default) (h1 (by omega)) (by assumption)) ?_ ?_;(focus(simp -implicitDefEqProofs (disch:=omega) only[zdB,go_sem,simprocAttr];done)))|(refine bM (P9 (t.rest.getD 0 default).text (h1 (by omega)).text) ?_ ?_;(focus(simp -implicitDefEqProofs (disch:=omega) only[zdB,go_sem,simprocAttr];done))));simp -implicitDefEqProofs (disch:=omega) only[go_sem,simprocAttr])|refine aU (by omega) ?_|(intro hr;have hc:=hr;(try simp only[zdz]at hc);simp -implicitDefEqProofs (disch:=omega) only[hr,go_sem,simprocAttr];(try clear hr))));all_goals try simp only[M8,M9]at *
  all_goals refine aV ?_ rfl
  all_goals first
   |(have e:=hA (by assumption) (by assumption);clear hA;rw[← e];clear e;simp_all only[decide_true,decide_false,aX,cV,Bool.true_and,Bool.false_and,Bool.and_false,Bool.and_true];done)
   |(clear hA;simp_all only[qA,decide_true,decide_false,aX,cV,Bool.true_and,Bool.false_and,Bool.and_false,Bool.and_true,Nat.one_ne_zero];done)
theorem bJv{t:LTerm}(h:t.kind=1):dQ t=(rX t.n&&fX t true false false false false):=by simp only[dQ,h];rfl
theorem bJu{t:LTerm}(h:t.kind=2):dQ t=((decide (t.n=0)||decide (t.n=1))&&fX t true false false false false):=by simp only[dQ,h];rfl
theorem bJt{t:LTerm}(h:t.kind=3):dQ t=(C0 t.text&&fX t false true false false false):=by simp only[dQ,h];rfl
theorem bJs{t:LTerm}(h:t.kind=4):dQ t=(bEx t.text&&fX t false true false false false):=by simp only[dQ,h];rfl
theorem bJr{t:LTerm}(h:t.kind=5):dQ t=(aJq t.text&&decide (t.kids.length≤8)&&fX t false true false true false):=by simp only[dQ,h];rfl
theorem bJq{t:LTerm}(h:t.kind=7):dQ t=(qA t tW&&fX t false false false true true):=by simp only[dQ,h];rfl
theorem bJp{t:LTerm}(h:t.kind=8):dQ t=(qA t J8&&decide (t.kids.length % 2=0)&&fX t false false false true true):=by simp only[dQ,h];rfl
theorem bKf{α:Type}{l:List α}:l.length=0↔l=[]:=List.length_eq_zero_iff
theorem bCb(t:LTerm)(ht:OkT t)(hk:t.kind=1): CT 193 [elT t] (.b (dQ t)):=by
 refine gX (rx:=true) (th:=fun i=>if i=19 then some ⟨some 1,[],false,false,false,[],[],0⟩else none) cI Tryz.func193 g0 ?_
 ·simp -implicitDefEqProofs (disch:=omega) only[Tryz.f193,go_sem,List.replicate,simprocAttr];(refine zy1 (zA2 hk (zA2 @decide_true @decide_false)) (bGb t.n) ?_;repeat' first|exact trivial|refine zJ ?_ ?_|refine zH fun hc=>?_);all_goals try simp only[M8,M9,sI,sH,bKf]at *
  all_goals refine aV ?_ rfl
  all_goals rw[bJv hk]
  all_goals clear ht
  all_goals first
   |(simp_all only[fX,rX,decide_true,decide_false,aX,cV,Bool.true_and,Bool.false_and,Bool.and_false,Bool.and_true,aY,aF,not_true_eq_false,not_false_eq_true];done)
   |(simp_all[fX,rX]<;>(intros;omega))
theorem bCa(t:LTerm)(ht:OkT t)(hk:t.kind=2): CT 193 [elT t] (.b (dQ t)):=by
 refine gX (rx:=true) (th:=fun i=>if i=19 then some ⟨some 1,[],false,false,false,[],[],0⟩else none) cI Tryz.func193 g0 ?_
 ·simp -implicitDefEqProofs (disch:=omega) only[Tryz.f193,go_sem,List.replicate,simprocAttr];(refine zy1 (zA2 hk (zA2 @decide_true @decide_false)) (bGb t.n) ?_;repeat' first|exact trivial|refine zJ ?_ ?_|refine zH fun hc=>?_);all_goals try simp only[M8,M9,sI,sH,bKf]at *
  all_goals refine aV ?_ rfl
  all_goals rw[bJu hk]
  all_goals clear ht
  all_goals first
   |(simp_all only[fX,rX,decide_true,decide_false,aX,cV,Bool.true_and,Bool.false_and,Bool.and_false,Bool.and_true,aY,aF,not_true_eq_false,not_false_eq_true];done)
   |(simp_all[fX,rX]<;>(intros;omega))
theorem bBz(t:LTerm)(ht:OkT t)(hk:t.kind=3): CT 193 [elT t] (.b (dQ t)):=by
 refine gX (rx:=true) (th:=fun i=>if i=19 then some ⟨some 1,[],false,false,false,[],[],0⟩else none) cI Tryz.func193 g0 ?_
 ·simp -implicitDefEqProofs (disch:=omega) only[Tryz.f193,go_sem,List.replicate,simprocAttr];(refine zy1 (zA2 hk (zA2 @decide_true @decide_false)) (bTb t.text ht.text) ?_;repeat' first|exact trivial|refine zJ ?_ ?_|refine zH fun hc=>?_);all_goals try simp only[M8,M9,sI,sH,bKf]at *
  all_goals refine aV ?_ rfl
  all_goals rw[bJt hk]
  all_goals clear ht
  all_goals first
   |(simp_all only[fX,rX,decide_true,decide_false,aX,cV,Bool.true_and,Bool.false_and,Bool.and_false,Bool.and_true,aY,aF,not_true_eq_false,not_false_eq_true];done)
   |(simp_all[fX,rX]<;>(intros;omega))
theorem bBy(t:LTerm)(ht:OkT t)(hk:t.kind=4): CT 193 [elT t] (.b (dQ t)):=by
 refine gX (rx:=true) (th:=fun i=>if i=19 then some ⟨some 1,[],false,false,false,[],[],0⟩else none) cI Tryz.func193 g0 ?_
 ·simp -implicitDefEqProofs (disch:=omega) only[Tryz.f193,go_sem,List.replicate,simprocAttr];(refine zy1 (zA2 hk (zA2 @decide_true @decide_false)) (bSt t.text ht.text) ?_;repeat' first|exact trivial|refine zJ ?_ ?_|refine zH fun hc=>?_);all_goals try simp only[M8,M9,sI,sH,bKf]at *
  all_goals refine aV ?_ rfl
  all_goals rw[bJs hk]
  all_goals clear ht
  all_goals first
   |(simp_all only[fX,rX,decide_true,decide_false,aX,cV,Bool.true_and,Bool.false_and,Bool.and_false,Bool.and_true,aY,aF,not_true_eq_false,not_false_eq_true];done)
   |(simp_all[fX,rX]<;>(intros;omega))
theorem bBx(t:LTerm)(ht:OkT t)(hk:t.kind=5): CT 193 [elT t] (.b (dQ t)):=by
 refine gX (rx:=true) (th:=fun i=>if i=19 then some ⟨some 1,[],false,false,false,[],[],0⟩else none) cI Tryz.func193 g0 ?_
 ·simp -implicitDefEqProofs (disch:=omega) only[Tryz.f193,go_sem,List.replicate,simprocAttr];(refine zy1 (zA2 hk (zA2 @decide_true @decide_false)) (bSs t.text ht.text) ?_;repeat' first|exact trivial|refine zJ ?_ ?_|refine zH fun hc=>?_);all_goals try simp only[M8,M9,sI,sH,bKf]at *
  all_goals refine aV ?_ rfl
  all_goals rw[bJr hk]
  all_goals clear ht
  all_goals first
   |(simp_all only[fX,rX,decide_true,decide_false,aX,cV,Bool.true_and,Bool.false_and,Bool.and_false,Bool.and_true,aY,aF,not_true_eq_false,not_false_eq_true];done)
   |(simp_all[fX,rX]<;>(intros;omega))
theorem bBw(t:LTerm)(ht:OkT t)(hk:t.kind=7): CT 193 [elT t] (.b (dQ t)):=by
 refine gX (rx:=true) (th:=fun i=>if i=19 then some ⟨some 1,[],false,false,false,[],[],0⟩else none) cI Tryz.func193 g0 ?_
 ·simp -implicitDefEqProofs (disch:=omega) only[Tryz.f193,go_sem,List.replicate,simprocAttr];(refine zy1 (zA2 hk (zA2 @decide_true @decide_false)) (bFz t tW ht (by decide)) ?_;repeat' first|exact trivial|refine zJ ?_ ?_|refine zH fun hc=>?_);all_goals try simp only[M8,M9,sI,sH,bKf]at *
  all_goals refine aV ?_ rfl
  all_goals rw[bJq hk]
  all_goals clear ht
  all_goals first
   |(simp_all only[fX,rX,decide_true,decide_false,aX,cV,Bool.true_and,Bool.false_and,Bool.and_false,Bool.and_true,aY,aF,not_true_eq_false,not_false_eq_true];done)
   |(simp_all[fX,rX]<;>(intros;omega))
theorem bBv(t:LTerm)(ht:OkT t)(hk:t.kind=8): CT 193 [elT t] (.b (dQ t)):=by
 refine gX (rx:=true) (th:=fun i=>if i=19 then some ⟨some 1,[],false,false,false,[],[],0⟩else none) cI Tryz.func193 g0 ?_
 ·simp -implicitDefEqProofs (disch:=omega) only[Tryz.f193,go_sem,List.replicate,simprocAttr];(refine zy1 (zA2 hk (zA2 @decide_true @decide_false)) (bFz t J8 ht (by decide)) ?_;repeat' first|exact trivial|refine zJ ?_ ?_|refine zH fun hc=>?_);all_goals try simp only[M8,M9,sI,sH,bKf]at *
  all_goals refine aV ?_ rfl
  all_goals rw[bJp hk]
  all_goals clear ht
  all_goals first
   |(simp_all only[fX,rX,decide_true,decide_false,aX,cV,Bool.true_and,Bool.false_and,Bool.and_false,Bool.and_true,aY,aF,not_true_eq_false,not_false_eq_true];done)
   |(simp_all[fX,rX]<;>(intros;omega))
theorem bCc(t:LTerm)(h1:¬t.kind=1)(h2:¬t.kind=2)(h3:¬t.kind=3)(h4:¬t.kind=4)(h5:¬t.kind=5)(h6:¬t.kind=6)(h7:¬t.kind=7)(h8:¬t.kind=8): CT 193 [elT t] (.b (dQ t)):=by
 refine gX (rx:=true) (th:=fun i=>if i=19 then some ⟨some 1,[],false,false,false,[],[],0⟩else none) cI Tryz.func193 g0 ?_
 ·simp -implicitDefEqProofs (disch:=omega) only[Tryz.f193,go_sem,List.replicate,simprocAttr];have hn:dQ t=false:=by simp only[dQ,h1,h2,h3,h4,h5,h6,h7,h8,if_false]
  (refine zx0 (zA2 h1 (zA2 h2 (zA2 h3 (zA2 h4 (zA2 h5 (zA2 h6 (zA2 h7 (zA2 h8 (zA2 @decide_true @decide_false))))))))) ?_;repeat' first|exact trivial|refine zJ ?_ ?_|refine zH fun hc=>?_);all_goals exact aV (by rw[hn]) rfl
theorem bSy(t:LTerm)(ht:OkT t):CT 193 [elT t] (.b (dQ t)):=by
 by_cases h1:t.kind=1
 ·exact bCb t ht h1
 by_cases h2:t.kind=2
 ·exact bCa t ht h2
 by_cases h3:t.kind=3
 ·exact bBz t ht h3
 by_cases h4:t.kind=4
 ·exact bBy t ht h4
 by_cases h5:t.kind=5
 ·exact bBx t ht h5
 by_cases h6:t.kind=6
 ·exact aVd t ht h6
 by_cases h7:t.kind=7
 ·exact bBw t ht h7
 by_cases h8:t.kind=8
 ·exact bBv t ht h8
 exact bCc t h1 h2 h3 h4 h5 h6 h7 h8
end Go.Proofs.YtdjcggcjlphdoaaGreatDoor
namespace Go.Vo
section
variable (p:LTerm→Bool)
mutual
def nK:LTerm→Int→Int→Int×Bool
 | .mk k n t s ks rs,d,m=>
   if(decide (d≤60)&&decide (m+1≤2000)&&p (.mk k n t s ks rs))=true then
    (if(lookL ks (d+1) (m+1)).2=true then((lookL ks (d+1) (m+1)).1+rs.length,decide (rs.length=0)||(decide (d<60)&&decide ((lookL ks (d+1) (m+1)).1+rs.length≤2000)))else((lookL ks (d+1) (m+1)).1,false))
   else(m+1,false)
def lookL:List LTerm→Int→Int→Int×Bool
 | [],d,m=>(m,true)
 |k::l,d,m=>if(nK k d m).2=true then lookL l d (nK k d m).1 else((nK k d m).1,false)
end
mutual
def iI:LTerm→Int→Int→Bool×Int
 | .mk k n t s ks rs,d,left=>
   if(decide (left-(1+rs.length)<0)||decide (d<1)||(decide (0<rs.length)&&decide (d<2)) || !p (.mk k n t s ks rs))=true then(false,left-(1+rs.length))else formedL ks (d-1) (left-(1+rs.length))
def formedL:List LTerm→Int→Int→Bool×Int
 | [],d,left=>(true,left)
 |k::l,d,left=>if(iI k d left).1=true then formedL l d (iI k d left).2 else(false,(iI k d left).2)
end
mutual
def wfT:LTerm→Bool
 | .mk k n t s ks rs=>p (.mk k n t s ks rs)&&wfL ks
def wfL:List LTerm→Bool
 | []=>true
 |k::l=>wfT k&&wfL l
end
end
mutual
def nodesT:LTerm→Nat
 | .mk k n t s ks rs=>1+rs.length+nodesL ks
def nodesL:List LTerm→Nat
 | []=>0
 |k::l=>nodesT k+nodesL l
end
mutual
def highT:LTerm→Nat
 | .mk k n t s ks rs=>1+max rs.length (highL ks)
def highL:List LTerm→Nat
 | []=>0
 |k::l=>max (highT k) (highL l)
end
section
variable {p:LTerm→Bool}
mutual
theorem zL(hp:∀t,p t=true→t.rest.length≤1):∀(t:LTerm) (d m:Int),((nK p t d m).2=true↔wfT p t=true∧d+highT t≤61∧m+nodesT t≤2000)∧((nK p t d m).2=true→(nK p t d m).1=m+nodesT t)
 | .mk k n t s ks rs,d,m=>by
   rw[nK,wfT,highT,nodesT];split
   ·rename_i hc;simp only[aB,decide_eq_true_eq]at hc;obtain⟨⟨h1,h2⟩,h3⟩:=hc;have hr:=hp _ h3;simp only[LTerm.rest]at hr;obtain⟨i1,i2⟩:=lookL_spec hp ks (d+1) (m+1) (by omega) (by omega);rw[h3,Bool.true_and];split
    ·rename_i hl;have e:=i2 hl;obtain⟨w,w2,w3⟩:=i1.1 hl;simp only[cM,aB,decide_eq_true_eq,w,true_and,e];exact⟨by omega,fun _=>by omega⟩
    ·rename_i hl;refine⟨⟨(fun h=>by cases h),fun⟨a,b,c⟩=>?_⟩,fun h=>by cases h⟩;exact absurd (i1.2 ⟨a,by omega,by omega⟩) hl
   ·rename_i hc;refine⟨⟨(fun h=>by cases h),fun⟨a,b,c⟩=>?_⟩,fun h=>by cases h⟩;exfalso;refine hc ?_;simp only[aB,decide_eq_true_eq]at a ⊢;exact⟨⟨by omega,by omega⟩,a.1⟩
theorem lookL_spec(hp:∀t,p t=true→t.rest.length≤1):∀(l:List LTerm) (d m:Int),d≤61→m≤2000→((lookL p l d m).2=true↔wfL p l=true∧d+highL l≤61∧m+nodesL l≤2000)∧((lookL p l d m).2=true→(lookL p l d m).1=m+nodesL l)
 | [],d,m,hd,hm=>by
   rw[lookL,wfL,highL,nodesL];exact⟨⟨fun _=>⟨rfl,by omega,by omega⟩,fun _=>rfl⟩,fun _=>by omega⟩
 |k :: l,d,m,hd,hm=>by
  obtain⟨i1,i2⟩:=zL hp k d m;rw[lookL,wfL,highL,nodesL];split
  ·rename_i hk;have e:=i2 hk;obtain⟨w,w2,w3⟩:=i1.1 hk;obtain⟨j1,j2⟩:=lookL_spec hp l d (nK p k d m).1 hd (by omega);rw[w,Bool.true_and,j1];exact⟨⟨fun⟨a,b,c⟩=>⟨a,by omega,by omega⟩,fun⟨a,b,c⟩=>⟨a,by omega,by omega⟩⟩,fun h=>by have:=j2 (j1.2 h);omega⟩
  ·rename_i hk;refine⟨⟨(fun h=>by cases h),fun⟨a,b,c⟩=>?_⟩,fun h=>by cases h⟩;rw[aB]at a;exact absurd (i1.2 ⟨a.1,by omega,by omega⟩) hk
end
mutual
theorem tZ(hp:∀t,p t=true→t.rest.length≤1):∀(t:LTerm) (d m:Int),((iI p t d m).1=true↔wfT p t=true∧(highT t:Int)≤d∧(nodesT t:Int)≤m)∧((iI p t d m).1=true→(iI p t d m).2=m-nodesT t)
 | .mk k n t s ks rs,d,m=>by
   rw[iI,wfT,highT,nodesT];split
   ·rename_i hc;refine⟨⟨(fun h=>by cases h),fun⟨h1,h2,h3⟩=>?_⟩,fun h=>by cases h⟩;exfalso;simp only[aB,cM,decide_eq_true_eq,dB]at h1 hc;rcases hc with((hc|hc)|⟨hc,hc'⟩)|hc
    ·omega
    ·omega
    ·omega
    ·rw[h1.1]at hc;cases hc
   ·rename_i hc;simp only[cM,aB,decide_eq_true_eq,dB,not_or,not_and,Bool.not_eq_false]at hc;obtain⟨⟨⟨h1,h2⟩,h4⟩,h3⟩:=hc;have hr:=hp _ h3;simp only[LTerm.rest]at hr;obtain⟨i1,i2⟩:=formedL_spec hp ks (d-1) (m-(1+rs.length)) (by omega) (by omega);rw[h3,Bool.true_and,i1];exact⟨⟨fun⟨a,b,c⟩=>⟨a,by omega,by omega⟩,fun⟨a,b,c⟩=>⟨a,by omega,by omega⟩⟩,fun h=>by have:=i2 (i1.2 h);omega⟩
theorem formedL_spec(hp:∀t,p t=true→t.rest.length≤1):∀(l:List LTerm) (d m:Int),0≤d→0≤m→((formedL p l d m).1=true↔wfL p l=true∧(highL l:Int)≤d∧(nodesL l:Int)≤m)∧((formedL p l d m).1=true→(formedL p l d m).2=m-nodesL l)
 | [],d,m,hd,hm=>by
   rw[formedL,wfL,highL,nodesL];exact⟨⟨fun _=>⟨rfl,by omega,by omega⟩,fun _=>rfl⟩,fun _=>by omega⟩
 |k :: l,d,m,hd,hm=>by
  obtain⟨i1,i2⟩:=tZ hp k d m;rw[formedL,wfL,highL,nodesL];split
  ·rename_i hk;have e:=i2 hk;obtain⟨w,w2,w3⟩:=i1.1 hk;obtain⟨j1,j2⟩:=formedL_spec hp l d (iI p k d m).2 hd (by omega);rw[w,Bool.true_and,j1];exact⟨⟨fun⟨a,b,c⟩=>⟨a,by omega,by omega⟩,fun⟨a,b,c⟩=>⟨a,by omega,by omega⟩⟩,fun h=>by have:=j2 (j1.2 h);omega⟩
  ·rename_i hk;refine⟨⟨(fun h=>by cases h),fun⟨a,b,c⟩=>?_⟩,fun h=>by cases h⟩;rw[aB]at a;exact absurd (i1.2 ⟨a.1,by omega,by omega⟩) hk
end
def iQ(p:LTerm→Bool)(t:LTerm):Bool:=wfT p t&&decide (highT t≤60)&&decide (nodesT t≤2000)
theorem aNr(hp:∀t,p t=true→t.rest.length≤1)(t:LTerm):(nK p t 1 0).2=iQ p t:=by
 rw[dK,(zL hp t 1 0).1,iQ];simp only[aB,decide_eq_true_eq];exact⟨fun⟨a,b,c⟩=>⟨⟨a,by omega⟩,by omega⟩,fun⟨⟨a,b⟩,c⟩=>⟨a,by omega,by omega⟩⟩
theorem aEa(hp:∀t,p t=true→t.rest.length≤1)(t:LTerm):(iI p t 60 2000).1=iQ p t:=by
 rw[dK,(tZ hp t 60 2000).1,iQ];simp only[aB,decide_eq_true_eq];exact⟨fun⟨a,b,c⟩=>⟨⟨a,by omega⟩,by omega⟩,fun⟨⟨a,b⟩,c⟩=>⟨a,by omega,by omega⟩⟩
end
end Go.Vo
namespace Go.Proofs.YtdjcggcjlphdoaaGreatDoor
open Go Go.Vo
open Nat (reduceAdd reduceSub reduceMul reduceLeDiff reduceLT reduceEqDiff)
open Int (reduceNeg)
theorem aKd(p:LTerm→Bool)(t:LTerm)(d m:Int):nK p t d m=if(decide (d≤60)&&decide (m+1≤2000)&&p t)=true then(if(lookL p t.kids (d+1) (m+1)).2=true then((lookL p t.kids (d+1) (m+1)).1+t.rest.length,decide (t.rest.length=0)||(decide (d<60)&&decide ((lookL p t.kids (d+1) (m+1)).1+t.rest.length≤2000)))else((lookL p t.kids (d+1) (m+1)).1,false))else(m+1,false):=by
 cases t;rw[nK];rfl
theorem bAh{p:LTerm→Bool}{l:List LTerm}{k:Nat}{d m:Int}(h:k<l.length):lookL p (l.drop k) d m=if(nK p (l.getD k default) d m).2=true then lookL p (l.drop (k+1)) d (nK p (l.getD k default) d m).1 else((nK p (l.getD k default) d m).1,false):=by
 rw[dL h,lookL];simp[List.getD,h]
theorem bAg{p:LTerm→Bool}{t:LTerm}{d m:Int}(hp:∀t,p t=true→t.rest.length≤1)(hm:0≤m)(h:(nK p t d m).2=true):0≤(nK p t d m).1∧(nK p t d m).1≤2000:=by
 have s:=zL hp t d m;rw[s.2 h];have:=s.1.1 h;omega
theorem aHf{p:LTerm→Bool}{t:LTerm}{d m:Int}(h:(decide (d≤60)&&decide (m+1≤2000)&&p t)=false):nK p t d m=(m+1,false):=by
 rw[aKd,if_neg (by rw[h];simp)]
abbrev bDs(t:LTerm)(d m:Int):AV→List AObj→Prop:=fun r h'=>r=.tup []∧∃g,h'=.box false [.i .i64 (nK dQ t d m).1,.b (nK dQ t d m).2]::g
theorem xR{t:LTerm}{d m a:Int}{b:Bool}{h g:List AObj}(e:nK dQ t d m=(a,b))(hh:h=.box false [.i .i64 a,.b b]::g):bDs t d m (.tup []) h:=⟨rfl,g,by rw[e];exact hh⟩
def H6(d m:Int)(j:Nat):Bool:=decide (j=0)||(decide (d<60)&&decide (m+j≤2000))
@[simp] theorem bVt{d m:Int}:H6 d m 0=true:=by simp[H6]
theorem wE{d m:Int}{j:Nat}:H6 d m (j+1)=(H6 d m j&&decide (d<60)&&decide (m+j+1≤2000)):=by
 rw[dK];simp only[H6,cM,aB,decide_eq_true_eq];omega
theorem bXj(t:LTerm)(d m:Int)(ht:OkT t)(hm0:0≤m)(hm:m≤2000)(hd0:0≤d)(hd:d≤100)(ih:∀k∈t.kids,∀(d m:Int),0≤m→m≤2000→0≤d→d≤100→ACalls Tryz.prog G0 121 [.ptr 0 0,elT k,.i .i64 d] [.box false [.i .i64 m,.b true]] (bDs k d m)): ACalls Tryz.prog G0 121 [.ptr 0 0,elT t,.i .i64 d] [.box false [.i .i64 m,.b true]] (bDs t d m):=by
 refine gL (rx:=false) (th:=fun _=>none) cI Tryz.func121 ?_
 ·simp -implicitDefEqProofs (disch:=omega) only[Tryz.f121,go_sem,List.replicate,simprocAttr];have hk1:=ht.kids;have hr1:=ht.rest;have c:=bSy t ht;cases hnb:dQ t with
  |false=>
   rw[hnb]at c;(refine zt1 c ?_;repeat' first|exact trivial|refine zJ ?_ ?_|refine zH fun hc=>?_);all_goals exact xR (aHf (by simp only[hnb,Bool.and_false])) rfl
  |true=>
  rw[hnb]at c;(refine zt1 c ?_;repeat' first|exact trivial|refine zJ ?_ ?_|refine zH fun hc=>?_);rotate_left
  ·exact xR (aHf (by simp only[*,decide_true,decide_false,Bool.false_and,Bool.and_false,Bool.true_and])) rfl
  ·exact xR (aHf (by simp only[*,decide_true,decide_false,Bool.false_and,Bool.and_false,Bool.true_and])) rfl
  have hif:nK dQ t d m=_:=aKd dQ t d m;rw[if_pos (by simp only[*,decide_true,dW])]at hif;refine gW (fun(s:Nat×Int)=>(rp 7 .k (.j::(rp 37 .k (.v (.i .i64 (s.1:Nat))::(rp 14 .j (rp 31 .k []))))))) (fun s=>[.box false [.i .i64 s.2,.b true],.box false (tmC t)]) (fun s=>s.1≤t.kids.length∧lookL dQ t.kids (d+1) (m+1)=lookL dQ (t.kids.drop s.1) (d+1) s.2∧0≤s.2∧s.2≤2000) (fun s=>t.kids.length-s.1) ((0,m+1)) _ ⟨aR _,rfl,by dsimp only;omega,by dsimp only;omega⟩ rfl (by simp[fO]) ?_;rintro⟨k,m2⟩ g j ⟨hk,hL,hm20,hm2⟩;dsimp only at hk hL hm20 hm2;refine zg ?_;(refine zs0 ?_;repeat' first|exact trivial|refine zJ ?_ ?_|refine zH fun hc=>?_)
  ·have hlt:k<t.kids.length:=by omega
   rw[bAh hlt]at hL;refine bCp 0 g0 (ih _ (cC (d:=default) hlt) (d+1) m2 hm20 hm2 (by omega) (by omega)) rfl rfl rfl rfl ?_ ?_
   ·simp only[renL,ren,elT,aI,avt,renL_pers _ _ eW,mY]
   ·intro g2;refine zg ?_;(refine zs0 ?_;repeat' first|exact trivial|refine zJ ?_ ?_|refine zH fun hc=>?_)
    ·rw[if_neg (by rw[show(nK dQ (t.kids.getD k default) (d+1) m2).2=false from hc];simp)]at hL;rw[hL,if_neg (by simp)]at hif;rw[show(nK dQ (t.kids.getD k default) (d+1) m2).2=false from hc];exact xR hif rfl
    ·have e:(nK dQ (t.kids.getD k default) (d+1) m2).2=true:=hc;rw[if_pos e]at hL;have hle:=bAg qV hm20 e;rw[e];exact⟨(k+1,(nK dQ (t.kids.getD k default) (d+1) m2).1),_,⟨by dsimp only;omega,hL,hle.1,hle.2⟩,by dsimp only;omega,rfl,by simp⟩
  ·rw[cQ (by omega),lookL]at hL;rw[hL,if_pos rfl]at hif;refine cO (fun(i:Nat)=>(rp 63 .k (.v (.i .i64 (i:Nat))::(rp 27 .j [])))) (fun i=>.box false [.i .i64 (m2+(i:Nat)),.b (H6 d m2 i)]::.box false (tmC t)::g) (fun i=>i≤t.rest.length) (fun i=>t.rest.length-i) (0) (aR _) (by simp[avs,avb,avi,avo,bG]) (by simp[fO]) ?_;rintro i j hi;refine zg ?_;(refine zs0 ?_;repeat' first|exact trivial|refine zJ ?_ ?_|refine zH fun hc=>?_)
   ·exact⟨i+1,by omega,by omega,by rw[wE,show H6 d m2 i=true by assumption,Int.natCast_succ,← Int.add_assoc];simp only[Bool.true_and,zt hc],by simp⟩
   ·exact⟨i+1,by omega,by omega,by rw[wE,Int.natCast_succ,← Int.add_assoc];simp only[zf hc,Bool.and_false,Bool.false_and],by simp⟩
   ·exact⟨i+1,by omega,by omega,by rw[wE,hc,Int.natCast_succ,← Int.add_assoc];simp only[Bool.false_and],by simp⟩
   ·have e:i=t.rest.length:=by omega
    exact xR hif (by rw[e];rfl)
theorem look:∀(t:LTerm),OkT t→∀(d m:Int),0≤m→m≤2000→0≤d→d≤100→ACalls Tryz.prog G0 121 [.ptr 0 0,elT t,.i .i64 d] [.box false [.i .i64 m,.b true]] (bDs t d m):=
 fG fun t hk _ ht d m h1 h2 h3 h4=>bXj t d m ht h1 h2 h3 h4 (fun k hmem d m a b c e=>hk k hmem (ht.kid k hmem) d m a b c e)
theorem aLg(t:LTerm)(ht:OkT t): CT 59 [elT t] (.b (iQ dQ t)):=by
 refine aZ cI Tryz.func59 g0 ?_
 ·skip;(refine zs0 ?_;repeat' first|exact trivial|refine zJ ?_ ?_|refine zH fun hc=>?_);refine bCp 1 g0 (look t ht 1 0 (by decide) (by decide) (by decide) (by decide)) rfl rfl rfl rfl ?_ ?_
  ·simp only[renL,ren,elT,aI,avt,renL_pers _ _ eW,mY]
  ·intro g2;refine zg ?_;(refine zs0 ?_;repeat' first|exact trivial|refine zJ ?_ ?_|refine zH fun hc=>?_);exact aV (by rw[aNr qV]) rfl
theorem aNz(p:LTerm→Bool)(t:LTerm)(d m:Int):iI p t d m=if(decide (m-(1+t.rest.length)<0)||decide (d<1)||(decide (0<t.rest.length)&&decide (d<2)) || !p t)=true then(false,m-(1+t.rest.length))else formedL p t.kids (d-1) (m-(1+t.rest.length)):=by
 cases t;rw[iI];rfl
theorem aOa{p:LTerm→Bool}{l:List LTerm}{k:Nat}{d m:Int}(h:k<l.length):formedL p (l.drop k) d m=if(iI p (l.getD k default) d m).1=true then formedL p (l.drop (k+1)) d (iI p (l.getD k default) d m).2 else(false,(iI p (l.getD k default) d m).2):=by
 rw[dL h,formedL];simp[List.getD,h]
theorem aNy{p:LTerm→Bool}{t:LTerm}{d m:Int}(hp:∀t,p t=true→t.rest.length≤1)(hm:m≤2000)(h:(iI p t d m).1=true):0≤(iI p t d m).2∧(iI p t d m).2≤2000:=by
 have s:=tZ hp t d m;rw[s.2 h];have:=s.1.1 h;omega
abbrev aBd(t:LTerm)(d m:Int):AV→List AObj→Prop:=fun r h'=>r=.b (iI dQ t d m).1∧∃g,h'=.box false [.i .i64 (iI dQ t d m).2]::g
theorem rB{t:LTerm}{d m a:Int}{b:Bool}{h g:List AObj}(e:iI dQ t d m=(b,a))(hh:h=.box false [.i .i64 a]::g):aBd t d m (.b b) h:=⟨by rw[e],g,by rw[e];exact hh⟩
theorem bKu(t:LTerm)(d m:Int)(ht:OkT t)(hm0:0≤m)(hm:m≤2000)(hd0:0≤d)(hd:d≤100)(ih:∀k∈t.kids,∀(d m:Int),0≤m→m≤2000→0≤d→d≤100→ACalls Tryz.prog G0 125 [elT k,.i .i64 d,.ptr 0 0] [.box false [.i .i64 m]] (aBd k d m)): ACalls Tryz.prog G0 125 [elT t,.i .i64 d,.ptr 0 0] [.box false [.i .i64 m]] (aBd t d m):=by
 refine gL (rx:=false) (th:=fun _=>none) cI Tryz.func125 ?_
 ·simp -implicitDefEqProofs (disch:=omega) only[Tryz.f125,go_sem,List.replicate,simprocAttr];have hk1:=ht.kids;have hr1:=ht.rest;have c:=bSu t ht;have e:=aNz dQ t d m;rw[show decide (0<t.rest.length)=decide (0<(t.rest.length:Int)) by simp]at e;have w1:IntKind.i64.wrap (1+(t.rest.length:Int))=1+t.rest.length:=wrap64 (by omega) (by omega);have w2:IntKind.i64.wrap (m-(1+(t.rest.length:Int)))=m-(1+t.rest.length):=wrap64 (by omega) (by omega);cases hnb:dQ t with
  |false=>
   rw[hnb]at c;rw[hnb,Bool.not_false,aY,if_pos rfl]at e;(refine zy1 (zA2 w1 w2) c ?_;repeat' first|exact trivial|refine zJ ?_ ?_|refine zH fun hc=>?_);all_goals first
    |exact rB e rfl
    |(exfalso;simp only[w1,w2]at *;omega)
  |true=>
  rw[hnb]at c;rw[hnb,Bool.not_true,aF]at e;(refine zy1 (zA2 w1 w2) c ?_;repeat' first|exact trivial|refine zJ ?_ ?_|refine zH fun hc=>?_);all_goals try(exfalso;simp only[w1,w2]at *;omega)
  all_goals try exact rB (e.trans (if_pos (by simp only[*,decide_true,decide_false,aX,aY,cV,Bool.true_and,Bool.false_and]))) rfl
  all_goals try exact rB (e.trans (if_pos (by simp[*]))) rfl
  all_goals
   rw[if_neg (by simp only[*,decide_true,decide_false,aX,aY,aF,cV,Bool.true_and,Bool.false_and,aE,not_false_eq_true];try omega)]at e
   refine gW (fun(s:Nat×Int)=>(rp 6 .k (.j::.k::.j::(rp 35 .k (.v (.i .i64 (s.1:Nat))::(rp 10 .j [])))))) (fun s=>[.box false [.i .i64 s.2],.box false (tmC t)]) (fun s=>s.1≤t.kids.length∧formedL dQ t.kids (d-1) (m-(1+t.rest.length))=formedL dQ (t.kids.drop s.1) (d-1) s.2∧0≤s.2∧s.2≤2000) (fun s=>t.kids.length-s.1) ((0,m-(1+t.rest.length))) _ ⟨aR _,rfl,by dsimp only;omega,by dsimp only;omega⟩ rfl (by simp[fO]) ?_
   rintro⟨k,m2⟩ g j ⟨hk,hL,hm20,hm2⟩
   dsimp only at hk hL hm20 hm2
   refine zg ?_
   (refine zs0 ?_;repeat' first|exact trivial|refine zJ ?_ ?_|refine zH fun hc=>?_)
   ·have hlt:k<t.kids.length:=by omega
    rw[aOa hlt]at hL;refine bCp 0 g0 (ih _ (cC (d:=default) hlt) (d-1) m2 hm20 hm2 (by omega) (by omega)) rfl rfl rfl rfl ?_ ?_
    ·simp only[renL,ren,elT,aI,avt,renL_pers _ _ eW,mY]
    ·intro g2;refine zg ?_;(refine zs0 ?_;repeat' first|exact trivial|refine zJ ?_ ?_|refine zH fun hc=>?_)
     ·rw[if_neg (by rw[show(iI dQ (t.kids.getD k default) (d-1) m2).1=false by assumption];simp)]at hL;exact rB (e.trans hL) rfl
     ·rw[if_pos (show(iI dQ (t.kids.getD k default) (d-1) m2).1=true by assumption)]at hL;have hle:=aNy qV hm2 (show(iI dQ (t.kids.getD k default) (d-1) m2).1=true by assumption);exact⟨(k+1,(iI dQ (t.kids.getD k default) (d-1) m2).2),_,⟨by dsimp only;omega,hL,hle.1,hle.2⟩,by dsimp only;omega,rfl,by simp⟩
   ·rw[cQ (by omega),formedL]at hL;exact rB (e.trans hL) rfl
theorem bQi:∀(t:LTerm),OkT t→∀(d m:Int),0≤m→m≤2000→0≤d→d≤100→ACalls Tryz.prog G0 125 [elT t,.i .i64 d,.ptr 0 0] [.box false [.i .i64 m]] (aBd t d m):=
 fG fun t hk _ ht d m h1 h2 h3 h4=>bKu t d m ht h1 h2 h3 h4 (fun k hmem d m a b c e=>hk k hmem (ht.kid k hmem) d m a b c e)
theorem bGe(t:LTerm)(ht:OkT t): CT 63 [elT t] (.b (iQ dQ t)):=by
 refine aZ cI Tryz.func63 g0 ?_
 ·skip;(refine zs0 ?_;repeat' first|exact trivial|refine zJ ?_ ?_|refine zH fun hc=>?_);refine bCp 1 g0 (bQi t ht 60 2000 (by decide) (by decide) (by decide) (by decide)) rfl rfl rfl rfl ?_ ?_
  ·simp only[renL,ren,elT,aI,avt,renL_pers _ _ eW,mY]
  ·intro g2;refine zg ?_;(refine zs0 ?_;repeat' first|exact trivial|refine zJ ?_ ?_|refine zH fun hc=>?_);exact aV (by rw[aEa qV]) rfl
def Q1(n:Nat)(f:Nat→Bool):Bool:=(List.range n).all f
theorem mH{n:Nat}{f:Nat→Bool}(h:∀j,j<n→f j=true):Q1 n f=true:=by
 simp only[Q1,bF,gI];exact h
theorem iZ{n:Nat}{f:Nat→Bool}(j:Nat)(hj:j<n)(h:f j=false):Q1 n f=false:=by
 rw[cT];intro e;simp only[Q1,bF,gI]at e;rw[e j hj]at h;cases h
theorem nD{n:Nat}{f:Nat→Bool}:Q1 n f=true↔∀j,j<n→f j=true:=by
 simp only[Q1,bF,gI]
theorem pX{l:List LTerm}{f:LTerm→Bool}(h:∀j,j<l.length→f (l.getD j default)=true):l.all f=true:=by
 rw[bF];intro x hx;obtain⟨j,hj,rfl⟩:=dG.1 hx;have:=h j hj;simpa[List.getD,hj]using this
theorem yT{l:List LTerm}{f:LTerm→Bool}(j:Nat)(hj:j<l.length)(h:f (l.getD j default)=false):l.all f=false:=by
 rw[cT];intro e;rw[bF.1 e _ (cC hj)]at h;cases h
def J3(s:dF)(t:LTerm):Bool:=match X5 s t.text with
 |none=>false
 |some o=>decide (o.args.length=t.kids.length)&&Q1 t.kids.length (fun i=>mP s (jU s (t.kids.getD i default)) (o.args.getD i []))
def T2(s:dF)(t:LTerm):Bool:=match X5 s t.text with
 |none=>false
 |some o=>decide (o.args.length=t.kids.length)&&Q1 t.kids.length (fun i=>(ofR s (t.kids.getD i default)).2&&sP s (ofR s (t.kids.getD i default)).1 (o.args.getD i []))
def zM(f:LTerm→LTerm→Int)(t:LTerm)(i:Nat):Bool:=E1 (t.kids.getD (2*i) default)&&(decide (i=0)||decide (f (t.kids.getD (2*i-2) default) (t.kids.getD (2*i) default)<0))
def sR(f:LTerm→LTerm→Int)(t:LTerm):Bool:=Q1 ((t.kids.length+1) / 2) (zM f t)
section
variable {f:LTerm→LTerm→Int} {t:LTerm} {i:Nat}
theorem aDv(h:E1 (t.kids.getD (2*i) default)=false):zM f t i=false:=by rw[zM,h,Bool.false_and]
theorem aKi(h:0<((2*i:Nat):Int))(h2:0≤f (t.kids.getD (2*i-2) default) (t.kids.getD (2*i) default)):zM f t i=false:=by
 rw[zM,zf (by omega:¬i=0),zf (by omega:¬f (t.kids.getD (2*i-2) default) (t.kids.getD (2*i) default)<0),cV,Bool.and_false]
theorem aDu(h:E1 (t.kids.getD (2*i) default)=true)(h2:¬0≤f (t.kids.getD (2*i-2) default) (t.kids.getD (2*i) default)):zM f t i=true:=by
 rw[zM,h,zt (by omega:f (t.kids.getD (2*i-2) default) (t.kids.getD (2*i) default)<0),aY];rfl
theorem aTi(h:E1 (t.kids.getD (2*i) default)=true)(h2:¬0<((2*i:Nat):Int)):zM f t i=true:=by
 rw[zM,h,zt (by omega:i=0)];rfl
end
mutual
def nY(s:dF):LTerm→Bool
 | .mk k n x so ks rs => !decide (k=6)&&decide (rs=[])&&plainPL s ks&&(if k=5 then J3 s (.mk k n x so ks rs)else if k=8 then sR O9 (.mk k n x so ks rs)else true)
def plainPL(s:dF):List LTerm→Bool
 | []=>true
 |k::l=>nY s k&&plainPL s l
end
mutual
def qQ(s:dF):LTerm→Bool
 | .mk k n x so ks rs=>plainRL s ks&&(if k=6 then false else if k=5 then T2 s (.mk k n x so ks rs)else if k=8 then sR P4 (.mk k n x so ks rs)else true)&&decide (rs=[])
def plainRL(s:dF):List LTerm→Bool
 | []=>true
 |k::l=>qQ s k&&plainRL s l
end
theorem S4{s:dF}:∀l,plainPL s l=l.all (nY s)
 | []=>rfl
 |k::l=>by rw[plainPL,S4 l];rfl
theorem S3{s:dF}:∀l,plainRL s l=l.all (qQ s)
 | []=>rfl
 |k::l=>by rw[plainRL,S3 l];rfl
theorem xJ(s:dF)(t:LTerm):nY s t=(!decide (t.kind=6)&&decide (t.rest=[])&&t.kids.all (nY s)&&(if t.kind=5 then J3 s t else if t.kind=8 then sR O9 t else true)):=by
 cases t;rw[nY,S4];rfl
theorem aCs(s:dF)(t:LTerm):qQ s t=(t.kids.all (qQ s)&&(if t.kind=6 then false else if t.kind=5 then T2 s t else if t.kind=8 then sR P4 t else true)&&decide (t.rest=[])):=by
 cases t;rw[qQ,S3];rfl
theorem bCh(s:dF)(t:LTerm)(hs:Small s)(ht:OkT t)(ih:∀k∈t.kids,CT 102 [cD s,elT k] (.b (nY s k))): CT 102 [cD s,elT t] (.b (nY s t)):=by
 refine aZ cI Tryz.func102 g0 ?_
 ·skip;have e:=xJ s t;have hk1:=ht.kids;by_cases h6:t.kind=6
  ·rw[zt h6,Bool.not_true,Bool.false_and,Bool.false_and,Bool.false_and]at e;(refine zs0 ?_;repeat' first|exact trivial|refine zJ ?_ ?_|refine zH fun hc=>?_);all_goals first
    |exact aV (by rw[e]) rfl
    |(exfalso;omega)
  by_cases hr:¬t.rest=[]
  ·rw[zf hr,Bool.and_false,Bool.false_and,Bool.false_and]at e;have hr2:¬t.rest.length=0:=fun h=>hr (List.length_eq_zero_iff.1 h);(refine zs0 ?_;repeat' first|exact trivial|refine zJ ?_ ?_|refine zH fun hc=>?_);all_goals first
    |exact aV (by rw[e]) rfl
    |(exfalso;omega)
  have hr:t.rest=[]:=Classical.not_not.1 hr;have hr2:t.rest.length=0:=by rw[hr];rfl
  rw[zf h6,zt hr,Bool.not_false,Bool.true_and,Bool.true_and]at e;(refine zs0 ?_;repeat' first|exact trivial|refine zJ ?_ ?_|refine zH fun hc=>?_)
  ·exfalso;omega
  refine gW (fun(k:Nat)=>(.k::.k::.k::.k::.j::.k::.j::(rp 17 .k (.v (.i .i64 (k:Nat))::(rp 8 .j (rp 77 .k [])))))) (fun k=>[.box false (tmC t)]) (fun k=>k≤t.kids.length∧∀j,j<k→nY s (t.kids.getD j default)=true) (fun k=>t.kids.length-k) (0) _ ⟨aR _,fun j h=>by omega⟩ rfl (by simp[fO]) ?_;rintro k g j ⟨hk,ha⟩;have o:k<t.kids.length→CT 102 [cD s,elT (t.kids.getD k default)] (.b (nY s (t.kids.getD k default))):=fun h=>ih _ (cC h);refine zg ?_;(refine zt1 o ?_;repeat' first|exact trivial|refine zJ ?_ ?_|refine zH fun hc=>?_)
  ·exact aV (by rw[e,yT k (by omega) hc,Bool.false_and]) rfl
  ·exact⟨k+1,_,⟨by omega,cR ha hc⟩,by omega,rfl,by simp⟩
  ·rw[pX (fun j hj=>ha j (by omega)),Bool.true_and,if_pos hc]at e
   have c1:=bRh s t.text;cases h1:X5 s t.text with
   |none=>
    rw[h1]at c1;simp only[J3,h1]at e;(repeat'(first|refine gT ?_ ?_|refine gF ?_ ?_|refine gC ?_ ?_|((refine bM (c1) ?_ ?_;(focus(simp -implicitDefEqProofs (disch:=omega) only[sW,cD,zdB,go_sem,simprocAttr];done)));simp -implicitDefEqProofs (disch:=omega) only[sW,cD,go_sem,simprocAttr])|refine aU (by omega) ?_|(intro hr;have hc:=hr;(try simp only[zdz]at hc);simp -implicitDefEqProofs (disch:=omega) only[hr,sW,cD,go_sem,simprocAttr];(try clear hr))));all_goals exact aV (by rw[e]) rfl
   |some q=>
    rw[h1]at c1;simp only[J3,h1]at e;(repeat'(first|refine gT ?_ ?_|refine gF ?_ ?_|refine gC ?_ ?_|((refine bM (c1) ?_ ?_;(focus(simp -implicitDefEqProofs (disch:=omega) only[sW,cD,zdB,go_sem,simprocAttr];done)));simp -implicitDefEqProofs (disch:=omega) only[sW,cD,go_sem,simprocAttr])|refine aU (by omega) ?_|(intro hr;have hc:=hr;(try simp only[zdz]at hc);simp -implicitDefEqProofs (disch:=omega) only[hr,sW,cD,go_sem,simprocAttr];(try clear hr))))
    ·have hn:¬q.args.length=t.kids.length:=by omega
     rw[zf hn,Bool.false_and]at e;exact aV (by rw[e]) rfl
    have hn:q.args.length=t.kids.length:=by omega
    rw[zt hn,Bool.true_and]at e;refine gW (fun(k:Nat)=>(.k::.k::.k::.k::.j::.k::.k::.k::.k::.j::.j::(rp 47 .k (.v (.i .i64 (k:Nat))::(rp 16 .j (rp 35 .k [])))))) (fun k=>(.box false (tmC t)::(g++[.box false (bG q)]))) (fun k=>k≤t.kids.length∧∀j,j<k→mP s (jU s (t.kids.getD j default)) (q.args.getD j [])=true) (fun k=>t.kids.length-k) (0) [] ⟨aR _,fun j h=>by omega⟩ (by simp[avs,avb,avi,avo,bG,bX]) (by simp[fO]) ?_;rintro kk g2 j2 ⟨hkk,ha2⟩;refine zg ?_;(refine zt2 (aEs s (t.kids.getD kk default)) (aOf s (jU s (t.kids.getD kk default)) (q.args.getD kk []) hs) ?_;repeat' first|exact trivial|refine zJ ?_ ?_|refine zH fun hc=>?_)
    ·exact aV (by rw[e,iZ kk (by omega) hc]) rfl
    ·exact⟨kk+1,_,⟨by omega,cR ha2 hc⟩,by omega,rfl,by simp⟩
    ·exact aV (by rw[e,mH (fun j hj=>ha2 j (by omega))]) rfl
  ·rw[pX (fun j hj=>ha j (by omega)),Bool.true_and,if_neg (by assumption),if_pos hc]at e;refine cO (fun(i:Nat)=>(.k::.k::.k::.k::.j::(rp 6 .k (.v (.i .i64 ((2*i:Nat):Int))::(rp 65 .k (rp 33 .j [])))))) (fun i=>(.box false (tmC t)::g)) (fun i=>2*i≤t.kids.length+1∧∀j,j<i→zM O9 t j=true) (fun i=>t.kids.length+1-2*i) (0) ⟨aR _,fun j h=>by omega⟩ rfl (by simp[fO]) ?_;rintro i j2 ⟨hi,ha2⟩;have h0:(((2*i:Nat):Int)-2).toNat=2*i-2:=by omega
   have o1:2*i<t.kids.length→OkT (t.kids.getD (2*i) default):=fun h=>ht.kid _ (cC h);have o2:2*i<t.kids.length→OkT (t.kids.getD (2*i-2) default):=fun h=>ht.kid _ (cC (by omega));refine zh h0 ?_;(repeat'(first|refine gT ?_ ?_|refine gF ?_ ?_|refine gC ?_ ?_|((first|refine cF (aVf (t.kids.getD (2*i) default)) ?_|refine cF (bTc (t.kids.getD (2*i-2) default) (t.kids.getD (2*i) default) (o2 (by omega)) (o1 (by omega))) ?_);simp -implicitDefEqProofs (disch:=omega) only[h0,go_sem,simprocAttr])|refine aU (by omega) ?_|(intro hr;have hc:=hr;(try simp only[zdz]at hc);simp -implicitDefEqProofs (disch:=omega) only[hr,h0,go_sem,simprocAttr];(try clear hr))))
   ·exact aV (by rw[e,sR,iZ i (by omega) (aKi (by assumption) hc)]) rfl
   ·exact⟨i+1,⟨by omega,cR ha2 (aDu (by assumption) hc)⟩,by omega,by rw[show((2*(i+1):Nat):Int)=((2*i:Nat):Int)+2 by omega]⟩
   ·exact⟨i+1,⟨by omega,cR ha2 (aTi (by assumption) hc)⟩,by omega,by rw[show((2*(i+1):Nat):Int)=((2*i:Nat):Int)+2 by omega]⟩
   ·exact aV (by rw[e,sR,iZ i (by omega) (aDv hc)]) rfl
   ·exact aV (by rw[e,sR,mH (fun j hj=>ha2 j (by omega))]) rfl
  ·rw[pX (fun j hj=>ha j (by omega)),Bool.true_and,if_neg (by assumption),if_neg (by assumption)]at e;exact aV (by rw[e]) rfl
  ·exfalso;omega
theorem bTg(s:dF)(hs:Small s):∀(t:LTerm),OkT t→CT 102 [cD s,elT t] (.b (nY s t)):=
 fG fun t hk _ ht=>bCh s t hs ht (fun k hm=>hk k hm (ht.kid k hm))
theorem bCg(s:dF)(t:LTerm)(hm:Small s)(hs:OkS s)(ht:OkT t)(ih:∀k∈t.kids,CT 104 [.agg (bX s),elT k] (.b (qQ s k))): CT 104 [.agg (bX s),elT t] (.b (qQ s t)):=by
 refine aZ cI Tryz.func104 g0 ?_
 ·skip;have e:=aCs s t;have er:decide ((t.rest.length:Int)=0)=decide (t.rest=[]):=by rw[dK];simp
  have hk1:=ht.kids;refine gW (fun(k:Nat)=>(.k::.k::.k::.k::.j::.k::.j::(rp 10 .k (.v (.i .i64 (k:Nat))::(rp 8 .j (rp 92 .k [])))))) (fun k=>[.box false (bX s),.box false (tmC t)]) (fun k=>k≤t.kids.length∧∀j,j<k→qQ s (t.kids.getD j default)=true) (fun k=>t.kids.length-k) (0) _ ⟨aR _,fun j h=>by omega⟩ rfl (by simp[fO]) ?_;rintro k g j ⟨hk,ha⟩;have o:k<t.kids.length→CT 104 [.agg (bX s),elT (t.kids.getD k default)] (.b (qQ s (t.kids.getD k default))):=fun h=>ih _ (cC h);refine zg ?_;(refine zt1 o ?_;repeat' first|exact trivial|refine zJ ?_ ?_|refine zH fun hc=>?_)
  ·exact aV (by rw[e,yT k (by omega) hc,Bool.false_and,Bool.false_and]) rfl
  ·exact⟨k+1,_,⟨by omega,cR ha hc⟩,by omega,rfl,by simp⟩
  ·rw[if_pos hc,Bool.and_false,Bool.false_and]at e;exact aV (by rw[e]) rfl
  ·rw[pX (fun j hj=>ha j (by omega)),Bool.true_and,if_neg (by assumption),if_pos hc]at e
   have c1:Ctr _ _ _ _ (iV (X5 s t.text)):=aLk s.ops t.text hs.ops;cases h1:X5 s t.text with
   |none=>
    rw[h1]at c1;simp only[T2,h1]at e;(repeat'(first|refine gT ?_ ?_|refine gF ?_ ?_|refine gC ?_ ?_|((refine bM (c1) ?_ ?_;(focus(simp -implicitDefEqProofs (disch:=omega) only[iV,zdB,go_sem,simprocAttr];done)));simp -implicitDefEqProofs (disch:=omega) only[iV,go_sem,simprocAttr])|refine aU (by omega) ?_|(intro hr;have hc:=hr;(try simp only[zdz]at hc);simp -implicitDefEqProofs (disch:=omega) only[hr,iV,go_sem,simprocAttr];(try clear hr))));all_goals exact aV (by rw[e];rfl) rfl
   |some q=>
    rw[h1]at c1;simp only[T2,h1]at e;(repeat'(first|refine gT ?_ ?_|refine gF ?_ ?_|refine gC ?_ ?_|((refine bM (c1) ?_ ?_;(focus(simp -implicitDefEqProofs (disch:=omega) only[iV,zdB,go_sem,simprocAttr];done)));simp -implicitDefEqProofs (disch:=omega) only[iV,go_sem,simprocAttr])|refine aU (by omega) ?_|(intro hr;have hc:=hr;(try simp only[zdz]at hc);simp -implicitDefEqProofs (disch:=omega) only[hr,iV,go_sem,simprocAttr];(try clear hr))))
    ·have hn:¬q.args.length=t.kids.length:=by omega
     rw[zf hn,Bool.false_and,Bool.false_and]at e;exact aV (by rw[e]) rfl
    have hn:q.args.length=t.kids.length:=by omega
    rw[zt hn,Bool.true_and]at e;refine gW (fun(k:Nat)=>(.k::.k::.k::.k::.j::.k::.k::.k::.k::.j::.j::.j::.j::(rp 41 .k (.v (.i .i64 (k:Nat))::(rp 24 .j (rp 39 .k [])))))) (fun k=>(.box false (bX s)::.box false (tmC t)::(g++[.box false (bG q)]))) (fun k=>k≤t.kids.length∧∀j,j<k→((ofR s (t.kids.getD j default)).2&&sP s (ofR s (t.kids.getD j default)).1 (q.args.getD j []))=true) (fun k=>t.kids.length-k) (0) [] ⟨aR _,fun j h=>by omega⟩ (by simp[avs,avb,avi,avo,bG,bX]) (by simp[fO]) ?_;rintro kk g2 j2 ⟨hkk,ha2⟩;refine zg ?_;(refine zt2 (aLi s (t.kids.getD kk default) hs) (bBk s (ofR s (t.kids.getD kk default)).1 (q.args.getD kk []) hm) ?_;repeat' first|exact trivial|refine zJ ?_ ?_|refine zH fun hc=>?_)
    ·exact aV (by rw[e,iZ kk (by omega) (by rw[hc,Bool.and_false]),Bool.false_and]) rfl
    ·exact⟨kk+1,_,⟨by omega,cR ha2 (by rw[hc,Bool.and_true];assumption)⟩,by omega,rfl,by simp⟩
    ·exact aV (by rw[e,iZ kk (by omega) (by rw[hc,Bool.false_and]),Bool.false_and]) rfl
    ·exact aV (by rw[e,mH (fun j hj=>ha2 j (by omega)),er,Bool.true_and]) rfl
  ·rw[pX (fun j hj=>ha j (by omega)),Bool.true_and,if_neg (by assumption),if_neg (by assumption),if_pos hc]at e;refine cO (fun(i:Nat)=>(.k::.k::.k::.k::.j::(rp 8 .k (.v (.i .i64 ((2*i:Nat):Int))::(rp 67 .k (rp 33 .j [.k,.k,.k,.k])))))) (fun i=>(.box false (bX s)::.box false (tmC t)::g)) (fun i=>2*i≤t.kids.length+1∧∀j,j<i→zM P4 t j=true) (fun i=>t.kids.length+1-2*i) (0) ⟨aR _,fun j h=>by omega⟩ rfl (by simp[fO]) ?_;rintro i j2 ⟨hi,ha2⟩;have h0:(((2*i:Nat):Int)-2).toNat=2*i-2:=by omega
   have o1:2*i<t.kids.length→OkT (t.kids.getD (2*i) default):=fun h=>ht.kid _ (cC h);have o2:2*i<t.kids.length→OkT (t.kids.getD (2*i-2) default):=fun h=>ht.kid _ (cC (by omega));refine zh h0 ?_;(repeat'(first|refine gT ?_ ?_|refine gF ?_ ?_|refine gC ?_ ?_|((first|refine cF (bGi (t.kids.getD (2*i) default)) ?_|refine cF (bSz (t.kids.getD (2*i-2) default) (t.kids.getD (2*i) default) (o2 (by omega)) (o1 (by omega))) ?_);simp -implicitDefEqProofs (disch:=omega) only[h0,go_sem,simprocAttr])|refine aU (by omega) ?_|(intro hr;have hc:=hr;(try simp only[zdz]at hc);simp -implicitDefEqProofs (disch:=omega) only[hr,h0,go_sem,simprocAttr];(try clear hr))))
   ·exact aV (by rw[e,sR,iZ i (by omega) (aKi (by assumption) hc),Bool.false_and]) rfl
   ·exact⟨i+1,⟨by omega,cR ha2 (aDu (by assumption) hc)⟩,by omega,by rw[show((2*(i+1):Nat):Int)=((2*i:Nat):Int)+2 by omega]⟩
   ·exact⟨i+1,⟨by omega,cR ha2 (aTi (by assumption) hc)⟩,by omega,by rw[show((2*(i+1):Nat):Int)=((2*i:Nat):Int)+2 by omega]⟩
   ·exact aV (by rw[e,sR,iZ i (by omega) (aDv hc),Bool.false_and]) rfl
   ·exact aV (by rw[e,sR,mH (fun j hj=>ha2 j (by omega)),er,Bool.true_and]) rfl
  ·rw[pX (fun j hj=>ha j (by omega)),Bool.true_and,if_neg (by assumption),if_neg (by assumption),if_neg (by assumption),Bool.true_and]at e;exact aV (by rw[e,er]) rfl
theorem bTf(s:dF)(hm:Small s)(hs:OkS s):∀(t:LTerm),OkT t→CT 104 [.agg (bX s),elT t] (.b (qQ s t)):=
 fG fun t hk _ ht=>bCg s t hm hs ht (fun k hm=>hk k hm (ht.kid k hm))
theorem aVk{a b:Int}:sG a b=0↔a=b:=by
 rw[sG];split
 ·omega
 ·split<;>omega
theorem aVj{a b:Str}:rE a b=0↔a=b:=by
 constructor
 ·intro h;by_cases h1:a<b
  ·rw[aAd h1]at h;cases h
  ·by_cases h2:a=b
   ·exact h2
   ·rw[aAe h1 h2]at h;cases h
 ·exact aAf
structure ZN(t:LTerm):Prop where
 a:t.kind=1∨t.kind=2→t.text=[]∧t.sort=[]∧t.kids=[]∧t.rest=[]
 b:t.kind=3∨t.kind=4→t.n=0∧t.sort=[]∧t.kids=[]∧t.rest=[]
 c:t.kind=5→t.n=0∧t.sort=[]∧t.rest=[]
 d:t.kind=6→t.n=0∧t.kids=[]∧t.rest=[]
 e:t.kind=7∨t.kind=8→t.n=0∧t.text=[]∧t.sort=[]
 f:1≤t.kind∧t.kind≤8
theorem rL{t:LTerm}{a b c d e:Bool}(h:fX t a b c d e=true):(a=false→t.n=0)∧(b=false→t.text=[])∧(c=false→t.sort=[])∧(d=false→t.kids=[])∧(e=false→t.rest=[]):=by
 simp only[fX,aB,cM,decide_eq_true_eq]at h;obtain⟨⟨⟨⟨h1,h2⟩,h3⟩,h4⟩,h5⟩:=h;exact⟨fun h=>h1.resolve_left (by simp[h]),fun h=>h2.resolve_left (by simp[h]),fun h=>h3.resolve_left (by simp[h]),fun h=>h4.resolve_left (by simp[h]),fun h=>h5.resolve_left (by simp[h])⟩
theorem aSk{t:LTerm}(h:dQ t=true):ZN t:=by
 have two:∀{x y:Bool},(x&&y)=true→x=true∧y=true:=by simp
 unfold dQ at h;split at h
 ·have z:=rL (two h).2;exact⟨fun _=>⟨z.2.1 rfl,z.2.2.1 rfl,z.2.2.2.1 rfl,z.2.2.2.2 rfl⟩,fun _=>by omega,fun _=>by omega,fun _=>by omega,fun _=>by omega,by omega⟩
 split at h
 ·have z:=rL (two h).2;exact⟨fun _=>⟨z.2.1 rfl,z.2.2.1 rfl,z.2.2.2.1 rfl,z.2.2.2.2 rfl⟩,fun _=>by omega,fun _=>by omega,fun _=>by omega,fun _=>by omega,by omega⟩
 split at h
 ·have z:=rL (two h).2;exact⟨fun _=>by omega,fun _=>⟨z.1 rfl,z.2.2.1 rfl,z.2.2.2.1 rfl,z.2.2.2.2 rfl⟩,fun _=>by omega,fun _=>by omega,fun _=>by omega,by omega⟩
 split at h
 ·have z:=rL (two h).2;exact⟨fun _=>by omega,fun _=>⟨z.1 rfl,z.2.2.1 rfl,z.2.2.2.1 rfl,z.2.2.2.2 rfl⟩,fun _=>by omega,fun _=>by omega,fun _=>by omega,by omega⟩
 split at h
 ·have z:=rL (two h).2;exact⟨fun _=>by omega,fun _=>by omega,fun _=>⟨z.1 rfl,z.2.2.1 rfl,z.2.2.2.2 rfl⟩,fun _=>by omega,fun _=>by omega,by omega⟩
 split at h
 ·have z:fX t false true true false false=true:=by
   split at h
   ·exact(two h).2
   ·exact(two h).2
  have z:=rL z;exact⟨fun _=>by omega,fun _=>by omega,fun _=>by omega,fun _=>⟨z.1 rfl,z.2.2.2.1 rfl,z.2.2.2.2 rfl⟩,fun _=>by omega,by omega⟩
 split at h
 ·have z:=rL (two h).2;exact⟨fun _=>by omega,fun _=>by omega,fun _=>by omega,fun _=>by omega,fun _=>⟨z.1 rfl,z.2.1 rfl,z.2.2.1 rfl⟩,by omega⟩
 split at h
 ·have z:=rL (two h).2;exact⟨fun _=>by omega,fun _=>by omega,fun _=>by omega,fun _=>by omega,fun _=>⟨z.1 rfl,z.2.1 rfl,z.2.2.1 rfl⟩,by omega⟩
 ·cases h
theorem aQy{t:LTerm}{so:Str}(h:qA t so=true):∀r∈t.rest,ZN r∧r.kids=[]∧r.rest=[]:=by
 intro r hr;simp only[qA,cM,aB,decide_eq_true_eq]at h;rcases h with h|⟨⟨⟨⟨h1,h2⟩,h3⟩,h4⟩,h5⟩
 ·rw[List.length_eq_zero_iff]at h;rw[h]at hr;cases hr
 ·obtain⟨x,hx⟩:=aFo.1 h1;rw[hx]at hr h2 h5;simp only[bJ]at hr;subst hr;simp only[gG]at h2 h5;have z:=rL h5;exact⟨⟨fun _=>by omega,fun _=>by omega,fun _=>by omega,fun _=>⟨z.1 rfl,z.2.2.2.1 rfl,z.2.2.2.2 rfl⟩,fun _=>by omega,by omega⟩,z.2.2.2.1 rfl,z.2.2.2.2 rfl⟩
theorem J7{t:LTerm}(h:dQ t=true):∀r∈t.rest,ZN r∧r.kids=[]∧r.rest=[]:=by
 have two:∀{x y:Bool},(x&&y)=true→x=true∧y=true:=by simp
 have z:=aSk h;intro r hr;have hne:t.rest ≠ []:=fun e=>by rw[e]at hr;cases hr
 have h7:t.kind=7∨t.kind=8:=by
  rcases z.f with⟨f1,f2⟩;by_cases h1:t.kind=1∨t.kind=2
  ·exact absurd (z.a h1).2.2.2 hne
  by_cases h3:t.kind=3∨t.kind=4
  ·exact absurd (z.b h3).2.2.2 hne
  by_cases h5:t.kind=5
  ·exact absurd (z.c h5).2.2 hne
  by_cases h6:t.kind=6
  ·exact absurd (z.d h6).2.2 hne
  omega
 unfold dQ at h;rw[if_neg (by omega),if_neg (by omega),if_neg (by omega),if_neg (by omega),if_neg (by omega),if_neg (by omega)]at h;split at h
 ·exact aQy (two h).1 r hr
 ·split at h
  ·exact aQy (two (two h).1).1 r hr
  ·cases h
inductive ZT:LTerm→Prop
 |mk {t:LTerm}:ZN t→(∀k∈t.kids,ZT k)→(∀k∈t.rest,ZT k)→ZT t
theorem nF{p:LTerm→Bool}{t:LTerm}:wfT p t=true↔p t=true∧∀k∈t.kids,wfT p k=true:=by
 have hl:∀l:List LTerm,wfL p l=true↔∀k∈l,wfT p k=true:=by
  intro l;induction l with
  |nil=>simp[wfL]
  |cons a l ih=>simp[wfL,ih]
 cases t;rw[wfT,aB,hl];rfl
theorem bHb:∀t:LTerm,wfT dQ t=true→ZT t:=
 fG fun t hk _ h=>by
  rw[nF]at h;refine .mk (aSk h.1) (fun k hm=>hk k hm (h.2 k hm)) (fun r hr=>?_);have z:=J7 h.1 r hr;exact .mk z.1 (fun k hm=>by rw[z.2.1]at hm;cases hm) (fun k hm=>by rw[z.2.2]at hm;cases hm)
theorem yI(a:Int):sG a a=0:=aAg rfl
theorem uB(a:Str):rE a a=0:=aAf rfl
theorem xK:ordPL [] []=0:=by rw[ordPL]
theorem aGt:∀(l m:List LTerm),(∀a∈l,∀b∈m,P4 a b=O9 a b)→ordRL l m=ordPL l m
 | [],[],_=>by rw[ordRL,ordPL]
 | [],_::_,_=>by rw[ordRL,ordPL]
 |_::_,[],_=>by rw[ordRL,ordPL]
 |a::l,b::m,h=>by
  rw[ordRL,ordPL,h a (by simp) b (by simp),aGt l m (fun x hx y hy=>h x (by simp[hx]) y (by simp[hy]))]
theorem bPj:∀(a:LTerm),ZT a→∀b,ZT b→P4 a b=O9 a b:=
 fG (Q := fun a=>ZT a→∀b,ZT b→P4 a b=O9 a b) fun a hk hr ha b hb=>by
  obtain⟨za,ka,ra⟩:=ha;obtain⟨zb,kb,rb⟩:=hb;have e1:ordRL a.kids b.kids=ordPL a.kids b.kids:=aGt _ _ (fun x hx y hy=>hk x hx (ka x hx) y (kb y hy));have e2:ordRL a.rest b.rest=ordPL a.rest b.rest:=aGt _ _ (fun x hx y hy=>hr x hx (ra x hx) y (rb y hy));rw[aSd,aGs,e1,e2];by_cases h0:sG a.kind b.kind=0
  ·rw[if_pos h0,if_pos h0]
   have h0:=aVk.1 h0;by_cases h1:a.kind=1∨a.kind=2
   ·obtain⟨x1,x2,x3,x4⟩:=za.a h1;obtain⟨y1,y2,y3,y4⟩:=zb.a (by omega);rw[if_pos h1,x1,x2,x3,x4,y1,y2,y3,y4,uB,xK];simp only[if_true];split
    ·assumption
    ·rfl
   rw[if_neg h1];by_cases h3:a.kind=3∨a.kind=4
   ·obtain⟨x1,x2,x3,x4⟩:=za.b h3;obtain⟨y1,y2,y3,y4⟩:=zb.b (by omega);rw[if_pos h3,x1,x2,x3,x4,y1,y2,y3,y4,uB,yI,xK];simp only[if_true];split
    ·assumption
    ·rfl
   rw[if_neg h3];by_cases h6:a.kind=6
   ·obtain⟨x1,x3,x4⟩:=za.d h6;obtain⟨y1,y3,y4⟩:=zb.d (by omega);rw[if_pos h6,x1,x3,x4,y1,y3,y4,yI,xK];simp only[if_true];split
    ·split
     ·assumption
     ·rfl
    ·rfl
   rw[if_neg h6];by_cases h5:a.kind=5
   ·obtain⟨x1,x3,x4⟩:=za.c h5;obtain⟨y1,y3,y4⟩:=zb.c (by omega);rw[if_pos h5,x1,x3,x4,y1,y3,y4,yI,uB,xK];simp only[if_true];split
    ·split
     ·assumption
     ·rfl
    ·rfl
   rw[if_neg h5];have f:=za.f;obtain⟨x1,x3,x4⟩:=za.e (by omega);obtain⟨y1,y3,y4⟩:=zb.e (by omega);rw[x1,x3,x4,y1,y3,y4,yI,uB];simp only[if_true]
  ·rw[if_neg h0,if_neg h0]
theorem bCk{a b:Str}:rE a b<0↔a<b:=by
 by_cases h1:a<b
 ·rw[aAd h1];simp[h1]
 ·by_cases h2:a=b
  ·subst h2;rw[uB];simp[h1]
  ·rw[aAe h1 h2];simp[h1]
def fN(s:dF)(t:LTerm):Bool:=iQ dQ t&&nY s t
theorem aVg(s:dF)(t:LTerm)(hs:Small s)(ht:OkT t): CT 47 [cD s,elT t] (.b (fN s t)):=by
 refine aZ cI Tryz.func47 g0 ?_
 ·skip;(refine zt2 (aLg t ht) (bTg s hs t ht) ?_;repeat' first|exact trivial|refine zJ ?_ ?_|refine zH fun hc=>?_);all_goals refine aV ?_ rfl
  all_goals simp only[fN, *,Bool.true_and,Bool.false_and]
theorem aBr{s:dF}(h:fM s=true):∀o∈s.ops,aTk s o=true:=by
 simp only[fM,oO,pO,qL,aB,bF,decide_eq_true_eq]at h;exact h.2.1.2
theorem aSh{s:dF}{o:LOp}(h:aTk s o=true):existsA s o.sort=true:=by
 simp only[aTk,opHead,aB,eS]at h;simp[existsA,keysOf,h.1.1.1.1.1.2]
theorem aJt{s:dF}{x:Str}{o:LOp}(h:X5 s x=some o):o∈s.ops:=lH h
theorem mF{s:dF}{x:Str}(h:x∈iD):existsA s x=true:=by simp[existsA,keysOf,h]
theorem R5{s:dF}{t:LTerm}(hv:fM s=true)(hz:1≤t.kind∧t.kind≤8)(hp:nY s t=true):ofR s t=(jU s t,true)∧existsA s (jU s t)=true:=by
 rw[xJ]at hp;simp only[aB,dB,decide_eq_false_iff_not]at hp;obtain⟨⟨⟨h6,_⟩,_⟩,ha⟩:=hp;by_cases h5:t.kind=5
 ·rw[if_pos h5,J3]at ha;cases ho:X5 s t.text with
  |none=>rw[ho]at ha;cases ha
  |some o=>
   have e1:(called s t.text).1=o:=by rw[called,ho]
   have e2:(argsR2 s t.text).2=(o.sort,true):=by rw[argsR2,ho]
   simp only[jU,ofR,h5,Int.reduceEq,if_true,if_false,e1,e2,true_and];exact aSh (aBr hv o (aJt ho))
 ·simp only[jU,ofR];split
  ·exact⟨rfl,mF (by decide)⟩
  split
  ·exact⟨rfl,mF (by decide)⟩
  split
  ·exact⟨rfl,mF (by decide)⟩
  split
  ·exact⟨rfl,mF (by decide)⟩
  split
  ·exact⟨rfl,mF (by decide)⟩
  split
  ·exact⟨rfl,mF (by decide)⟩
  ·omega
theorem all_congr{l:List LTerm}{f g:LTerm→Bool}(h:∀x∈l,f x=g x):l.all f=l.all g:=by
 induction l with
 |nil=>rfl
 |cons a l ih=>rw[fJ,fJ,h a (by simp),ih (fun x hx=>h x (by simp[hx]))]
theorem zY{n:Nat}{f g:Nat→Bool}(h:∀j,j<n→f j=g j):Q1 n f=Q1 n g:=by
 rw[dK,nD,nD];exact⟨fun a j hj=>h j hj▸a j hj,fun a j hj=>(h j hj).symm▸a j hj⟩
theorem aTh{t:LTerm}(h:∀k∈t.kids,ZT k):sR P4 t=sR O9 t:=by
 refine zY fun j hj=>?_;have e:P4 (t.kids.getD (2*j-2) default) (t.kids.getD (2*j) default)=O9 (t.kids.getD (2*j-2) default) (t.kids.getD (2*j) default):=bPj _ (h _ (cC (by omega))) _ (h _ (cC (by omega)));rw[zM,zM,e]
theorem aZd{s:dF}(hv:fM s=true):∀t:LTerm,wfT dQ t=true→qQ s t=nY s t:=
 fG (Q := fun t=>wfT dQ t=true→qQ s t=nY s t) fun t hk _ hw=>by
  have hw':=nF.1 hw;have z:=bHb t hw;have e:t.kids.all (qQ s)=t.kids.all (nY s):=all_congr fun x hx=>hk x hx (hw'.2 x hx);rw[aCs,xJ,e];rcases kC (t.kids.all (nY s))with ha|ha
  ·rw[ha,Bool.true_and,Bool.and_true]
   by_cases h6:t.kind=6
   ·rw[if_pos h6,zt h6];rfl
   rw[if_neg h6,zf h6,Bool.not_false,Bool.true_and];by_cases h5:t.kind=5
   ·rw[if_pos h5,if_pos h5]
    have e5:T2 s t=J3 s t:=by
     rw[T2,J3];cases ho:X5 s t.text with
     |none=>rfl
     |some o=>
      dsimp only;congr 1;refine zY fun j hj=>?_;have hm:t.kids.getD j default∈t.kids:=cC hj;have zk:=bHb _ (hw'.2 _ hm);obtain⟨q1,q2⟩:=R5 hv (by cases zk with|mk a _ _=>exact a.f) (bF.1 ha _ hm);rw[q1,Bool.true_and];exact E5 q2
    rw[e5,Bool.and_comm]
   rw[if_neg h5,if_neg h5];by_cases h8:t.kind=8
   ·rw[if_pos h8,if_pos h8,aTh (by cases z with|mk _ b _=>exact b),Bool.and_comm]
   ·rw[if_neg h8,if_neg h8,Bool.and_comm]
  ·rw[ha];simp
theorem pN{t:LTerm}(h:iQ dQ t=true):wfT dQ t=true:=by
 simp only[iQ,aB]at h;exact h.1.1
theorem bGf(s:dF)(t:LTerm)(hm:Small s)(hs:OkS s)(hv:fM s=true)(ht:OkT t): CT 52 [.agg (bX s),elT t] (.b (fN s t)):=by
 refine aZ cI Tryz.func52 g0 ?_
 ·skip;(refine zt2 (bGe t ht) (bTf s hm hs t ht) ?_;repeat' first|exact trivial|refine zJ ?_ ?_|refine zH fun hc=>?_);all_goals refine aV ?_ rfl
  ·rw[fN,hc,aZd hv t (pN hc),Bool.true_and]
  ·rw[fN,hc,Bool.false_and]
theorem aNl{s:dF}{t:LTerm}(h:fN s t=true):1≤t.kind∧t.kind≤8:=by
 rw[fN,aB]at h;have z:=bHb t (pN h.1);cases z with|mk a _ _=>exact a.f
theorem bEj{H g:List AObj}{out:AV}{l:List LTerm}(h:gD 6 0 g out (l.flatMap aM) l.length)(hH:H=g):Rd6 H out l:=by
 subst hH;rcases h with⟨rfl,hn,h0⟩|⟨i,rfl,hi,hl⟩
 ·exact .inl ⟨rfl,List.length_eq_zero_iff.1 (by omega)⟩
 ·refine .inr (.inr ⟨i+0,0,_,_,_,rfl,(by simpa using hi),by omega,?_⟩);rw[bA,aS (by omega)]
theorem bFe{H:List AObj}{v:AV}{l:List LTerm}(r:Rd6 H v l):Fin H v (.sl (l.flatMap aM) l.length):=by
 have e:=bIl r;have e1:pI H v (.sl (l.flatMap aM) l.length):=e.1;have e2:cX v (.sl (l.flatMap aM) l.length)=[]:=e.2;exact .inr ⟨e1,by rw[e2];exact eM,by rw[e2];simp⟩
theorem aMw{l:List LTerm}{k:Nat}(h:k<l.length):(l.take (k+1)).flatMap aM=(l.take k).flatMap aM++aM (l.getD k default):=by
 rw[eZ (d:=default) h,List.flatMap_append];simp
theorem mL{α:Type}{l:List α}:(List.replicate 1 l).flatten=l:=by simp
theorem aLf(l:List LTerm)(hl:l.length≤1466015503701)(ih:∀t∈l,CT 60 [elT t] (elT t)): CT 122 [avt l] (avt l):=by
 refine cW cI Tryz.func122 g0 ?_
 ·simp -implicitDefEqProofs (disch:=omega) only[Tryz.f122,go_sem,List.replicate,↓reduceIte,reduceAdd,reduceSub,reduceMul,reduceLeDiff,reduceLT,reduceEqDiff,reduceNeg,Nat.reduceBEq,avt];refine cO (fun(s:Nat×AV×List AObj)=>(.k::.k::.k::.v (s.2.1)::.k::.j::.k::.k::.v (.i .i64 (s.1:Nat))::(rp 9 .j [.k]))) (fun s=>s.2.2) (fun s=>s.1≤l.length∧gD 6 0 s.2.2 s.2.1 ((l.take s.1).flatMap aM) s.1) (fun s=>l.length-s.1) ((0,.e0,[])) ⟨aR _,eX⟩ rfl (by simp[fO]) ?_;rintro⟨k,out,g⟩ j ⟨hk,ho⟩;dsimp only at hk ho;have o:k<l.length→CT 60 [elT (l.getD k default)] (elT (l.getD k default)):=fun h=>ih _ (cC h);refine zg ?_;(repeat'(first|refine gT ?_ ?_|refine gF ?_ ?_|refine gC ?_ ?_|((refine bM ((o (by omega))) ?_ ?_;(focus(simp -implicitDefEqProofs (disch:=omega) only[mL,zdB,go_sem,↓reduceIte,reduceAdd,reduceSub,reduceMul,reduceLeDiff,reduceLT,reduceEqDiff,reduceNeg,Nat.reduceBEq];done)));simp -implicitDefEqProofs (disch:=omega) only[mL,go_sem,↓reduceIte,reduceAdd,reduceSub,reduceMul,reduceLeDiff,reduceLT,reduceEqDiff,reduceNeg,Nat.reduceBEq])|refine aU (by omega) ?_|(intro hr;have hc:=hr;(try simp only[zdz]at hc);simp -implicitDefEqProofs (disch:=omega) only[hr,mL,go_sem,↓reduceIte,reduceAdd,reduceSub,reduceMul,reduceLeDiff,reduceLT,reduceEqDiff,reduceNeg,Nat.reduceBEq];(try clear hr))))
  ·refine eI (pre:=[]) (g:=g++[.box false (tmC (l.getD k default))]) (more:=[.arr false 6 ((tmC (l.getD k default)))]) (news:=(tmC (l.getD k default))) (m:=1) ((ho).more _) rfl (by simp -implicitDefEqProofs (disch:=omega) only[go_sem,↓reduceIte,reduceAdd,reduceSub,reduceMul,reduceLeDiff,reduceLT,reduceEqDiff,reduceNeg,Nat.reduceBEq]) bQt bNm bOk bUs rfl (by decide) (by simp -implicitDefEqProofs (disch:=omega) only[go_sem,↓reduceIte,reduceAdd,reduceSub,reduceMul,reduceLeDiff,reduceLT,reduceEqDiff,reduceNeg,Nat.reduceBEq]) (by simp -implicitDefEqProofs (disch:=omega) only[go_sem,↓reduceIte,reduceAdd,reduceSub,reduceMul,reduceLeDiff,reduceLT,reduceEqDiff,reduceNeg,Nat.reduceBEq]) ⟨by omega,by omega⟩ ?_;intro out' g' ho' _;refine zg ?_;refine⟨(k+1,out',g'),⟨by dsimp only;omega,?_⟩,by dsimp only;omega,rfl,by simp⟩;dsimp only;rw[aMw (by omega),aI];exact ho'
  ·have h1:k=l.length:=by omega
   subst h1;rw[fR]at ho;exact bFe (bEj ho rfl)
theorem bCi(t:LTerm)(ihk:CT 122 [avt t.kids] (avt t.kids))(ihr:CT 122 [avt t.rest] (avt t.rest)): CT 60 [elT t] (elT t):=by
 refine aZ cI Tryz.func60 g0 ?_
 ·skip;(refine zt2 ihk ihr ?_;repeat' first|exact trivial|refine zJ ?_ ?_|refine zH fun hc=>?_);all_goals exact aV rfl (by simp only[pers,persL,eW,dW])
theorem bGg:∀(t:LTerm),OkT t→CT 60 [elT t] (elT t):=
 fG fun t hk hr ht=>bCi t (aLf t.kids ht.kids fun x hx=>hk x hx (ht.kid x hx)) (aLf t.rest ht.rest fun x hx=>hr x hx (ht.rst x hx))
end Go.Proofs.YtdjcggcjlphdoaaGreatDoor
